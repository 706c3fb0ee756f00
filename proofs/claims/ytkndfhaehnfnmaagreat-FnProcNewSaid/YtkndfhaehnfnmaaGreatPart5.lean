/- the program and the reference on plain data, part 5 -/
import Derived.Test.YtkndfhaehnfnmaaGreatPart4
import Derived.Test.YtkndfhaehnfnmaaGreatPart1
import Derived.Test.YtkndfhaehnfnmaaGreatPart2
import Derived.Test.YtkndfhaehnfnmaaGreatPart3
import Derived.Test.YtkndfhaehnfnmaaGreatEngC
/-! compiling: the reference's side: whole programs -/
namespace Go.Eng
open Go.Proofs Go.Proofs.Tryz
set_option maxHeartbeats 4000000

structure LeD (m m' : Ms) : Prop where
 len : m.list.length <= m'.list.length
 four : m'.list.length <= 400
 grew : m'.how = 0 -> m.list.length < m'.list.length
 defs : m'.defs.length <= m.defs.length + 1
theorem KR {p : List Nd} (s : ByteArray) (names : List ByteArray) (body : List Int) {m : Ms} (h : m.list.length <= 400) : LeD m (u3 p s names body m) := by
 obtain ⟨h1,h2,h3⟩ := Rk (p := p) s names body h
 refine ⟨h2,h1,h3,?_⟩
 unfold u3
 have a1 := mn (E := o8 p) (fun env v m h => nQ p _ env v m h) [names] body true ⟨m.list,m.defs ++ [⟨s,m.list.length,names.length⟩],qV s m.defs m.how⟩ h
 rw [(dH a1.four (inO 8)).defs,a1.defs]
 simp
theorem Pn {p : List Nd} {v : Int} {m : Ms} (h : m.list.length <= 400) : LeD m (yb p v m) := by
 unfold yb
 simp only
 split
 ·split
  ·exact ⟨Nat.le_refl _,h,fun h => by simp [jD] at h,Nat.le_succ _⟩
  ·split
   ·exact ⟨Nat.le_refl _,h,fun h => by simp [jD] at h,Nat.le_succ _⟩
   ·split
    ·exact ⟨Nat.le_refl _,h,fun h => by simp [jD] at h,Nat.le_succ _⟩
    ·have h2 : (jD m (eJ p (List.drop 1 (gI p ((gI p v).1.getD 1 0)).1) m.how).2).list.length <= 400 := h
     have := KR (p := p) (nod p ((gI p ((gI p v).1.getD 1 0)).1.getD 0 0)).s (eJ p (List.drop 1 (gI p ((gI p v).1.getD 1 0)).1) m.how).1 (List.drop 2 (gI p v).1) h2
     exact ⟨this.len,this.four,this.grew,this.defs⟩
 ·exact KR _ _ _ h
noncomputable def sc (l : List In) : Prop := ∀ x ∈ l,x.s.size < 4611686018427387904
noncomputable def Nt (E : List (List ByteArray) -> Int -> Ms -> Ms) : Prop := ∀ env v (m : Ms),sc m.list -> sc (E env v m).list
theorem fh {m : Ms} (h : sc m.list) {x : In} (hx : x.s.size < 4611686018427387904) : sc (dR m x).list := by
 unfold dR
 split
 ·split
  ·exact h
  ·intro y hy
   rcases List.mem_append.1 hy with hy | hy
   ·exact h y hy
   ·rw [List.mem_singleton.1 hy]; exact hx
 ·exact h
theorem mc : (⟨#[]⟩ : ByteArray).size < 4611686018427387904 := by decide
theorem CE {m : Ms} (h : sc m.list) (k : Int) : sc (toC m k).list := by
 unfold toC
 split
 ·intro y hy
  rcases List.mem_or_eq_of_mem_set hy with hy | rfl
  ·exact h y hy
  ·simp only
   rw [List.getD_eq_getElem?_getD]
   cases hg : m.list[k.toNat]? with
   | none => exact mc
   | some x => exact h x (List.mem_of_getElem? hg)
 ·exact h
theorem tv {E} (hE : Nt E) (env : List (List ByteArray)) : ∀ (xs : List Int) (f : Bool) (m : Ms),sc m.list -> sc (ln E env xs f m).list
 | [],f,m,h => h
 | x :: r,f,m,h => by
  unfold ln
  split
  ·refine tv hE env r false _ (hE env x _ ?_)
   split
   ·exact h
   ·exact fh h mc
  ·exact h
theorem KZ {E} (hE : Nt E) (names : List ByteArray) (body : List Int) (env : List (List ByteArray)) {m : Ms} (h : sc m.list) : sc (JY E names body env m).list := by
 unfold JY
 exact CE (fh (tv hE _ _ _ _ (CE (fh (fh h mc) mc) _)) mc) _
theorem Oe {E} (hE : Nt E) (p : List Nd) (s : ByteArray) (xs : List Int) (env : List (List ByteArray)) {m : Ms} (h : sc m.list) : sc (xb E p s xs env m).list := by
 unfold xb
 simp only
 split
 ·exact fh h mc
 split
 ·exact CE (hE _ _ _ (CE (fh (hE _ _ _ (fh (hE _ _ _ h) mc)) mc) _)) _
 split
 ·exact tv hE _ _ _ _ h
 split
 ·split
  ·exact h
  ·exact KZ hE _ _ _ h
 split
 ·refine fh (hE _ _ _ (KZ hE _ _ _ ?_)) ?_
  ·exact h
  ·exact mc
 ·exact h
theorem F6 {E} (hE : Nt E) (env : List (List ByteArray)) : ∀ (xs : List Int) (m : Ms),sc m.list -> sc (xs.foldl (fun m x => E env x m) m).list
 | [],_,h => h
 | x :: r,m,h => F6 hE env r _ (hE env x m h)
theorem LF {p : List Nd} (hf : fW p) (v : Int) : (nod p v).s.size < 4611686018427387904 := by
 unfold nod
 rw [List.getD_eq_getElem?_getD]
 cases hg : p[v.toNat]? with
 | none => exact mc
 | some x => exact hf x (List.mem_of_getElem? hg)
theorem xF {p : List Nd} (hf : fW p) : ∀ k,Nt (rE p k)
 | 0,env,v,m,h => h
 | k + 1,env,v,m,h => by
  unfold rE
  split
  ·exact h
  simp only
  split
  ·exact fh h mc
  split
  ·split
   ·exact h
   ·split
    ·exact fh h mc
    ·exact fh h (LF hf v)
  split
  ·exact h
  split
  ·exact h
  split
  ·exact Oe (xF hf k) p _ _ env h
  split
  ·exact h
  ·exact fh (F6 (xF hf k) env _ m h) mc
noncomputable def I9 (m : Ms) : Prop := sc m.list /\ ∀ x ∈ m.defs,x.name.size < 4611686018427387904
theorem Li {p : List Nd} (hf : fW p) {s : ByteArray} (hs : s.size < 4611686018427387904) (names : List ByteArray) (body : List Int) {m : Ms} (hm : m.list.length <= 400) (h : I9 m) : I9 (u3 p s names body m) := by
 have hE : Nt (o8 p) := fun env v m h => xF hf _ env v m h
 have hG : pa (o8 p) := fun env v m h => nQ p _ env v m h
 unfold u3
 refine ⟨?_,?_⟩
 ·refine fh (tv hE _ _ _ _ ?_) ?_
  ·exact h.1
  ·exact mc
 have a1 := mn hG [names] body true ⟨m.list,m.defs ++ [⟨s,m.list.length,names.length⟩],qV s m.defs m.how⟩ hm
 rw [(dH a1.four (inO 8)).defs,a1.defs]
 intro x hx
 rcases List.mem_append.1 hx with hx | hx
 ·exact h.2 x hx
 ·rw [List.mem_singleton.1 hx]; exact hs
theorem KY {p : List Nd} (hf : fW p) {v : Int} {m : Ms} (hm : m.list.length <= 400) (h : I9 m) : I9 (yb p v m) := by
 unfold yb
 simp only
 split
 ·split
  ·exact h
  ·split
   ·exact h
   ·split
    ·exact h
    ·exact Li hf (LF hf _) _ _ hm h
 ·exact Li hf (by decide) _ _ hm h
noncomputable abbrev zN (r : Cd × Int × Int) : Option Ret := some (.tup [oCd r.1,.int .i64 r.2.1,.int .i64 r.2.2],[])
theorem z8 {p : List Nd} (hp : fa p) (hf : fW p) (hl : p.length <= 5000) {xs : List Int} (hxl : xs.length <= 1000000) (hx : ∀ x ∈ xs,InP p x) : ∀ (k i : Nat) (m : Ms),i + k = xs.length -> m.list.length <= 400 -> m.defs.length <= i -> I9 m ->
  fC (xs.map eI) (i : Int) m.how (p.map eN) (m.list.map eIn) (m.defs.map eDf) = zN (kW p xs.length (xs.drop i) i m)
 | 0,i,m,hi,hm,hd,hs => by
  have hfc : FitsC ⟨p,m.list,m.defs⟩ := ⟨hf,by show p.length < _; omega,hs.1,by show m.list.length < _; omega,hs.2,by show m.defs.length < _; omega⟩
  have hok := mG hfc
  rw [fX,av (by rw [lnM]; exact dc (by omega)),FC hok,List.drop_of_length_le (by omega),kW,lnM]
  cases gx ⟨p,m.list,m.defs⟩ with
  | false => rw [Bool.not_false,am,if_neg (by decide)]; rfl
  | true => rw [Bool.not_true,al,if_pos rfl]
 | k + 1,i,m,hi,hm,hd,hs => by
  obtain ⟨x,hg⟩ := aE (l := xs) (i := i) (by omega)
  have ht := RX hp hl (hx x (List.mem_of_getElem? hg)) hm (by omega)
  have le := Pn (p := p) (v := x) hm
  have ih := z8 hp hf hl hxl hx k (i + 1) (yb p x m) (by omega) le.four (by have := le.defs; omega) (KY hf hm hs)
  rw [fX,aC (by rw [lnM]; exact cm (by omega)),au (by rw [lnM]; exact bj (by omega)),Int.toNat_natCast,aq hg,ak,I8 ht,cX hg,kW,dd (by omega),ih]
  by_cases h3 : (yb p x m).how = 3
  ·rw [aC (bc h3),if_pos h3]; rfl
  ·rw [av (bg h3),if_neg h3]
   by_cases h0 : (yb p x m).how = 0
   ·rw [av (pu h0),if_neg (fun h => h h0)]; rfl
   ·rw [aC (pi h0),if_pos h0]; rfl
theorem J8 {p : List Nd} (hp : fa p) (hf : fW p) (hl : p.length <= 5000) {xs : List Int} (hxl : xs.length <= 1000000) (hx : ∀ x ∈ xs,InP p x) : jg (xs.map eI) 0 0 (p.map eN) = zN (kW p xs.length xs 0 ⟨[],[],0⟩) := by
 have hs : I9 ⟨[],[],0⟩ := ⟨fun x h => by simp at h,fun x h => by simp at h⟩
 have h := z8 hp hf hl hxl hx xs.length 0 ⟨[],[],0⟩ (by omega) (by simp) (by simp) hs
 rw [Int.natCast_zero,List.drop_zero] at h
 rw [<- h,qN,fX]
 rfl
theorem EU {p : List Nd} (hp : fa p) (hf : fW p) (hl : p.length <= 4999) {xs : List Int} (hxl : xs.length <= 1000000) : ∀ (k i : Nat),i + k = xs.length -> (∀ x ∈ xs.take i,wi x 0 ((p.length : Int) - 1) = true) ->
  gK (xs.map eI) (i : Int) (p.map eN) = zN (if dl p (xs.drop i) = true then kW p xs.length xs 0 ⟨[],[],0⟩ else (⟨[],[],[]⟩,3,0))
 | 0,i,hi,ht => by
  have hx : ∀ x ∈ xs,InP p x := fun x h => by
   have := wi_iff.1 (ht x (by rw [List.take_of_length_le (by omega)]; exact h))
   exact ⟨this.1,by omega⟩
  have hcp := Ny (p := p) (by omega)
  rw [kJ,av (by rw [lnM]; exact dc (by omega)),cH hcp,J8 hp hf (by omega) hxl hx,List.drop_of_length_le (by omega),if_pos (by rfl)]
 | k + 1,i,hi,ht => by
  obtain ⟨x,hg⟩ := aE (l := xs) (i := i) (by omega)
  rw [kJ,aC (by rw [lnM]; exact cm (by omega)),au (by rw [lnM]; exact bj (by omega)),Int.toNat_natCast,aq hg,ak,Jo (mg (by omega) x),cX hg,dd (by omega)]
  have er : dl p (x :: xs.drop (i + 1)) = (wi x 0 ((p.length : Int) - 1) && dl p (xs.drop (i + 1))) := rfl
  rw [er]
  cases hw : wi x 0 ((p.length : Int) - 1) with
  | false => rw [Bool.not_false,am,Bool.false_and,if_neg (by decide)]; rfl
  | true =>
   have ih := EU hp hf hl hxl k (i + 1) (by omega) (fun y hy => by
    rw [List.take_add_one,hg] at hy
    rcases List.mem_append.1 hy with hy | hy
    ·exact ht y hy
    ·simp at hy; rw [hy]; exact hw)
   rw [Bool.not_true,al,Bool.true_and,ih]
theorem pq {p : List Nd} (hf : fW p) (hl : p.length < 4611686018427387904) {xs : List Int} (hxl : xs.length <= 1000000) : V 193 [eP p,.rs (1,0) (xs.map eI)] = zN (sY p xs) := by
 rw [zk,lD (de hf hl)]
 unfold sY
 cases h : bu p with
 | false => rw [Bool.not_false,am,if_neg (by simp)]; rfl
 | true =>
  obtain ⟨h1,h2⟩ := okPool_iff.1 h
  have hh := EU h1 hf (by omega) hxl xs.length 0 (by omega) (by simp)
  rw [Int.natCast_zero,List.drop_zero] at hh
  rw [Bool.not_true,al,hh]
  by_cases hr : dl p xs = true
  ·rw [if_pos hr,if_pos ⟨rfl,hr⟩]
  ·rw [if_neg hr,if_neg (fun h => hr h.2)]
end Go.Eng
/-! the functions as the interpreter has them -/
/-! what is drawn: the cursor -/
namespace Go.Eng
open Go.Proofs Go.Proofs.Tryz

noncomputable def eB (x : Int) : D := .int .u8 x
noncomputable abbrev eC (b : List Int) (c : Int × Int) : D := .op [.rs (1,0) (b.map eB),.int .i64 c.1,.int .i64 c.2]
noncomputable def dT (b : List Int) (c : Int × Int) : Prop := 0 <= c.1 /\ c.1 <= b.length
theorem B9 (x : Int) : 0 <= IntKind.wrap IntKind.i64 (ni (BitVec.toNat (BitVec.ofInt (IntKind.bits IntKind.i64) x &&& BitVec.ofInt (IntKind.bits IntKind.i64) 255))) /\ IntKind.wrap IntKind.i64 (ni (BitVec.toNat (BitVec.ofInt (IntKind.bits IntKind.i64) x &&& BitVec.ofInt (IntKind.bits IntKind.i64) 255))) <= 255 := by
 have h : BitVec.toNat (BitVec.ofInt (IntKind.bits IntKind.i64) x &&& BitVec.ofInt (IntKind.bits IntKind.i64) 255) <= 255 := by
  rw [BitVec.toNat_and]
  exact Nat.le_trans Nat.and_le_right (by decide)
 rw [w64 (by simp only [ni]; omega) (by simp only [ni]; omega)]
 simp only [ni]; omega

section
variable {b : List Int} {c : Int × Int}
theorem qm (hb : b.length < 4611686018427387904) (h : dT b c) : ∃ v c',V 143 [eC b c] = some (.int .i64 v,[eC b c']) /\ dT b c' /\ 0 <= v /\ v <= 255 := by
 obtain ⟨h1,h2⟩ := h
 rw [Dl,au (by decide),au (by decide)]
 by_cases hi : c.1 < b.length
 ·obtain ⟨k,hk⟩ := Int.eq_ofNat_of_zero_le h1
  obtain ⟨x,hx⟩ := aE (l := b) (i := k) (by omega)
  rw [hk]
  rw [aC (by rw [lnM]; exact cm (by omega)),au (by rw [lnM]; exact bj (by omega)),Int.toNat_natCast,aq hx]
  unfold eB
  rw [ak]
  refine ⟨_,(_,_),rfl,⟨?_,?_⟩,(B9 _).1,(B9 _).2⟩
  ·show 0 <= IntKind.wrap IntKind.i64 ((k : Int) + 1)
   rw [w64 (by omega) (by omega)]; omega
  ·show IntKind.wrap IntKind.i64 ((k : Int) + 1) <= _
   rw [w64 (by omega) (by omega)]; omega
 ·rw [av (decide_eq_false (by simp only [ni,lnM]; omega))]
  exact ⟨_,(c.1,IntKind.wrap .i64 (IntKind.wrap .i64 (c.2 * 6364136223846793005) + 1442695040888963407)),rfl,⟨h1,h2⟩,(B9 _).1,(B9 _).2⟩

theorem uV (hb : b.length < 4611686018427387904) (h : dT b c) (n : Int) : ∃ v c',V 76 [eC b c,.int .i64 n] = some (.int .i64 v,[eC b c']) /\ dT b c' /\ 0 <= v /\ (0 < n -> v < n) := by
 rw [zr]
 by_cases hn : n <= 0
 ·rw [aC (by simpa using hn)]
  exact ⟨_,c,rfl,h,by omega,by omega⟩
 rw [av (by simpa using hn)]
 by_cases h256 : n <= 256
 ·rw [aC (by simpa using h256)]
  obtain ⟨v,c1,hv,h1,hv1,hv2⟩ := qm hb h
  rw [aH hv]
  simp only [ak,aZ,aA,ai,aj]
  rw [au (by simp; omega)]
  exact ⟨_,c1,rfl,h1,Int.tmod_nonneg _ hv1,fun _ => Int.tmod_lt_of_pos _ (by omega)⟩
 ·rw [av (by simpa using h256)]
  obtain ⟨v1,c1,hv1,a1,b1⟩ := qm hb h
  obtain ⟨v2,c2,hv2,a2,b2⟩ := qm hb a1
  obtain ⟨v3,c3,hv3,a3,b3⟩ := qm hb a2
  obtain ⟨v4,c4,hv4,a4,b4⟩ := qm hb a3
  simp only [aH hv1,aH hv2,aH hv3,aH hv4,ak,aZ,aA,ai,aj]
  rw [au (by simp; omega)]
  refine ⟨_,c4,rfl,a4,Int.tmod_nonneg _ ?_,fun _ => Int.tmod_lt_of_pos _ (by omega)⟩
  rw [w64 (n := v1 * 16777216) (by omega) (by omega),w64 (n := v2 * 65536) (by omega) (by omega),w64 (n := v3 * 256) (by omega) (by omega)]
  rw [w64 (n := v1 * 16777216 + v2 * 65536) (by omega) (by omega),w64 (n := v1 * 16777216 + v2 * 65536 + v3 * 256) (by omega) (by omega),w64 (by omega) (by omega)]
  omega

theorem Gh (hb : b.length < 4611686018427387904) (h : dT b c) {l : List Int} (hl : 0 < l.length) : ∃ v c',V 122 [eC b c,.rs (1,0) (l.map (D.int .i64))] = some (.int .i64 v,[eC b c']) /\ dT b c' /\ v ∈ l := by
 obtain ⟨v,c1,hv,a1,b1,b2⟩ := uV hb h (ni (l.map (D.int .i64)).length)
 rw [wz,aH hv]
 simp only [ak,aZ,aA,ai,aj]
 simp only [ni,lnM] at b2
 obtain ⟨k,rfl⟩ := Int.eq_ofNat_of_zero_le b1
 have hk : k < l.length := by have := b2 (by omega); omega
 obtain ⟨x,hx⟩ := aE hk
 rw [au (by rw [lnM]; exact bj hk),Int.toNat_natCast,aq hx,ak]
 exact ⟨_,c1,rfl,a1,List.mem_of_getElem? hx⟩

theorem Qf (hb : b.length < 4611686018427387904) (h : dT b c) {l : List ByteArray} (hl : 0 < l.length) : ∃ v c',V 75 [eC b c,.rs (1,0) (l.map D.str)] = some (.str v,[eC b c']) /\ dT b c' /\ v ∈ l := by
 obtain ⟨v,c1,hv,a1,b1,b2⟩ := uV hb h (ni (l.map D.str).length)
 rw [Dk,aH hv]
 simp only [ak,aZ,aA,ai,aj]
 simp only [ni,lnM] at b2
 obtain ⟨k,rfl⟩ := Int.eq_ofNat_of_zero_le b1
 have hk : k < l.length := by have := b2 (by omega); omega
 obtain ⟨x,hx⟩ := aE hk
 rw [au (by rw [lnM]; exact bj hk),Int.toNat_natCast,aq hx,aF]
 exact ⟨_,c1,rfl,a1,List.mem_of_getElem? hx⟩

theorem Ik (hb : b.length < 4611686018427387904) : ∀ (k i : Nat) (h : Int),i + k = b.length -> ∃ h',ju (b.map eB) h (i : Int) = some (eC b (0,h'),[])
 | 0,i,h,hi => by
  rw [mZ,av (by rw [lnM]; exact dc (by omega))]
  exact ⟨_,rfl⟩
 | k + 1,i,h,hi => by
  obtain ⟨x,hx⟩ := aE (l := b) (i := i) (by omega)
  rw [mZ,aC (by rw [lnM]; exact cm (by omega)),au (by rw [lnM]; exact bj (by omega)),Int.toNat_natCast,aq hx]
  cases h4 : decide ((i : Int) < 4000) with
  | false => exact ⟨_,rfl⟩
  | true =>
   unfold eB
   rw [am,ak,dd (by omega)]
   exact Ik hb k (i + 1) _ (by omega)
theorem Qt (hb : b.length < 4611686018427387904) : ∃ c,V 51 [.rs (1,0) (b.map eB)] = some (eC b c,[]) /\ dT b c := by
 rw [Gl]
 obtain ⟨h',he⟩ := Ik hb b.length 0 (IntKind.wrap IntKind.i64 (17000 + ni (List.length (b.map eB)))) (by omega)
 exact ⟨(0,h'),he,Int.le_refl _,Int.natCast_nonneg _⟩
end
theorem Se (b : List Int) : V 12 [.rs (1,0) (b.map eB)] = some (.bool (decide ((b.length : Int) > 1048576)),[]) := by
 rw [Nw,lnM]
set_option maxRecDepth 100000 in
theorem NR {x : D} (h : ShapeV prog 22 x) : ∃ b : List Int,x = .rs (1,0) (b.map eB) /\ b.length < 4611686018427387904 := by
 obtain ⟨ys,hs,rfl⟩ := h
 obtain ⟨bs,rfl,h1,h2⟩ := hs.slice Tryz.underlying22 (show zOf prog 5 = some (1,0) by kernel_rfl)
 obtain ⟨l,rfl,-⟩ := xf (enc := eB) (p := fun _ => True) (ys := bs) (fun x hx => by
  obtain ⟨ps,hs,rfl⟩ := h2 x hx
  obtain ⟨n,rfl,_⟩ := hs.int Tryz.underlying5
  exact ⟨n,xZ Tryz.underlying5,trivial⟩)
 have hby : prog.bytesOf 5 = 1 := by kernel_rfl
 have hr : reachBytes = 140737488351232 := rfl
 rw [hby,lnM] at h1
 exact ⟨l,by rw [D3 Tryz.underlying22],by omega⟩
end Go.Eng
/-! draws: what is drawn fits,and the cursor goes on -/
namespace Go.Eng
open Go.Proofs Go.Proofs.Tryz

noncomputable def Got (P : D -> List D -> Prop) (r : Option Ret) : Prop := ∃ v l,r = some (v,l) /\ P v l
theorem MJ {r s : Option Ret} (h : r = s) (P : D -> List D -> Prop) : Got P r = Got P s := by rw [h]
attribute [congr] MJ
section
variable {P Q : D -> List D -> Prop}
theorem Pb {v : D} {l : List D} (h : P v l) : Got P (some (v,l)) := ⟨v,l,rfl,h⟩
theorem cM {b : Bool} {x y : Option Ret} (h1 : b = true -> Got P x) (h2 : b = false -> Got P y) : Got P (br b x y) := by
 cases b with
 | true => exact h1 rfl
 | false => exact h2 rfl
theorem f6 {b : Bool} {x : Option Ret} (h : b = true) (h1 : Got P x) : Got P (grd b x) := by rw [au h]; exact h1
theorem w3 {v : D} {l : List D} {f : Nat} {ds : List D} {K : D -> List D -> Option Ret} (h : V f ds = some (v,l)) (h2 : Got P (K v l)) : Got P (ac V f ds K) := by
 rw [aH h]; exact h2
end
noncomputable abbrev jQ (b : List Int) (Q : D -> Prop) : Option Ret -> Prop := Got (fun v l => ∃ c',l = [eC b c'] /\ dT b c' /\ Q v)
section
variable {b : List Int} {Q : D -> Prop} {P : D -> List D -> Prop}
theorem aK {f : Nat} {ds : List D} {K : D -> List D -> Option Ret} (h : jQ b Q (V f ds)) (h2 : ∀ v c',dT b c' -> Q v -> Got P (K v [eC b c'])) : Got P (ac V f ds K) := by
 obtain ⟨v,l,e,c',rfl,hc,hq⟩ := h
 rw [aH e]; exact h2 v c' hc hq
theorem ba {v : D} {c' : Int × Int} (h : dT b c') (hq : Q v) : jQ b Q (some (v,[eC b c'])) := ⟨v,_,rfl,c',rfl,h,hq⟩
theorem ue {Q' : D -> Prop} {r : Option Ret} (h : jQ b Q r) (h2 : ∀ v,Q v -> Q' v) : jQ b Q' r := by
 obtain ⟨v,l,e,c',e2,hc,hq⟩ := h
 exact ⟨v,l,e,c',e2,hc,h2 v hq⟩
end
theorem kU : (⟨#[]⟩ : ByteArray).size <= 100 := by decide
noncomputable def RN (n : Int) (v : D) : Prop := ∃ m : Int,v = .int .i64 m /\ 0 <= m /\ (0 < n -> m < n)
noncomputable def IsB (v : D) : Prop := ∃ m : Bool,v = .bool m
section
variable {b : List Int} {c : Int × Int}
theorem cq (hb : b.length < 4611686018427387904) (h : dT b c) (n : Int) : jQ b (RN n) (V 76 [eC b c,.int .i64 n]) := by
 obtain ⟨v,c',e,h1,h2,h3⟩ := uV hb h n
 exact ⟨_,_,e,c',rfl,h1,v,rfl,h2,h3⟩
theorem qE (hb : b.length < 4611686018427387904) (h : dT b c) (n : Int) : jQ b IsB (V 155 [eC b c,.int .i64 n]) := by
 rw [Dr]
 refine aK (cq hb h n) fun v c1 a1 ⟨m,e,_⟩ => ?_
 subst e
 simp (disch := first | omega | (simp only [lnA,lnC,lnN,lnM,af,aa]; omega)) only [↓aj,↓ai,↓ak,↓aZ,↓aA]
 exact ba a1 ⟨_,rfl⟩
theorem xl (hb : b.length < 4611686018427387904) (h : dT b c) (l : List Int) (hl : 0 < l.length) : jQ b (fun v => ∃ m : Int,v = .int .i64 m /\ m ∈ l) (V 122 [eC b c,.rs (1,0) (l.map (D.int .i64))]) := by
 obtain ⟨v,c',e,h1,h2⟩ := Gh hb h hl
 exact ⟨_,_,e,c',rfl,h1,v,rfl,h2⟩
theorem j8 (hb : b.length < 4611686018427387904) (h : dT b c) (l : List ByteArray) (hl : 0 < l.length) : jQ b (fun v => ∃ m : ByteArray,v = .str m /\ m ∈ l) (V 75 [eC b c,.rs (1,0) (l.map D.str)]) := by
 obtain ⟨v,c',e,h1,h2⟩ := Qf hb h hl
 exact ⟨_,_,e,c',rfl,h1,v,rfl,h2⟩

noncomputable def Qr (v : D) : Prop := ∃ x : Nd,v = eN x /\ x.s.size <= 100
theorem Qk (hb : b.length < 4611686018427387904) (h : dT b c) : jQ b Qr (V 201 [eC b c]) := by
 rw [uW]
 refine aK (cq hb h _) fun v c1 a1 ⟨m,e,m0,m1⟩ => ?_
 subst e
 simp (disch := first | omega | (simp only [lnA,lnC,lnN,lnM,af,aa]; omega)) only [↓aj,↓ai,↓ak,↓aZ,↓aA]
 refine cM (fun _ => ba a1 ⟨⟨_,_,_,_,_⟩,rfl,kU⟩) fun _ => cM (fun _ => ?_) fun _ => cM (fun _ => ?_) fun _ => cM (fun _ => ?_) fun _ => cM (fun _ => ?_) fun _ => ?_
 ·refine aK (cq hb a1 _) fun v c2 a2 ⟨m,e,m0,m1⟩ => ?_
  subst e
  simp (disch := first | omega | (simp only [lnA,lnC,lnN,lnM,af,aa]; omega)) only [↓aj,↓ai,↓ak,↓aZ,↓aA]
  exact ba a2 ⟨⟨_,_,_,_,_⟩,rfl,kU⟩
 ·refine aK (j8 hb a1 [⟨#[97]⟩,⟨#[98,99]⟩,⟨#[120]⟩,⟨#[102]⟩,⟨#[43]⟩,⟨#[108,105,115,116]⟩] (by simp)) fun v c2 a2 ⟨m,e,hm⟩ => ?_
  subst e
  simp (disch := first | omega | (simp only [lnA,lnC,lnN,lnM,af,aa]; omega)) only [↓aj,↓ai,↓ak,↓aF,↓aZ,↓aA]
  refine ba a2 ⟨⟨_,_,m,_,_⟩,rfl,?_⟩
  simp only [List.mem_cons,List.not_mem_nil,or_false] at hm
  rcases hm with rfl | rfl | rfl | rfl | rfl | rfl <;> decide
 all_goals
  refine aK (cq hb a1 _) fun v c2 a2 ⟨m,e,m0,m1⟩ => ?_
  subst e
  simp (disch := first | omega | (simp only [lnA,lnC,lnN,lnM,af,aa]; omega)) only [↓aj,↓ai,↓ak,↓aZ,↓aA]
  exact ba a2 ⟨⟨_,_,_,_,_⟩,rfl,kU⟩
theorem Lr (hb : b.length < 4611686018427387904) (h : dT b c) (n : Int) : jQ b Qr (V 197 [eC b c,.int .i64 n]) := by
 have hat : ∀ {c : Int × Int},dT b c -> jQ b Qr (V 201 [eC b c]) := fun h => Qk hb h
 rw [ui]
 refine cM (fun _ => ?_) fun _ => ?_
 ·refine aK (hat h) fun v c1 a1 ⟨x,e,hx⟩ => ?_
  subst e
  simp (disch := first | omega | (simp only [lnA,lnC,lnN,lnM,af,aa]; omega)) only [↓aj,↓ai,↓ak,↓aF,↓aZ,↓aw,↓aA]
  exact ba a1 ⟨x,rfl,hx⟩
 refine aK (qE hb h 2) fun v c1 a1 ⟨o,e⟩ => ?_
 subst e
 simp (disch := first | omega | (simp only [lnA,lnC,lnN,lnM,af,aa]; omega)) only [↓aj,↓ai,↓ak,↓ap,↓aZ,↓aA]
 refine cM (fun _ => ?_) fun _ => ?_
 ·refine aK (hat a1) fun v c1 a1 ⟨x,e,hx⟩ => ?_
  subst e
  simp (disch := first | omega | (simp only [lnA,lnC,lnN,lnM,af,aa]; omega)) only [↓aj,↓ai,↓ak,↓aF,↓aZ,↓aw,↓aA]
  exact ba a1 ⟨x,rfl,hx⟩
 refine w3 (Kw _ _) ?_
 simp (disch := first | omega | (simp only [lnA,lnC,lnN,lnM,af,aa]; omega)) only [↓aj,↓ak]
 refine aK (cq hb a1 _) fun v c2 a2 ⟨m,e,m0,m1⟩ => ?_
 subst e
 simp (disch := first | omega | (simp only [lnA,lnC,lnN,lnM,af,aa]; omega)) only [↓aj,↓ai,↓ak,↓aZ,↓aA]
 refine aK (cq hb a2 _) fun v c3 a3 ⟨m3,e,_,_⟩ => ?_
 subst e
 simp (disch := first | omega | (simp only [lnA,lnC,lnN,lnM,af,aa]; omega)) only [↓aj,↓ai,↓ak,↓aZ,↓aA]
 refine cM (fun _ => ?_) fun _ => cM (fun _ => ba a3 ⟨⟨_,_,_,_,_⟩,rfl,kU⟩) fun _ => ?_
 ·refine aK (cq hb a3 _) fun v c4 a4 ⟨m4,e,_,_⟩ => ?_
  subst e
  simp (disch := first | omega | (simp only [lnA,lnC,lnN,lnM,af,aa]; omega)) only [↓aj,↓ai,↓ak,↓aZ,↓aA]
  exact ba a4 ⟨⟨_,_,_,_,_⟩,rfl,kU⟩
 refine w3 (Kw _ _) ?_
 simp (disch := first | omega | (simp only [lnA,lnC,lnN,lnM,af,aa]; omega)) only [↓aj,↓ak]
 refine aK (cq hb a3 _) fun v c4 a4 ⟨m4,e,_,_⟩ => ?_
 subst e
 simp (disch := first | omega | (simp only [lnA,lnC,lnN,lnM,af,aa]; omega)) only [↓aj,↓ai,↓ak,↓aZ,↓aA]
 exact ba a4 ⟨⟨_,_,_,_,_⟩,rfl,kU⟩
noncomputable def Ju (p : List Nd) : Prop := ∀ x ∈ p,x.s.size <= 100
theorem ME {p : List Nd} (h : Ju p) : fW p := fun x hx => by have := h x hx; omega
noncomputable def IW (v : D) : Prop := ∃ p : List Nd,v = oP p /\ Ju p /\ (p.length <= 15 \/ (p.length <= 3001 /\ ∀ x ∈ p,x.kind = 1))
theorem q6 (hb : b.length < 4611686018427387904) {n : Int} (hn : n < 16) : ∀ (k i : Nat) (c : Int × Int) (p : List Nd),(i : Int) + k = n -> dT b c -> Ju p -> p.length <= i -> 0 < i -> jQ b (fun v => ∃ p : List Nd,v = oP p /\ Ju p /\ p.length <= 15) (ej n (i : Int) (b.map eB) c.1 c.2 (p.map eN))
 | 0,i,c,p,hi,hc,hp,hl,h0 => by
  rw [gH]
  simp (disch := first | omega | (simp only [lnA,lnC,lnN,lnM,af,aa]; omega)) only [↓al,cZ]
  exact ba hc ⟨p,rfl,hp,by omega⟩
 | k + 1,i,c,p,hi,hc,hp,hl,h0 => by
  rw [gH,aC (decide_eq_true (by omega))]
  refine aK (Lr hb hc _) fun v c1 a1 ⟨x,e,hx⟩ => ?_
  subst e
  simp (disch := first | omega | (simp only [lnA,lnC,lnN,lnM,af,aa]; omega)) only [↓ae,ah,↓aj,↓ai,↓ak,↓aF,↓aJ,↓aZ,↓aw,↓aA,wS,jr (p := p) (by omega) x]
  refine q6 hb hn k (i + 1) c1 (p ++ [x]) (by omega) a1 ?_ (by simp; omega) (by omega)
  intro y hy
  rcases List.mem_append.1 hy with hy | hy
  ·exact hp y hy
  ·simp at hy; subst hy; exact hx
theorem Oq (hb : b.length < 4611686018427387904) (h : dT b c) : jQ b (fun v => ∃ p : List Nd,v = oP p /\ Ju p /\ p.length <= 15) (V 154 [eC b c]) := by
 rw [sF]
 refine aK (cq hb h _) fun v c1 a1 ⟨m,e,m0,m1⟩ => ?_
 subst e
 have := m1 (by omega)
 simp (disch := first | omega | (simp only [lnA,lnC,lnN,lnM,af,aa]; omega)) only [↓aj,↓ai,↓ak,↓aZ,↓aA]
 rw [nU]
 refine cM (fun h0 => ?_) fun _ => ba a1 ⟨[],rfl,fun x hx => by simp at hx,by simp⟩
 have h0 := of_decide_eq_true h0
 refine aK (Lr hb a1 _) fun v c2 a2 ⟨x,e,hx⟩ => ?_
 subst e
 have ha : V 158 [.op [.os (5,0) []],eN x] = some (.int .i64 0,[rP [x]]) := jr (p := []) (by simp) x
 simp (disch := first | omega | (simp only [lnA,lnC,lnN,lnM,af,aa]; omega)) only [↓ae,ah,↓aj,↓ai,↓ak,↓aF,↓aJ,↓aZ,↓aw,↓aA,Int.reduceAdd,wS,ha]
 obtain ⟨k,hk⟩ := Int.eq_ofNat_of_zero_le (show 0 <= m - 1 by omega)
 exact q6 hb (by omega) k 1 c2 [x] (by simp; omega) a2 (by simpa [Ju] using hx) (by simp) (by omega)
theorem NG (hb : b.length < 4611686018427387904) (h : dT b c) {x : Nd} (hx : x.s.size <= 100) : jQ b Qr (V 156 [eC b c,eN x]) := by
 rw [zw]
 refine aK (cq hb h _) fun v c1 a1 ⟨m,e,m0,m1⟩ => ?_
 subst e
 simp (disch := first | omega | (simp only [lnA,lnC,lnN,lnM,af,aa]; omega)) only [↓aj,↓ai,↓ak,↓aZ,↓aA]
 refine cM (fun _ => ?_) fun _ => cM (fun _ => ?_) fun _ => cM (fun _ => ?_) fun _ => cM (fun _ => ?_) fun _ => cM (fun _ => ?_) fun _ => ba a1 ⟨x,rfl,hx⟩
 ·refine aK (cq hb a1 _) fun v c2 a2 ⟨m2,e,_,_⟩ => ?_
  subst e
  simp (disch := first | omega | (simp only [lnA,lnC,lnN,lnM,af,aa]; omega)) only [↓aj,↓ai,↓ak,↓aZ,↓aA]
  exact ba a2 ⟨⟨m2,x.n,x.s,x.a,x.b⟩,rfl,hx⟩
 ·refine aK (cq hb a1 _) fun v c2 a2 ⟨m2,e,_,h2⟩ => ?_
  subst e
  have := h2 (by omega)
  simp (disch := first | omega | (simp only [lnA,lnC,lnN,lnM,af,aa]; omega)) only [↓aj,↓ai,↓ak,↓aZ,↓aA]
  exact ba a2 ⟨⟨x.kind,x.n,x.s,IntKind.wrap IntKind.i64 (m2 - 1),x.b⟩,rfl,hx⟩
 ·refine aK (cq hb a1 _) fun v c2 a2 ⟨m2,e,_,h2⟩ => ?_
  subst e
  have := h2 (by omega)
  simp (disch := first | omega | (simp only [lnA,lnC,lnN,lnM,af,aa]; omega)) only [↓aj,↓ai,↓ak,↓aZ,↓aA]
  exact ba a2 ⟨⟨x.kind,x.n,x.s,x.a,IntKind.wrap IntKind.i64 (m2 - 1)⟩,rfl,hx⟩
 ·refine aK (xl hb a1 [-1,2,99,100,1000000000,1000000001,-1000000000,-1000000001] (by simp)) fun v c2 a2 ⟨m2,e,_⟩ => ?_
  subst e
  simp (disch := first | omega | (simp only [lnA,lnC,lnN,lnM,af,aa]; omega)) only [↓aj,↓ai,↓ak,↓aZ,↓aA]
  exact ba a2 ⟨⟨x.kind,m2,x.s,x.a,x.b⟩,rfl,hx⟩
 ·refine aK (j8 hb a1 [⟨#[]⟩,⟨#[97]⟩,⟨#[65,98]⟩,⟨#[97,98,99,100,101,102,103,104,105,106,107,108]⟩,⟨#[97,98,99,100,101,102,103,104,105,106,107,108,109]⟩,⟨#[97,49]⟩] (by simp)) fun v c2 a2 ⟨m2,e,hm⟩ => ?_
  subst e
  simp (disch := first | omega | (simp only [lnA,lnC,lnN,lnM,af,aa]; omega)) only [↓aj,↓ai,↓ak,↓aF,↓aZ,↓aA]
  refine ba a2 ⟨⟨x.kind,x.n,m2,x.a,x.b⟩,rfl,?_⟩
  show m2.size <= 100
  simp only [List.mem_cons,List.not_mem_nil,or_false] at hm
  rcases hm with rfl | rfl | rfl | rfl | rfl | rfl <;> decide
theorem Kt (hb : b.length < 4611686018427387904) (h : dT b c) {N : Nat} (hN : N <= 3001) : ∀ (k i : Nat) (q : List Nd),i + k = N -> q.length = N -> Ju q -> (∀ (j : Nat) (x : Nd),j < i -> q[j]? = some x -> x.kind = 1) -> jQ b IW (ef (i : Int) (b.map eB) c.1 c.2 (q.map eN))
 | 0,i,q,hi,hq,hs,hk => by
  rw [mq]
  simp (disch := first | omega | (simp only [lnA,lnC,lnN,lnM,af,aa]; omega)) only [↓al,cZ,lnM,aa]
  refine ba h ⟨q,rfl,hs,.inr ⟨by omega,fun x hx => ?_⟩⟩
  obtain ⟨j,hj⟩ := List.getElem?_of_mem hx
  exact hk j x (by have := bw hj; omega) hj
 | k + 1,i,q,hi,hq,hs,hk => by
  obtain ⟨x,hx⟩ := aE (l := q) (i := i) (by omega)
  have e : (D.agg (List.take 0 [D.int .i64 x.kind,.int .i64 x.n,.str x.s,.int .i64 x.a,.int .i64 x.b] ++ [D.int .i64 1] ++ List.drop 1 [D.int .i64 x.kind,.int .i64 x.n,.str x.s,.int .i64 x.a,.int .i64 x.b])) = eN ⟨1,x.n,x.s,x.a,x.b⟩ := rfl
  rw [mq,aC (decide_eq_true (by rw [lnM]; simp only [ni]; omega)),au (by rw [lnM]; exact bj (by omega)),Int.toNat_natCast,aq hx,aw,aU,dd (by omega),e,<- List.map_set]
  refine Kt hb h hN k (i + 1) _ (by omega) (by simp; omega) ?_ ?_
  ·intro y hy
   rcases List.mem_or_eq_of_mem_set hy with hy | hy
   ·exact hs y hy
   ·rw [hy]; exact hs x (List.mem_of_getElem? hx)
  ·intro j y hj hy
   by_cases e : i = j
   ·subst e
    rw [List.getElem?_set_self (by omega)] at hy
    cases hy; rfl
   ·rw [List.getElem?_set_ne e] at hy
    exact hk j y (by omega) hy
theorem Ql (hb : b.length < 4611686018427387904) (h : dT b c) : jQ b IW (V 90 [eC b c]) := by
 have fin : ∀ {c : Int × Int} {k : Nat},dT b c -> k < 2 -> jQ b IW (grd (decide (0 <= IntKind.wrap IntKind.i64 (3000 + (k : Int))) && decide (IntKind.wrap IntKind.i64 (3000 + (k : Int)) <= LIM)) (ef 0 (b.map eB) c.1 c.2 (List.replicate (Int.toNat (IntKind.wrap IntKind.i64 (3000 + (k : Int)))) (D.agg [D.int .i64 0,D.int .i64 0,D.str ⟨#[]⟩,D.int .i64 0,D.int .i64 0])))) := by
  intro c k h hk
  rw [w64 (by omega) (by omega),au (by rw [bh]; simp only [Bool.and_eq_true,decide_eq_true_eq]; omega)]
  have e2 : (3000 + (k : Int)).toNat = 3000 + k := by omega
  have e3 : List.replicate (3000 + k) (D.agg [D.int .i64 0,D.int .i64 0,D.str ⟨#[]⟩,D.int .i64 0,D.int .i64 0]) = (List.replicate (3000 + k) (⟨0,0,⟨#[]⟩,0,0⟩ : Nd)).map eN := by rw [List.map_replicate]
  rw [e2,e3]
  refine Kt hb h (N := 3000 + k) (by omega) (3000 + k) 0 _ (by omega) (by simp) ?_ (fun j x h _ => by omega)
  intro x hx
  rw [(List.mem_replicate.1 hx).2]
  exact kU
 rw [BJ]
 refine aK (Oq hb h) fun v c1 a1 ⟨p,e,hp,hl⟩ => ?_
 subst e
 simp (disch := first | omega | (simp only [lnA,lnC,lnN,lnM,af,aa]; omega)) only [↓aj,↓ai,↓ak,↓aJ,↓aZ,↓aw,↓aA,↓aU]
 refine cM (fun h0 => ?_) fun _ => ?_
 ·have h0 := of_decide_eq_true h0
  rw [lnM] at h0
  refine aK (qE hb a1 12) fun v c2 a2 ⟨o,e⟩ => ?_
  subst e
  simp (disch := first | omega | (simp only [lnA,lnC,lnN,lnM,af,aa]; omega)) only [↓aj,↓ai,↓ak,↓ap,↓aZ,↓aA]
  refine cM (fun _ => ?_) fun _ => ?_
  ·refine aK (cq hb a2 _) fun v c3 a3 ⟨m,e,m0,m1⟩ => ?_
   subst e
   have hm := m1 (by rw [lnM]; exact h0)
   rw [lnM] at hm
   obtain ⟨k,hk⟩ := Int.eq_ofNat_of_zero_le m0
   subst hk
   obtain ⟨x,hx⟩ := aE (l := p) (i := k) (by simp only [ni] at hm; omega)
   simp (disch := first | omega | (simp only [lnA,lnC,lnN,lnM,af,aa]; omega)) only [↓aj,↓ai,↓ak,↓aZ,↓aA]
   rw [au (by rw [lnM]; exact bj (by simp only [ni] at hm; omega)),Int.toNat_natCast,aq hx,pQ]
   refine aK (NG hb a3 (hp x (List.mem_of_getElem? hx))) fun v c4 a4 ⟨y,e,hy⟩ => ?_
   subst e
   simp (disch := first | omega | (simp only [lnA,lnC,lnN,lnM,af,aa]; omega)) only [↓aj,↓ai,↓ak,↓aF,↓aZ,↓aw,↓aA]
   rw [au (by rw [lnM]; exact bj (by simp only [ni] at hm; omega)),aq hx]
   have e : List.set (p.map eN) k (D.agg [.int .i64 y.kind,.int .i64 y.n,.str y.s,.int .i64 y.a,.int .i64 y.b]) = (p.set k y).map eN := by rw [List.map_set]
   rw [e]
   refine aK (qE hb a4 60) fun v c5 a5 ⟨o,e⟩ => ?_
   subst e
   simp (disch := first | omega | (simp only [lnA,lnC,lnN,lnM,af,aa]; omega)) only [↓aj,↓ai,↓ak,↓ap,↓aZ,↓aA]
   refine cM (fun _ => ?_) fun _ => ba a5 ⟨p.set k y,rfl,?_,.inl (by simpa using hl)⟩
   ·refine aK (cq hb a5 _) fun v c6 a6 ⟨m,e,m0,m1⟩ => ?_
    subst e
    have := m1 (by omega)
    obtain ⟨k,hk⟩ := Int.eq_ofNat_of_zero_le m0
    subst hk
    simp (disch := first | omega | (simp only [lnA,lnC,lnN,lnM,af,aa]; omega)) only [↓aj,↓ai,↓ak,↓aZ,↓aA]
    exact fin a6 (by omega)
   ·intro z hz
    rcases List.mem_or_eq_of_mem_set hz with hz | hz
    ·exact hp z hz
    ·rw [hz]; exact hy
  ·refine aK (qE hb a2 60) fun v c5 a5 ⟨o,e⟩ => ?_
   subst e
   simp (disch := first | omega | (simp only [lnA,lnC,lnN,lnM,af,aa]; omega)) only [↓aj,↓ai,↓ak,↓ap,↓aZ,↓aA]
   refine cM (fun _ => ?_) fun _ => ba a5 ⟨p,rfl,hp,.inl hl⟩
   refine aK (cq hb a5 _) fun v c6 a6 ⟨m,e,m0,m1⟩ => ?_
   subst e
   have := m1 (by omega)
   obtain ⟨k,hk⟩ := Int.eq_ofNat_of_zero_le m0
   subst hk
   simp (disch := first | omega | (simp only [lnA,lnC,lnN,lnM,af,aa]; omega)) only [↓aj,↓ai,↓ak,↓aZ,↓aA]
   exact fin a6 (by omega)
 ·refine aK (qE hb a1 60) fun v c5 a5 ⟨o,e⟩ => ?_
  subst e
  simp (disch := first | omega | (simp only [lnA,lnC,lnN,lnM,af,aa]; omega)) only [↓aj,↓ai,↓ak,↓ap,↓aZ,↓aA]
  refine cM (fun _ => ?_) fun _ => ba a5 ⟨p,rfl,hp,.inl hl⟩
  refine aK (cq hb a5 _) fun v c6 a6 ⟨m,e,m0,m1⟩ => ?_
  subst e
  have := m1 (by omega)
  obtain ⟨k,hk⟩ := Int.eq_ofNat_of_zero_le m0
  subst hk
  simp (disch := first | omega | (simp only [lnA,lnC,lnN,lnM,af,aa]; omega)) only [↓aj,↓ai,↓ak,↓aZ,↓aA]
  exact fin a6 (by omega)
end
theorem Pe {p : List Nd} (h : p.length <= 15 \/ (p.length <= 3001 /\ ∀ x ∈ p,x.kind = 1)) : p.length <= 3001 := by omega
end Go.Eng
/-! draws of programs: their texts -/
namespace Go.Eng
open Go.Proofs Go.Proofs.Tryz
set_option maxHeartbeats 4000000
set_option maxRecDepth 10000

theorem cG (a b : ByteArray) : (a ++ b).size = a.size + b.size := ByteArray.size_append
theorem gn (a : Array UInt8) : ByteArray.size ⟨a⟩ = a.size := rfl
noncomputable def Hd (s : ByteArray) : Prop := ∃ (x : UInt8) (r : List UInt8),s.data.toList = x :: r /\ x ≠ 32
theorem qr {a : ByteArray} (h : Hd a) (b : ByteArray) : Hd (a ++ b) := by
 obtain ⟨x,r,h1,h2⟩ := h
 exact ⟨x,r ++ b.data.toList,by simp [h1],h2⟩
theorem ky (x : UInt8) (r : List UInt8) (h : x ≠ 32) : Hd ⟨(x :: r).toArray⟩ := ⟨x,r,by simp,h⟩
noncomputable def NA (n : Nat) (v : D) : Prop := ∃ s : ByteArray,v = .str s /\ s.size <= n /\ Hd s
noncomputable def SzE : Nat -> Nat
 | 0 => 9
 | d + 1 => 3 * SzE d + 30
section
variable {b : List Int}
theorem RV (hb : b.length < 4611686018427387904) {c : Int × Int} (h : dT b c) : jQ b (NA 9) (V 75 [eC b c,.rs (1,0) [(.str ({ data := #[49] })),(.str ({ data := #[120] })),(.str ({ data := #[121] })),(.str ({ data := #[45,50] })),(.str ({ data := #[35,116] })),(.str ({ data := #[40,41] })),(.str ({ data := #[102] })),(.str ({ data := #[40,113,117,111,116,101,32,97,41] })),(.str ({ data := #[48] }))]]) := by
 refine ue (j8 hb h [⟨#[49]⟩,⟨#[120]⟩,⟨#[121]⟩,⟨#[45,50]⟩,⟨#[35,116]⟩,⟨#[40,41]⟩,⟨#[102]⟩,⟨#[40,113,117,111,116,101,32,97,41]⟩,⟨#[48]⟩] (by simp)) ?_
 rintro v ⟨m,rfl,hm⟩
 refine ⟨m,rfl,?_⟩
 simp only [List.mem_cons,List.not_mem_nil,or_false] at hm
 rcases hm with rfl | rfl | rfl | rfl | rfl | rfl | rfl | rfl | rfl <;> exact ⟨by decide,ky _ _ (by decide)⟩
theorem R7 (hb : b.length < 4611686018427387904) {c : Int × Int} (h : dT b c) : jQ b (NA 4) (V 75 [eC b c,.rs (1,0) [(.str ({ data := #[43] })),(.str ({ data := #[45] })),(.str ({ data := #[42] })),(.str ({ data := #[60] })),(.str ({ data := #[61] })),(.str ({ data := #[99,111,110,115] })),(.str ({ data := #[101,113,63] }))]]) := by
 refine ue (j8 hb h [⟨#[43]⟩,⟨#[45]⟩,⟨#[42]⟩,⟨#[60]⟩,⟨#[61]⟩,⟨#[99,111,110,115]⟩,⟨#[101,113,63]⟩] (by simp)) ?_
 rintro v ⟨m,rfl,hm⟩
 refine ⟨m,rfl,?_⟩
 simp only [List.mem_cons,List.not_mem_nil,or_false] at hm
 rcases hm with rfl | rfl | rfl | rfl | rfl | rfl | rfl <;> exact ⟨by decide,ky _ _ (by decide)⟩
theorem R5 (hb : b.length < 4611686018427387904) {c : Int × Int} (h : dT b c) : jQ b (NA 6) (V 75 [eC b c,.rs (1,0) [(.str ({ data := #[99,97,114] })),(.str ({ data := #[99,100,114] })),(.str ({ data := #[110,117,108,108,63] })),(.str ({ data := #[112,97,105,114,63] })),(.str ({ data := #[110,111,116] })),(.str ({ data := #[99,97,108,108,99,99] }))]]) := by
 refine ue (j8 hb h [⟨#[99,97,114]⟩,⟨#[99,100,114]⟩,⟨#[110,117,108,108,63]⟩,⟨#[112,97,105,114,63]⟩,⟨#[110,111,116]⟩,⟨#[99,97,108,108,99,99]⟩] (by simp)) ?_
 rintro v ⟨m,rfl,hm⟩
 refine ⟨m,rfl,?_⟩
 simp only [List.mem_cons,List.not_mem_nil,or_false] at hm
 rcases hm with rfl | rfl | rfl | rfl | rfl | rfl <;> exact ⟨by decide,ky _ _ (by decide)⟩
theorem Rb : ∀ d,d <= 3 -> SzE d <= 633 := by decide
theorem Q9 : ∀ d,9 <= SzE d
 | 0 => Nat.le_refl _
 | d + 1 => by have := Q9 d; unfold SzE; omega
theorem OE : ∀ d,SzE (d - 1) <= SzE d
 | 0 => Nat.le_refl _
 | d + 1 => by simp only [Nat.add_sub_cancel]; rw [show SzE (d + 1) = 3 * SzE d + 30 from rfl]; omega
theorem Du (hb : b.length < 4611686018427387904) : ∀ (k : Nat) (n : Int),n <= k -> -5 <= n -> k <= 3 -> ∀ c,dT b c -> jQ b (NA (SzE n.toNat)) (V 214 [eC b c,.int .i64 n])
 | k,n,hk,hn,h3,c,hc => by
  rw [uZ]
  by_cases h0 : n <= 0
  ·rw [aC (decide_eq_true h0)]
   refine aK (RV hb hc) fun v c1 a1 ⟨s,e,hs,hh⟩ => ?_
   subst e
   simp (disch := first | omega | (simp only [lnA,lnC,lnN,lnM,af,aa]; omega)) only [↓aj,↓ai,↓ak,↓aF,↓aZ,↓aA]
   exact ba a1 ⟨s,rfl,by have := Q9 n.toNat; omega,hh⟩
  ·rw [av (decide_eq_false h0)]
   obtain ⟨k,rfl⟩ : ∃ j,k = j + 1 := ⟨k - 1,by omega⟩
   have w1 : IntKind.wrap IntKind.i64 (n - 1) = n - 1 := w64 (by omega) (by omega)
   have w2 : IntKind.wrap IntKind.i64 (n - 2) = n - 2 := w64 (by omega) (by omega)
   obtain ⟨d,hd⟩ : ∃ d,n.toNat = d + 1 := ⟨n.toNat - 1,by omega⟩
   have e1 : (n - 1).toNat = d := by omega
   have e2 : (n - 2).toNat = d - 1 := by omega
   have hz : SzE n.toNat = 3 * SzE d + 30 := by rw [hd]; rfl
   have hp := OE d
   have hm := Rb d (by omega)
   have i1 := fun c a => Du hb k (n - 1) (by omega) (by omega) (by omega) c a
   have i2 := fun c a => Du hb k (n - 2) (by omega) (by omega) (by omega) c a
   rw [e1] at i1
   rw [e2] at i2
   rw [w1,w2,hz]
   refine aK (i1 c hc) fun v c1 a1 ⟨s,e,hs,hh⟩ => ?_
   subst e
   simp (disch := first | omega | (simp only [lnA,lnC,lnN,lnM,af,aa]; omega)) only [↓aj,↓ai,↓ak,↓aF,↓aZ,↓aA]
   refine aK (i1 c1 a1) fun v c2 a2 ⟨t,e,ht,hh2⟩ => ?_
   subst e
   simp (disch := first | omega | (simp only [lnA,lnC,lnN,lnM,af,aa]; omega)) only [↓aj,↓ai,↓ak,↓aF,↓aZ,↓aA]
   refine aK (cq hb a2 _) fun v c3 a3 ⟨m,e,m0,m1⟩ => ?_
   subst e
   simp (disch := first | omega | (simp only [lnA,lnC,lnN,lnM,af,aa]; omega)) only [↓aj,↓ai,↓ak,↓aZ,↓aA]
   refine cM (fun _ => ?_) fun _ => cM (fun _ => ?_) fun _ => cM (fun _ => ?_) fun _ => cM (fun _ => ?_) fun _ => cM (fun _ => ?_) fun _ => cM (fun _ => ?_) fun _ => cM (fun _ => ?_) fun _ => cM (fun _ => ?_) fun _ => ?_
   ·repeat refine f6 (decide_eq_true (by rw [bh]; simp only [ni,cG,gn,List.size_toArray,lnC,lnN]; omega)) ?_
    refine aK (i2 c3 a3) fun v c4 a4 ⟨u,e,hu,hh3⟩ => ?_
    subst e
    simp (disch := first | omega | (simp only [lnA,lnC,lnN,lnM,af,aa]; omega)) only [↓aj,↓ai,↓ak,↓aF,↓aZ,↓aA]
    repeat refine f6 (decide_eq_true (by rw [bh]; simp only [ni,cG,gn,List.size_toArray,lnC,lnN]; omega)) ?_
    exact ba a4 ⟨_,rfl,by simp only [cG,gn,List.size_toArray,lnC,lnN]; omega,by repeat (first | exact ky _ _ (by decide) | refine qr ?_ _)⟩
   ·repeat refine f6 (decide_eq_true (by rw [bh]; simp only [ni,cG,gn,List.size_toArray,lnC,lnN]; omega)) ?_
    exact ba a3 ⟨_,rfl,by simp only [cG,gn,List.size_toArray,lnC,lnN]; omega,by repeat (first | exact ky _ _ (by decide) | refine qr ?_ _)⟩
   ·repeat refine f6 (decide_eq_true (by rw [bh]; simp only [ni,cG,gn,List.size_toArray,lnC,lnN]; omega)) ?_
    exact ba a3 ⟨_,rfl,by simp only [cG,gn,List.size_toArray,lnC,lnN]; omega,by repeat (first | exact ky _ _ (by decide) | refine qr ?_ _)⟩
   ·repeat refine f6 (decide_eq_true (by rw [bh]; simp only [ni,cG,gn,List.size_toArray,lnC,lnN]; omega)) ?_
    exact ba a3 ⟨_,rfl,by simp only [cG,gn,List.size_toArray,lnC,lnN]; omega,by repeat (first | exact ky _ _ (by decide) | refine qr ?_ _)⟩
   ·repeat refine f6 (decide_eq_true (by rw [bh]; simp only [ni,cG,gn,List.size_toArray,lnC,lnN]; omega)) ?_
    exact ba a3 ⟨_,rfl,by simp only [cG,gn,List.size_toArray,lnC,lnN]; omega,by repeat (first | exact ky _ _ (by decide) | refine qr ?_ _)⟩
   ·repeat refine f6 (decide_eq_true (by rw [bh]; simp only [ni,cG,gn,List.size_toArray,lnC,lnN]; omega)) ?_
    exact ba a3 ⟨_,rfl,by simp only [cG,gn,List.size_toArray,lnC,lnN]; omega,by repeat (first | exact ky _ _ (by decide) | refine qr ?_ _)⟩
   ·refine aK (R7 hb a3) fun v c4 a4 ⟨u,e,hu,hh3⟩ => ?_
    subst e
    simp (disch := first | omega | (simp only [lnA,lnC,lnN,lnM,af,aa]; omega)) only [↓aj,↓ai,↓ak,↓aF,↓aZ,↓aA]
    repeat refine f6 (decide_eq_true (by rw [bh]; simp only [ni,cG,gn,List.size_toArray,lnC,lnN]; omega)) ?_
    exact ba a4 ⟨_,rfl,by simp only [cG,gn,List.size_toArray,lnC,lnN]; omega,by repeat (first | exact ky _ _ (by decide) | refine qr ?_ _)⟩
   ·refine aK (R5 hb a3) fun v c4 a4 ⟨u,e,hu,hh3⟩ => ?_
    subst e
    simp (disch := first | omega | (simp only [lnA,lnC,lnN,lnM,af,aa]; omega)) only [↓aj,↓ai,↓ak,↓aF,↓aZ,↓aA]
    repeat refine f6 (decide_eq_true (by rw [bh]; simp only [ni,cG,gn,List.size_toArray,lnC,lnN]; omega)) ?_
    exact ba a4 ⟨_,rfl,by simp only [cG,gn,List.size_toArray,lnC,lnN]; omega,by repeat (first | exact ky _ _ (by decide) | refine qr ?_ _)⟩
   ·exact ba a3 ⟨s,rfl,by omega,hh⟩
noncomputable def texts : List ByteArray := [(⟨#[40,100,101,102,105,110,101,32,40,102,32,110,41,32,40,105,102,32,40,60,32,110,32,50,41,32,110,32,40,43,32,40,102,32,40,45,32,110,32,49,41,41,32,40,102,32,40,45,32,110,32,50,41,41,41,41,41,32,40,102,32,54,41]⟩ : ByteArray),(⟨List.toArray (List.append [40,100,101,102,105,110,101,32,40,117,112,32,110,41,32,40,105,102,32,40,60,32,110,32,51,41,32,40,100,111,32,40] [112,114,105,110,116,32,110,41,32,40,117,112,32,40,43,32,110,32,49,41,41,41,32,110,41,41,32,40,117,112,32,48,41])⟩ : ByteArray),(⟨#[40,108,101,116,32,120,32,53,32,40,108,101,116,32,102,32,40,102,110,32,40,121,41,32,40,43,32,120,32,121,41,41,32,40,112,114,105,110,116,32,40,102,32,52,41,41,41,41]⟩ : ByteArray),(⟨#[40,112,114,105,110,116,32,40,99,97,108,108,99,99,32,40,102,110,32,40,107,41,32,40,100,111,32,40,107,32,55,41,32,56,41,41,41,41]⟩ : ByteArray),(⟨List.toArray (List.append [40,100,101,102,105,110,101,32,40,109,97,112,32,102,32,108,41,32,40,105,102,32,40,110,117,108,108,63,32,108,41,32,40,41,32,40,99,111,110,115,32,40,102,32,40,99,97,114,32,108,41,41,32,40,109,97,112,32,102] [32,40,99,100,114,32,108,41,41,41,41,41,32,40,112,114,105,110,116,32,40,109,97,112,32,40,102,110,32,40,120,41,32,40,42,32,120,32,120,41,41,32,40,113,117,111,116,101,32,40,49,32,50,32,51,41,41,41,41])⟩ : ByteArray),(⟨#[40,100,111,32,40,115,112,97,119,110,32,40,102,110,32,40,41,32,40,100,111,32,40,112,114,105,110,116,32,49,41,32,40,112,114,105,110,116,32,50,41,41,41,41,32,40,112,114,105,110,116,32,51,41,41]⟩ : ByteArray),(⟨List.toArray (List.append [40,108,101,116,32,112,32,40,115,112,97,119,110,32,40,102,110,32,40,41,32,40,112,114,105,110,116,32,40,114,101,99,118,41] [41,41,41,32,40,100,111,32,40,115,101,110,100,32,112,32,40,113,117,111,116,101,32,40,97,32,98,41,41,41,32,48,41,41])⟩ : ByteArray),(⟨List.toArray (List.append [40,108,101,116,32,112,32,40,115,112,97,119,110,32,40,102,110,32,40,41,32,40,108,101,116,32,102,32,40,114,101,99,118,41,32,40,112,114,105,110,116,32,40,102] [32,53,41,41,41,41,41,32,40,108,101,116,32,122,32,57,32,40,115,101,110,100,32,112,32,40,102,110,32,40,120,41,32,40,43,32,120,32,122,41,41,41,41,41])⟩ : ByteArray),(⟨#[40,100,111,32,40,112,114,105,110,116,32,49,41,32,40,103,111,32,49,41,32,40,112,114,105,110,116,32,50,41,32,40,103,111,32,48,41,32,40,112,114,105,110,116,32,51,41,41]⟩ : ByteArray),(⟨List.toArray (List.append [40,108,101,116,32,109,101,32,40,115,101,108,102,41,32,40,100,111,32,40,115,112,97,119,110,32,40,102,110,32,40,41,32,40,100,111,32,40] [103,111,32,49,41,32,40,115,101,110,100,32,109,101,32,52,50,41,41,41,41,32,40,112,114,105,110,116,32,40,114,101,99,118,41,41,41,41])⟩ : ByteArray),(⟨List.toArray (List.append [40,100,101,102,105,110,101,32,40,108,111,111,112,32,110,41,32,40,105,102,32,40,61,32,110,32,48,41,32,40,112,114,105,110,116,32,40] [113,117,111,116,101,32,101,110,100,41,41,32,40,108,111,111,112,32,40,45,32,110,32,49,41,41,41,41,32,40,108,111,111,112,32,57,41])⟩ : ByteArray),(⟨#[40,112,114,105,110,116,32,40,99,97,114,32,40,113,117,111,116,101,32,40,41,41,41,41]⟩ : ByteArray),(⟨#[40,112,114,105,110,116,32,40,102,32,49,41,41]⟩ : ByteArray),(⟨#[40,43,32,49,32,35,116,41]⟩ : ByteArray),(⟨#[40,112,114,105,110,116,32,40,99,111,110,115,32,49,32,40,99,111,110,115,32,50,32,40,41,41,41,41]⟩ : ByteArray),(⟨List.toArray (List.append (List.append [40,100,101,102,105,110,101,32,40,112,105,110,103,32,112,32,110,41,32,40,105,102,32,40,60,32,110,32,49,41,32,48,32,40,100,111,32,40,115,101,110,100,32,112,32] [110,41,32,40,112,114,105,110,116,32,40,114,101,99,118,41,41,32,40,112,105,110,103,32,112,32,40,45,32,110,32,49,41,41,41,41,41,32,40,108,101,116,32,109,101,32]) (List.append [40,115,101,108,102,41,32,40,112,105,110,103,32,40,115,112,97,119,110,32,40,102,110,32,40,41,32,40,100,111,32,40,103,111,32,49,41,32,40,115,101,110,100,32,109,101] [32,40,43,32,49,48,32,40,114,101,99,118,41,41,41,32,40,115,101,110,100,32,109,101,32,40,43,32,49,48,32,40,114,101,99,118,41,41,41,41,41,41,32,50,41,41]))⟩ : ByteArray),(⟨List.toArray (List.append [40,108,101,116,32,107,32,40,99,97,108,108,99,99,32,40,102,110,32,40,99,41,32,99,41,41,32,40,105,102,32,40,112,97,105,114,63] [32,107,41,32,40,112,114,105,110,116,32,40,99,97,114,32,107,41,41,32,40,107,32,40,113,117,111,116,101,32,40,53,41,41,41,41,41])⟩ : ByteArray),(⟨List.toArray (List.append [40,108,101,116,32,112,32,40,115,112,97,119,110,32,40,102,110,32,40,41,32,40,100,111,32,40,103,111,32,49,41,32,40,108,101,116,32,107,32,40,114,101,99,118,41,32,40,107,32,56] [41,41,41,41,41,32,40,112,114,105,110,116,32,40,99,97,108,108,99,99,32,40,102,110,32,40,107,41,32,40,100,111,32,40,115,101,110,100,32,112,32,107,41,32,51,41,41,41,41,41])⟩ : ByteArray)]
theorem OG : ∀ s ∈ texts,s.size <= 633 /\ Hd s := by
 intro s hs
 simp only [texts,List.mem_cons,List.not_mem_nil,or_false] at hs
 rcases hs with rfl | rfl | rfl | rfl | rfl | rfl | rfl | rfl | rfl | rfl | rfl | rfl | rfl | rfl | rfl | rfl | rfl | rfl <;> exact ⟨by decide,⟨40,_,rfl,by decide⟩⟩
theorem Qu (hb : b.length < 4611686018427387904) {c : Int × Int} (h : dT b c) : jQ b (NA 633) (V 192 [eC b c]) := by
 have ht : V 213 [] = some (.os (1,0) (texts.map D.str),[]) := zj
 rw [qP]
 refine aK (qE hb h 4) fun v c1 a1 ⟨o,e⟩ => ?_
 subst e
 simp (disch := first | omega | (simp only [lnA,lnC,lnN,lnM,af,aa]; omega)) only [↓aj,↓ai,↓ak,↓ap,↓aZ,↓aA]
 refine cM (fun _ => ?_) fun _ => ?_
 ·refine w3 ht ?_
  simp (disch := first | omega | (simp only [lnA,lnC,lnN,lnM,af,aa]; omega)) only [↓aj,↓aJ]
  refine aK (j8 hb a1 texts (by decide)) fun v c2 a2 ⟨m,e,hm⟩ => ?_
  subst e
  simp (disch := first | omega | (simp only [lnA,lnC,lnN,lnM,af,aa]; omega)) only [↓aj,↓ai,↓ak,↓aF,↓aZ,↓aA]
  exact ba a2 ⟨m,rfl,OG m hm⟩
 ·refine aK (Du hb 3 3 (by omega) (by omega) (by omega) c1 a1) fun v c2 a2 ⟨m,e,hm⟩ => ?_
  subst e
  simp (disch := first | omega | (simp only [lnA,lnC,lnN,lnM,af,aa]; omega)) only [↓aj,↓ai,↓ak,↓aF,↓aZ,↓aA]
  exact ba a2 ⟨m,rfl,hm⟩
end
end Go.Eng
/-! draws of code -/
namespace Go.Eng
open Go.Proofs Go.Proofs.Tryz
set_option maxHeartbeats 4000000
set_option maxRecDepth 10000

theorem ko {l : List UInt8} : ∀ (k i : Nat) (o : List RwF) (t : RwF) (q q' : List Nd) (row : List Int),(o ≠ [] \/ t.2 ≠ []) -> gA l k i o t q = .ok q' row -> row ≠ []
 | 0,i,o,t,q,q',row,h,e => by rw [gA] at e; cases e
 | k + 1,i,o,t,q,q',row,h,e => by
  rw [nf] at e
  cases hx : l[i]? with
  | none =>
   rw [hx,sN] at e
   split at e
   ·rename_i ho
    cases e
    rcases h with h | h
    ·exact absurd ho h
    ·exact h
   ·cases e
  | some x =>
   rw [hx,qD] at e
   split at e
   ·exact ko k _ _ _ _ _ _ h e
   split at e
   ·exact ko k _ _ _ _ _ _ (.inl (by simp)) e
   split at e
   ·split at e
    ·cases e
    ·exact ko k _ _ _ _ _ _ (.inr (by simp)) e
   split at e
   ·split at e
    ·cases e
    ·exact ko k _ _ _ _ _ _ (.inr (by simp)) e
   ·cases e
theorem kC {l : List UInt8} : ∀ (k i : Nat) (o : List RwF) (t : RwF) (q : List Nd) (c a : Int),gA l k i o t q = .err c a -> c ≠ 0
 | 0,i,o,t,q,c,a,e => by rw [gA] at e; cases e; decide
 | k + 1,i,o,t,q,c,a,e => by
  rw [nf] at e
  cases hx : l[i]? with
  | none =>
   rw [hx,sN] at e
   split at e
   ·cases e
   ·cases e; decide
  | some x =>
   rw [hx,qD] at e
   split at e
   ·exact kC k _ _ _ _ _ _ e
   split at e
   ·exact kC k _ _ _ _ _ _ e
   split at e
   ·split at e
    ·cases e; decide
    ·exact kC k _ _ _ _ _ _ e
   split at e
   ·split at e
    ·cases e; decide
    ·exact kC k _ _ _ _ _ _ e
   ·cases e; decide
theorem li {l : List UInt8} : ∀ (k i : Nat) (o : List RwF) (t : RwF) (q : List Nd),i <= l.length -> ∀ q' row,gA l k i o t q = .ok q' row -> q'.length + row.length <= phi o t q + 2 * (l.length - i)
 | 0,i,o,t,q,_,q',row,h => by rw [gA] at h; cases h
 | k + 1,i,o,t,q,h2,q',row,h => by
  have hph : phi o t q = q.length + t.2.length + (o.map fun x => x.2.length).sum := rfl
  rw [nf] at h
  by_cases hi : i = l.length
  ·have hx : l[i]? = none := List.getElem?_eq_none (by omega)
   rw [hx,sN] at h
   by_cases ho : o = []
   ·rw [if_pos ho] at h
    cases h
    omega
   ·rw [if_neg ho] at h; cases h
  obtain ⟨x,hx⟩ := aE (l := l) (i := i) (by omega)
  rw [hx,qD] at h
  by_cases h32 : x = 32
  ·rw [if_pos h32] at h
   have := li k (i + 1) o t q (by omega) q' row h
   omega
  rw [if_neg h32] at h
  by_cases h40 : x = 40
  ·rw [if_pos h40] at h
   have := li k (i + 1) (t :: o) ((i : Int),[]) q (by omega) q' row h
   simp only [phi,List.map_cons,List.sum_cons,lnN] at this
   omega
  rw [if_neg h40] at h
  by_cases h41 : x = 41
  ·rw [if_pos h41] at h
   cases o with
   | nil => cases h
   | cons u o =>
    simp only [List.map_cons,List.sum_cons] at hph
    have := li k (i + 1) o (u.1,u.2 ++ [((i7 q t.2).2 : Int)]) (i7 q t.2).1 (by omega) q' row h
    simp only [phi,u7,lnA,lnC,lnN] at this
    omega
  rw [if_neg h41] at h
  by_cases hw : o7 x = true
  ·rw [if_pos hw] at h
   have hwe := qt hx hw
   have hwl := Dw (l := l) (j := i + 1) (by omega)
   cases hwd : jV ((l.drop i).take (jK l i - i)) with
   | none => rw [hwd] at h; cases h
   | some nd =>
    rw [hwd] at h
    have := li k (jK l i) o (t.1,t.2 ++ [(q.length : Int)]) (q ++ [nd]) (by omega) q' row h
    simp only [phi,lnA,lnC,lnN] at this
    omega
  ·rw [if_neg hw] at h; cases h
theorem GU {p : List Nd} {s : ByteArray} (hs : Hd s) (h : (gF p s.data.toList).2.2.1 = 0) : (gF p s.data.toList).2.1 ≠ [] := by
 obtain ⟨x,r,hl,hx⟩ := hs
 unfold gF at h ⊢
 split at h
 ·simp at h
 split at h
 ·simp at h
 rename_i h1 h2
 rw [if_neg h1,if_neg h2]
 generalize hg : gA s.data.toList (s.data.toList.length + 1) 0 [] (0,[]) p = g at h ⊢
 cases g with
 | err c a =>
  simp only [LY] at h
  exact absurd h (kC _ _ _ _ _ _ _ hg)
 | ok q row =>
  simp only [LY] at h ⊢
  split at h
  ·rename_i hq
   rw [if_pos hq]
   rw [nf,hl] at hg
   simp only [List.getElem?_cons_zero] at hg
   rw [qD,if_neg hx] at hg
   split at hg
   ·exact ko _ _ _ _ _ _ _ (.inl (by simp)) hg
   split at hg
   ·cases hg
   split at hg
   ·split at hg
    ·cases hg
    ·exact ko _ _ _ _ _ _ _ (.inr (by simp)) hg
   ·cases hg
  ·simp at h
structure RightC (x : Cd) : Prop where
 ok : gx x = true
 ne : 0 < x.list.length
 fits : FitsC x
theorem Ak {p : List Nd} (hf : fW p) {n : Int} : ∀ (xs : List Int) (i : Int) (m : Ms) {x : Cd} {j : Int},kW p n xs i m = (x,0,j) -> m.list.length <= 400 -> I9 m -> m.how = 0 -> (0 < m.list.length \/ xs ≠ []) -> RightC x
 | [],i,m,x,j,e,hm,hs,h0,hne => by
  unfold kW at e
  split at e
  ·rename_i hok
   cases e
   obtain ⟨c1,c2,c3⟩ := oD hok
   have := bJ c1
   exact ⟨hok,by rcases hne with h | h; exact h; exact absurd rfl h,⟨hf,by omega,hs.1,by omega,hs.2,by omega⟩⟩
  ·cases e
 | y :: r,i,m,x,j,e,hm,hs,h0,hne => by
  unfold kW at e
  simp only at e
  have le := Pn (p := p) (v := y) hm
  split at e
  ·cases e
  split at e
  ·rename_i h; have := congrArg (fun r => r.2.1) e; exact absurd this h
  ·rename_i h
   have h : (yb p y m).how = 0 := by omega
   exact Ak hf r (i + 1) _ e le.four (KY hf hm hs) h (.inl (by have := le.grew h; omega))
theorem FX {p : List Nd} (hf : fW p) {xs : List Int} (hne : xs ≠ []) (h : (sY p xs).2.1 = 0) : RightC (sY p xs).1 := by
 unfold sY at h ⊢
 split at h
 ·rename_i hh
  rw [if_pos hh]
  generalize hg : kW p xs.length xs 0 ⟨[],[],0⟩ = g at h ⊢
  obtain ⟨x,a,j⟩ := g
  simp only at h
  subst h
  exact Ak hf xs 0 ⟨[],[],0⟩ hg (by simp) ⟨fun x h => by simp at h,fun x h => by simp at h⟩ rfl (.inr hne)
 ·simp at h
noncomputable def lastS : ByteArray := ⟨#[40,112,114,105,110,116,32,49,41]⟩
theorem QS : (gF [] lastS.data.toList).2.2.1 = 0 /\ (sY (gF [] lastS.data.toList).1 (gF [] lastS.data.toList).2.1).2.1 = 0 := by decide +kernel
theorem mS : fW [] := fun x h => by simp at h
theorem Al (l : List UInt8) : fW (gF [] l).1 /\ (gF [] l).1.length <= 800 /\ (gF [] l).2.1.length <= 800 := by
 unfold gF
 rw [if_neg (by decide)]
 by_cases h4 : 400 < l.length
 ·rw [if_pos h4]; exact ⟨mS,by simp,by simp⟩
 rw [if_neg h4]
 unfold LY
 cases hr : gA l (l.length + 1) 0 [] (0,[]) [] with
 | err c a => exact ⟨mS,by simp,by simp⟩
 | ok q row =>
  have h1 := mR (l := l) (by omega) (l.length + 1) 0 [] (0,[]) [] (by omega) (by simp only [phi,List.map_nil,List.sum_nil,lnN]; omega) mS q row hr
  have h2 := li (l := l) (l.length + 1) 0 [] (0,[]) [] (by omega) q row hr
  simp only [phi,List.map_nil,List.sum_nil,lnN] at h2
  simp only
  split
  ·exact ⟨h1.1,by simp only; omega,by simp only; omega⟩
  ·exact ⟨mS,by simp,by simp⟩
noncomputable def RU (v : D) : Prop := ∃ x : Cd,v = oCd x /\ RightC x
section
variable {b : List Int}
theorem MH (s : ByteArray) : ∃ R C,V 191 [.agg [.rs (5,0) []],.str s] = Cw R /\ V 193 [eP R.1,.rs (1,0) (R.2.1.map eI)] = zN C /\ (Hd s -> R.2.2.1 = 0 -> C.2.1 = 0 -> RightC C.1) := by
 have h1 : V 191 [.agg [.rs (5,0) []],.str (mk s.data.toList)] = _ := wa mS (by simp) s.data.toList
 rw [sy] at h1
 obtain ⟨r1,r2,r3⟩ := Al s.data.toList
 exact ⟨gF [] s.data.toList,sY (gF [] s.data.toList).1 (gF [] s.data.toList).2.1,h1,pq r1 (by omega) (by omega),fun hh h h' => FX r1 (GU hh h) h'⟩
theorem Qs : ∃ s : ByteArray,s = ⟨#[40,112,114,105,110,116,32,49,41]⟩ /\ Hd s /\ (gF [] s.data.toList).2.2.1 = 0 /\ (sY (gF [] s.data.toList).1 (gF [] s.data.toList).2.1).2.1 = 0 := ⟨lastS,rfl,⟨40,_,rfl,by decide⟩,QS⟩
theorem LZ : ∃ R C,V 191 [.agg [.rs (5,0) []],.str ⟨#[40,112,114,105,110,116,32,49,41]⟩] = Cw R /\ V 193 [eP R.1,.rs (1,0) (R.2.1.map eI)] = zN C /\ RightC C.1 := by
 obtain ⟨s,hs,hh,l1,l2⟩ := Qs
 rw [<- hs]
 have h1 : V 191 [.agg [.rs (5,0) []],.str (mk s.data.toList)] = _ := wa mS (by simp) s.data.toList
 rw [sy] at h1
 obtain ⟨r1,r2,r3⟩ := Al s.data.toList
 exact ⟨gF [] s.data.toList,sY (gF [] s.data.toList).1 (gF [] s.data.toList).2.1,h1,pq r1 (by omega) (by omega),FX r1 (GU hh l1) l2⟩
theorem rv (hb : b.length < 4611686018427387904) : ∀ (k i : Nat) (c : Int × Int),i + k = 4 -> dT b c -> jQ b RU (dW (i : Int) (b.map eB) c.1 c.2)
 | 0,i,c,hi,hc => by
  obtain ⟨R,C,h1,h2,hok⟩ := LZ
  rw [iQ,av (decide_eq_false (by omega)),AE h1,tE h2]
  exact ba hc ⟨C.1,rfl,hok⟩
 | k + 1,i,c,hi,hc => by
  rw [iQ,aC (decide_eq_true (by omega))]
  refine aK (Qu hb hc) fun v c1 a1 ⟨s,e,hs,hh⟩ => ?_
  subst e
  obtain ⟨R,C,h1,h2,hok⟩ := MH s
  have ih := rv hb k (i + 1) c1 (by omega) a1
  rw [aF,ai,aA,ai,aZ,ai,ak,ai,ak,aj,aj]
  rw [AE h1,tE h2]
  by_cases hr : R.2.2.1 = 0
  ·rw [aC (bc hr)]
   by_cases hc0 : C.2.1 = 0
   ·rw [aC (bc hc0)]
    exact ba a1 ⟨C.1,rfl,hok hh hr hc0⟩
   ·rw [av (bg hc0),dd (by omega)]
    exact ih
  ·rw [av (bg hr),dd (by omega)]
   exact ih
theorem Jp (hb : b.length < 4611686018427387904) {c : Int × Int} (h : dT b c) : jQ b RU (V 142 [eC b c]) := by
 rw [tH]
 exact rv hb 4 0 c (by omega) h
structure SomeC (x : Cd) : Prop where
 fits : FitsC x
 pool : x.pool.length <= 3001
 list : x.list.length <= 400
 defs : x.defs.length <= 21
noncomputable def Sk (v : D) : Prop := ∃ x : Cd,v = oCd x /\ SomeC x
theorem JP {x : Cd} (h : RightC x) : SomeC x := by
 obtain ⟨c1,c2,c3⟩ := oD h.ok
 have := bJ c1
 exact ⟨h.fits,by omega,c2,by omega⟩
theorem th {x : Cd} (h : SomeC x) (k : Nat) {y : In} (hy : y.s.size < 4611686018427387904) : SomeC ⟨x.pool,x.list.set k y,x.defs⟩ := by
 obtain ⟨f,p,l,d⟩ := h
 refine ⟨⟨f.pool,f.plen,?_,by simpa using f.llen,f.defs,f.dlen⟩,p,by simpa using l,d⟩
 intro z hz
 rcases List.mem_or_eq_of_mem_set hz with hz | rfl
 ·exact f.list z hz
 ·exact hy
end
end Go.Eng
/-! draws of code,mostly right -/
namespace Go.Eng
open Go.Proofs Go.Proofs.Tryz
set_option maxHeartbeats 4000000

section
variable {b : List Int}
theorem MD (hb : b.length < 4611686018427387904) {c : Int × Int} (h : dT b c) : jQ b Sk (V 74 [eC b c]) := by
 rw [De]
 refine aK (Jp hb h) fun v c1 a1 ⟨x,e,hx⟩ => ?_
 subst e
 have hs := JP hx
 have hne := hx.ne
 have hll := hs.list
 rw [aw,ai,aJ,ai,aJ,ai,aJ,aj,ai,aA,ai,aZ,ai,ak,ai,ak,aj,aj]
 rw [lnM]
 refine aK (cq hb a1 _) fun v c2 a2 ⟨m,e,m0,m1⟩ => ?_
 subst e
 have m1 := m1 (by simp only [ni]; omega)
 obtain ⟨y,hy⟩ := aE (l := x.list) (i := m.toNat) (by simp only [ni] at m1; omega)
 have hg : (decide (0 <= m) && decide (m < ni x.list.length)) = true := by simp only [Bool.and_eq_true,decide_eq_true_eq]; exact ⟨m0,m1⟩
 have hys := hx.fits.list y (List.mem_of_getElem? hy)
 have st : ∀ (z : In) ,List.set (x.list.map eIn) m.toNat (eIn z) = (x.list.set m.toNat z).map eIn := fun z => by rw [List.map_set]
 rw [ak,ai,aA,ai,aZ,ai,ak,ai,ak,aj,aj]
 refine aK (cq hb a2 _) fun v c3 a3 ⟨n,e,n0,n1⟩ => ?_
 subst e
 rw [ak,ai,aA,ai,aZ,ai,ak,ai,ak,aj,aj]
 refine cM (fun _ => ?_) fun _ => cM (fun _ => ?_) fun _ => cM (fun _ => ?_) fun _ => cM (fun _ => ?_) fun _ => cM (fun _ => ?_) fun _ => cM (fun _ => ?_) fun _ => ?_
 ·refine aK (cq hb a3 _) fun v c4 a4 ⟨u,e,u0,u1⟩ => ?_
  subst e
  rw [ak,ai,aA,ai,aZ,ai,ak,ai,ak,aj,aj]
  refine f6 hg ?_
  rw [aq hy,aw,aU]
  exact ba a4 ⟨⟨x.pool,x.list.set m.toNat ⟨u,y.n,y.i,y.s⟩,x.defs⟩,congrArg (fun l => D.agg [.os (5,0) (x.pool.map eN),.os (4,0) l,.os (3,0) (x.defs.map eDf)]) (st ⟨u,y.n,y.i,y.s⟩),th hs _ hys⟩
 ·refine aK (xl hb a3 [-1,0,m,IntKind.wrap .i64 (m + 1),ni x.list.length,IntKind.wrap .i64 (ni x.list.length + 1)] (by simp)) fun v c4 a4 ⟨u,e,hu⟩ => ?_
  subst e
  rw [ak,ai,aA,ai,aZ,ai,ak,ai,ak,aj,aj]
  refine f6 hg ?_
  rw [aq hy,aw,aU]
  exact ba a4 ⟨⟨x.pool,x.list.set m.toNat ⟨y.op,u,y.i,y.s⟩,x.defs⟩,congrArg (fun l => D.agg [.os (5,0) (x.pool.map eN),.os (4,0) l,.os (3,0) (x.defs.map eDf)]) (st ⟨y.op,u,y.i,y.s⟩),th hs _ hys⟩
 ·refine aK (cq hb a3 _) fun v c4 a4 ⟨u,e,u0,u1⟩ => ?_
  subst e
  rw [ak,ai,aA,ai,aZ,ai,ak,ai,ak,aj,aj]
  refine f6 hg ?_
  rw [aq hy,aw,aU]
  exact ba a4 ⟨⟨x.pool,x.list.set m.toNat ⟨y.op,y.n,IntKind.wrap .i64 (u - 1),y.s⟩,x.defs⟩,congrArg (fun l => D.agg [.os (5,0) (x.pool.map eN),.os (4,0) l,.os (3,0) (x.defs.map eDf)]) (st ⟨y.op,y.n,IntKind.wrap .i64 (u - 1),y.s⟩),th hs _ hys⟩
 ·refine aK (j8 hb a3 [⟨#[]⟩,⟨#[97]⟩,⟨#[65]⟩] (by simp)) fun v c4 a4 ⟨u,e,hu⟩ => ?_
  subst e
  rw [aF,ai,aA,ai,aZ,ai,ak,ai,ak,aj,aj]
  refine f6 hg ?_
  rw [aq hy,aw,aU]
  have hz : u.size < 4611686018427387904 := by
   simp only [List.mem_cons,List.not_mem_nil,or_false] at hu
   rcases hu with rfl | rfl | rfl <;> decide
  exact ba a4 ⟨⟨x.pool,x.list.set m.toNat ⟨y.op,y.n,y.i,u⟩,x.defs⟩,congrArg (fun l => D.agg [.os (5,0) (x.pool.map eN),.os (4,0) l,.os (3,0) (x.defs.map eDf)]) (st ⟨y.op,y.n,y.i,u⟩),th hs _ hz⟩
 ·refine aK (j8 hb a3 [⟨#[102]⟩,⟨#[109,97,105,110]⟩,⟨#[122,122]⟩,⟨#[65]⟩] (by simp)) fun v c4 a4 ⟨u,e,hu⟩ => ?_
  subst e
  rw [aF,ai,aA,ai,aZ,ai,ak,ai,ak,aj,aj]
  refine aK (cq hb a4 _) fun v c5 a5 ⟨w,e,w0,w1⟩ => ?_
  subst e
  rw [ak,ai,aA,ai,aZ,ai,ak,ai,ak,aj,aj]
  refine aK (cq hb a5 _) fun v c6 a6 ⟨z,e,z0,z1⟩ => ?_
  subst e
  rw [ak,ai,aA,ai,aZ,ai,ak,ai,ak,aj,aj]
  have hz : u.size < 4611686018427387904 := by
   simp only [List.mem_cons,List.not_mem_nil,or_false] at hu
   rcases hu with rfl | rfl | rfl | rfl <;> decide
  have ea : x.defs.map eDf ++ [D.agg [D.str u,D.int .i64 w,D.int .i64 z]] = (x.defs ++ [(⟨u,w,z⟩ : Df)]).map eDf := by simp
  obtain ⟨c1,c2,c3⟩ := oD hx.ok
  rw [ea]
  refine f6 (decide_eq_true (by rw [bh,lnM]; simp only [ni,lnA,lnC,lnN]; omega)) ?_
  obtain ⟨f,p,l,d⟩ := hs
  refine ba a6 ⟨⟨x.pool,x.list,x.defs ++ [⟨u,w,z⟩]⟩,rfl,⟨⟨f.pool,f.plen,f.list,f.llen,?_,by simp only [lnA,lnC,lnN]; omega⟩,p,l,by simp only [lnA,lnC,lnN]; omega⟩⟩
  intro q hq
  rcases List.mem_append.1 hq with hq | hq
  ·exact f.defs q hq
  ·rw [List.mem_singleton.1 hq]; exact hz
 ·refine aK (Ql hb a3) fun v c4 a4 ⟨p,e,hp,hl⟩ => ?_
  subst e
  rw [aw,ai,aJ,aj,ai,aA,ai,aZ,ai,ak,ai,ak,aj,aj]
  obtain ⟨f,p',l,d⟩ := hs
  have hl := Pe hl
  exact ba a4 ⟨⟨p,x.list,x.defs⟩,rfl,⟨⟨ME hp,by show p.length < _; omega,f.list,f.llen,f.defs,f.dlen⟩,hl,l,d⟩⟩
 ·exact ba a3 ⟨x,rfl,hs⟩
end
end Go.Eng
/-! marks,equality,sizes and copies of nodes and numbers -/
namespace Go.Eng
open Go.Proofs Go.Proofs.Tryz
set_option maxHeartbeats 4000000

end Go.Eng
/-! sizes,copies and equality of what a law's arguments hold -/
namespace Go.Eng
open Go.Proofs Go.Proofs.Tryz
set_option maxHeartbeats 4000000

end Go.Eng
/-! a law's arguments: pools,code,machines,processes -/
namespace Go.Eng
open Go.Proofs Go.Proofs.Tryz
set_option maxHeartbeats 4000000
set_option maxRecDepth 100000

end Go.Eng
/-! machines as bytes,on both sides -/
namespace Go.Eng
open Go.Proofs Go.Proofs.Tryz
set_option maxHeartbeats 4000000

end Go.Eng
/-! nodes of bytes,on both sides -/
namespace Go.Eng
open Go.Proofs Go.Proofs.Tryz
set_option maxHeartbeats 4000000

noncomputable abbrev RS := Nat × Bool
noncomputable abbrev rO (b : List UInt8) (s : RS) : D := .op [.os (1,0) (b.map eU),.int .i64 (s.1 : Int),.bool s.2]
noncomputable def InB (b : List UInt8) (s : RS) : Prop := s.1 <= b.length
noncomputable def b9 (b : List UInt8) (s : RS) : Nat × RS := match mu 9 (b.drop s.1) with | some (v,c) => (v,(s.1 + c,s.2)) | none => (0,(s.1,false))
noncomputable def cI (b : List UInt8) (s : RS) : Nat × RS := match mu 9 (b.drop s.1) with | some (v,c) => (match s.2 with | true => (v,(s.1 + c,true)) | false => (0,(s.1,false))) | none => (0,(s.1,false))
noncomputable def qS (b : List UInt8) (i : Nat) : Option (List UInt8 × Nat) := match mu 9 (b.drop i) with | some (v,c) => (if i + c + v <= b.length then some ((b.drop (i + c)).take v,i + c + v) else none) | none => none
noncomputable def fx (b : List UInt8) (s : RS) : List UInt8 × RS := match qS b s.1 with | some (t,i) => (t,(i,s.2)) | none => ([],(s.1,false))
noncomputable def jw (b : List UInt8) (s : RS) : List UInt8 × RS := match qS b s.1 with | some (t,i) => (t,(i,s.2)) | none => ([],(0,false))
theorem DQ (b : List UInt8) (i : Nat) : uI b i 0 0 = match mu 9 (b.drop i) with | some (v,c) => .tup [.int .i64 (v : Int),.int .i64 ((i + c : Nat) : Int),.bool true] | none => noN := by
 unfold uI
 simp only [Nat.add_zero,Nat.sub_zero]
 cases mu 9 (b.drop i) with
 | none => rfl
 | some p => simp
theorem qy {b : List UInt8} {i v c : Nat} (h : mu 9 (b.drop i) = some (v,c)) : v < 9223372036854775808 /\ i + c <= b.length /\ 1 <= c := by
 have h1 := xA 9 _ v c h
 rw [List.length_drop] at h1
 have e : (128 : Nat) ^ 9 = 9223372036854775808 := rfl
 omega
section
variable {b : List UInt8} (hb : b.length < 4611686018427387904)
include hb
theorem kf {s : RS} (hs : InB b s) : V 71 [rO b s] = some (.int .i64 ((b9 b s).1 : Int),[rO b (b9 b s).2]) := by
 have h := rc hb hs
 rw [DQ] at h
 rw [uw]
 unfold b9
 cases e : mu 9 (b.drop s.1) with
 | none => rw [e] at h; simp (disch := first | omega | (simp only [lnA,lnC,lnN,lnM,af,aa]; omega)) only [↓ae,ah,↓am,↓aj,↓ai,↓ak,↓ap,↓bC,Bool.not_false,h]; rfl
 | some p => obtain ⟨v,c⟩ := p; rw [e] at h; simp (disch := first | omega | (simp only [lnA,lnC,lnN,lnM,af,aa]; omega)) only [↓ae,ah,↓al,↓aj,↓ai,↓ak,↓ap,↓bC,Bool.not_true,h]
theorem nR {s : RS} (hs : InB b s) : V 114 [rO b s] = some (.int .i64 ((cI b s).1 : Int),[rO b (cI b s).2]) := by
 have h := qZ hb hs
 rw [DQ] at h
 rw [Eu]
 unfold cI
 cases e : mu 9 (b.drop s.1) with
 | none => rw [e] at h; simp (disch := first | omega | (simp only [lnA,lnC,lnN,lnM,af,aa]; omega)) only [↓ae,ah,↓am,↓aj,↓ai,↓ak,↓ap,↓bC,Bool.not_false,h]; rfl
 | some p =>
  obtain ⟨v,c⟩ := p
  rw [e] at h
  obtain ⟨i,k⟩ := s
  cases k with
  | false => simp (disch := first | omega | (simp only [lnA,lnC,lnN,lnM,af,aa]; omega)) only [↓ae,ah,↓am,↓al,↓aj,↓ai,↓ak,↓ap,↓bC,Bool.not_true,Bool.not_false,h]; rfl
  | true => simp (disch := first | omega | (simp only [lnA,lnC,lnN,lnM,af,aa]; omega)) only [↓ae,ah,↓al,↓aj,↓ai,↓ak,↓ap,↓bC,Bool.not_true,h]
noncomputable def vX (r : Option (List UInt8 × Nat)) : D := match r with | some (t,i) => .tup [.str (mk t),.int .i64 (i : Int),.bool true] | none => .tup [.str ⟨#[]⟩,.int .i64 0,.bool false]
omit hb in
theorem Q8 (i v : Nat) : dk (jP (b.map eU) ((i + v : Nat) : Int)) (i : Int) = ((b.drop i).take v).map eU := by
 simp only [dk,jP,Int.toNat_natCast,<- List.map_take,<- List.map_drop]
 rw [List.drop_take]
 congr 2
 omega
theorem w8 {i : Nat} (hi : i <= b.length) : V 209 [.rs (1,0) (b.map eU),.int .i64 (i : Int)] = some (vX (qS b i),[]) := by
 have h := rc hb hi
 rw [DQ] at h
 rw [yZ]
 unfold qS
 cases e : mu 9 (b.drop i) with
 | none => rw [e] at h; simp (disch := first | omega | (simp only [lnA,lnC,lnN,lnM,af,aa]; omega)) only [↓ae,ah,↓am,↓aj,↓ai,↓ak,↓ap,↓bC,Bool.not_false,h]; rfl
 | some p =>
  obtain ⟨v,c⟩ := p
  rw [e] at h
  have hle := qy e
  by_cases ht : i + c + v <= b.length
  ·have hc := Q8 (b := b) (i + c) v
   have hw : IntKind.wrap IntKind.i64 (((i + c : Nat) : Int) + (v : Int)) = ((i + c + v : Nat) : Int) := by rw [w64 (by omega) (by omega)]; omega
   have hk : bi b.length (some ((i + c : Nat) : Int)) (some ((i + c + v : Nat) : Int)) = true := by
    simp only [bi,Bool.and_eq_true,decide_eq_true_eq]; omega
   simp only [if_pos ht]
   simp (disch := first | omega | (simp only [lnA,lnC,lnN,lnM,af,aa]; omega)) only [↓ae,ah,↓al,↓ay,↓aj,↓ai,↓ak,↓ap,↓bC,cZ,Bool.not_true,lnM,wS,aa,h,hw,hk,hc,↓oE]
   rfl
  ·simp only [if_neg ht]
   simp (disch := first | omega | (simp only [lnA,lnC,lnN,lnM,af,aa]; omega)) only [↓ae,ah,↓am,↓al,↓aj,↓ai,↓ak,↓ap,↓bC,aW,Bool.not_true,lnM,wS,aa,h]
   rfl
theorem pk {i : Nat} (hi : i <= b.length) : V 174 [.rs (1,0) (b.map eU),.int .i64 (i : Int)] = some (vX (qS b i),[]) := by
 have h := qZ hb hi
 rw [DQ] at h
 rw [zu]
 unfold qS
 cases e : mu 9 (b.drop i) with
 | none => rw [e] at h; simp (disch := first | omega | (simp only [lnA,lnC,lnN,lnM,af,aa]; omega)) only [↓ae,ah,↓am,↓aj,↓ai,↓ak,↓ap,↓bC,Bool.not_false,h]; rfl
 | some p =>
  obtain ⟨v,c⟩ := p
  rw [e] at h
  have hle := qy e
  by_cases ht : i + c + v <= b.length
  ·have hc := Q8 (b := b) (i + c) v
   have hw : IntKind.wrap IntKind.i64 (((i + c : Nat) : Int) + (v : Int)) = ((i + c + v : Nat) : Int) := by rw [w64 (by omega) (by omega)]; omega
   have hk : bi b.length (some ((i + c : Nat) : Int)) (some ((i + c + v : Nat) : Int)) = true := by
    simp only [bi,Bool.and_eq_true,decide_eq_true_eq]; omega
   simp only [if_pos ht]
   simp (disch := first | omega | (simp only [lnA,lnC,lnN,lnM,af,aa]; omega)) only [↓ae,ah,↓al,↓ay,↓aj,↓ai,↓ak,↓ap,↓bC,cZ,Bool.not_true,lnM,wS,aa,h,hw,hk,hc,↓oE]
   rfl
  ·simp only [if_neg ht]
   simp (disch := first | omega | (simp only [lnA,lnC,lnN,lnM,af,aa]; omega)) only [↓ae,ah,↓am,↓al,↓aj,↓ai,↓ak,↓ap,↓bC,aW,Bool.not_true,lnM,wS,aa,h]
   rfl
theorem zA {s : RS} (hs : InB b s) : V 190 [rO b s] = some (.str (mk (fx b s).1),[rO b (fx b s).2]) := by
 have h := w8 hb hs
 rw [tN]
 unfold fx
 cases e : qS b s.1 with
 | none => rw [e,vX] at h; simp (disch := first | omega | (simp only [lnA,lnC,lnN,lnM,af,aa]; omega)) only [↓ae,ah,↓am,↓aj,↓ai,↓ak,↓ap,↓aF,↓bC,Bool.not_false,h]; rfl
 | some p => obtain ⟨t,i⟩ := p; rw [e,vX] at h; simp (disch := first | omega | (simp only [lnA,lnC,lnN,lnM,af,aa]; omega)) only [↓ae,ah,↓al,↓aj,↓ai,↓ak,↓ap,↓aF,↓bC,Bool.not_true,h]
omit hb in
theorem tG {s : RS} (hs : InB b s) : InB b (b9 b s).2 := by
 unfold b9
 split
 ·rename_i v c e; exact (qy e).2.1
 ·exact hs
omit hb in
theorem oT {s : RS} (hs : InB b s) : InB b (cI b s).2 := by
 unfold cI
 split
 ·rename_i v c e
  split
  ·exact (qy e).2.1
  ·exact hs
 ·exact hs
omit hb in
theorem KQ {i j : Nat} {t : List UInt8} (h : qS b i = some (t,j)) : j <= b.length := by
 unfold qS at h
 split at h
 ·split at h
  ·cases h; assumption
  ·cases h
 ·cases h
omit hb in
theorem Fx {i j : Nat} {t : List UInt8} (h : qS b i = some (t,j)) : t.length <= b.length := by
 unfold qS at h
 split at h
 ·split at h
  ·cases h; simp; omega
  ·cases h
 ·cases h
omit hb in
theorem Ky {s : RS} (hs : InB b s) : InB b (fx b s).2 := by
 unfold fx
 split
 ·rename_i t i e; exact KQ e
 ·exact hs
omit hb in
theorem LK {s : RS} (_ : InB b s) : InB b (jw b s).2 := by
 unfold jw
 split
 ·rename_i t i e; exact KQ e
 ·exact Nat.zero_le _
omit hb in
theorem KI (s : RS) : (b9 b s).1 < 9223372036854775808 := by
 unfold b9
 split
 ·rename_i v c e; exact (qy e).1
 ·simp
omit hb in
theorem DL (s : RS) : (cI b s).1 < 9223372036854775808 := by
 unfold cI
 split
 ·rename_i v c e
  split
  ·exact (qy e).1
  ·simp
 ·simp
end
noncomputable abbrev nilS : ByteArray := ⟨#[]⟩
noncomputable def cp (num : RS -> Nat × RS) (txt : RS -> List UInt8 × RS) (s : RS) : Nd × RS :=
 if (num s).1 = 2 \/ (num s).1 = 8 \/ (num s).1 = 9 then (⟨(num s).1,(num (num s).2).1,nilS,0,0⟩,(num (num s).2).2)
 else if (num s).1 = 3 then (⟨(num s).1,(num (num s).2).1 - 1000000000,nilS,0,0⟩,(num (num s).2).2)
 else if (num s).1 = 4 then (⟨(num s).1,0,mk (txt (num s).2).1,0,0⟩,(txt (num s).2).2)
 else if (num s).1 = 5 then (⟨(num s).1,0,nilS,(num (num s).2).1,(num (num (num s).2).2).1⟩,(num (num (num s).2).2).2)
 else if (num s).1 = 6 then (⟨(num s).1,(num (num s).2).1,nilS,(num (num (num s).2).2).1,0⟩,(num (num (num s).2).2).2)
 else if (num s).1 = 7 then (⟨(num s).1,0,nilS,(num (num s).2).1,0⟩,(num (num s).2).2)
 else (⟨(num s).1,0,nilS,0,0⟩,(num s).2)
theorem t3 {b : List UInt8} {num : RS -> Nat × RS} {txt : RS -> List UInt8 × RS} (hn : ∀ s,InB b s -> InB b (num s).2) (ht : ∀ s,InB b s -> InB b (txt s).2) {s : RS} (hs : InB b s) : InB b (cp num txt s).2 := by
 unfold cp
 repeat' split
 all_goals (first | exact hn _ (hn _ (hn _ hs)) | exact hn _ (hn _ hs) | exact ht _ (hn _ hs) | exact hn _ hs)
theorem rf {b : List UInt8} (hb : b.length < 4611686018427387904) {s : RS} (hs : InB b s) : V 141 [rO b s] = some (eN (cp (b9 b) (fx b) s).1,[rO b (cp (b9 b) (fx b) s).2]) := by
 have h1 := kf hb hs
 have i1 := tG hs
 have h2 := kf hb i1
 have i2 := tG i1
 have h3 := kf hb i2
 have h4 := zA hb i1
 have l2 := KI (b := b) (b9 b s).2
 have hw : IntKind.wrap IntKind.i64 (((b9 b (b9 b s).2).1 : Int) - 1000000000) = ((b9 b (b9 b s).2).1 : Int) - 1000000000 := vT (by omega) (by omega)
 rw [sA]
 unfold cp
 by_cases k2 : (b9 b s).1 = 2
 ·rw [if_pos (.inl k2)]; simp (disch := first | omega | (simp only [lnA,lnC,lnN,lnM,af,aa]; omega)) only [↓ae,ah,↓am,↓aj,↓ai,↓ak,↓ap,↓aJ,↓aA,bc,h1,h2]
 by_cases k8 : (b9 b s).1 = 8
 ·rw [if_pos (.inr (.inl k8))]; simp (disch := first | omega | (simp only [lnA,lnC,lnN,lnM,af,aa]; omega)) only [↓ae,ah,↓am,↓al,↓aj,↓ai,↓ak,↓ap,↓aJ,↓aA,bc,bg,h1,h2]
 by_cases k9 : (b9 b s).1 = 9
 ·rw [if_pos (.inr (.inr k9))]; simp (disch := first | omega | (simp only [lnA,lnC,lnN,lnM,af,aa]; omega)) only [↓ae,ah,↓am,↓al,↓aj,↓ai,↓ak,↓ap,↓aJ,↓aA,bc,bg,h1,h2]
 rw [if_neg (by omega)]
 by_cases k3 : (b9 b s).1 = 3
 ·rw [if_pos k3]; simp (disch := first | omega | (simp only [lnA,lnC,lnN,lnM,af,aa]; omega)) only [↓ae,ah,↓am,↓al,↓aj,↓ai,↓ak,↓ap,↓aJ,↓aA,bc,bg,h1,h2,hw]
 rw [if_neg k3]
 by_cases k4 : (b9 b s).1 = 4
 ·rw [if_pos k4]; simp (disch := first | omega | (simp only [lnA,lnC,lnN,lnM,af,aa]; omega)) only [↓ae,ah,↓am,↓al,↓aj,↓ai,↓ak,↓ap,↓aF,↓aJ,↓aA,bc,bg,h1,h4]
 rw [if_neg k4]
 by_cases k5 : (b9 b s).1 = 5
 ·rw [if_pos k5]; simp (disch := first | omega | (simp only [lnA,lnC,lnN,lnM,af,aa]; omega)) only [↓ae,ah,↓am,↓al,↓aj,↓ai,↓ak,↓ap,↓aJ,↓aA,bc,bg,h1,h2,h3]
 rw [if_neg k5]
 by_cases k6 : (b9 b s).1 = 6
 ·rw [if_pos k6]; simp (disch := first | omega | (simp only [lnA,lnC,lnN,lnM,af,aa]; omega)) only [↓ae,ah,↓am,↓al,↓aj,↓ai,↓ak,↓ap,↓aJ,↓aA,bc,bg,h1,h2,h3]
 rw [if_neg k6]
 by_cases k7 : (b9 b s).1 = 7
 ·rw [if_pos k7]; simp (disch := first | omega | (simp only [lnA,lnC,lnN,lnM,af,aa]; omega)) only [↓ae,ah,↓am,↓al,↓aj,↓ai,↓ak,↓ap,↓aJ,↓aA,bc,bg,h1,h2]
 rw [if_neg k7]
 simp (disch := first | omega | (simp only [lnA,lnC,lnN,lnM,af,aa]; omega)) only [↓ae,ah,↓al,↓aj,↓ai,↓ak,↓ap,↓aJ,↓aA,bg,h1]

noncomputable def goI (b : List UInt8) (cnt : Nat) : Nat -> Nat -> RS -> List Nd -> List Nd × RS
 | 0,_,s,p => (p,s)
 | k + 1,i,s,p => if i < cnt /\ s.2 = true /\ i <= 3000 then goI b cnt k (i + 1) (cp (b9 b) (fx b) s).2 (p ++ [(cp (b9 b) (fx b) s).1]) else (p,s)
noncomputable def goS (b : List UInt8) (cnt : Nat) : Nat -> Nat -> RS -> List Nd -> List Nd × RS
 | 0,_,s,p => (p,s)
 | k + 1,i,s,p => if i < cnt /\ s.2 = true then goS b cnt k (i + 1) (cp (cI b) (jw b) s).2 (p ++ [(cp (cI b) (jw b) s).1]) else (p,s)
theorem Qz (p : List Nd) (x : Nd) : p.map eN ++ [D.agg [.int .i64 x.kind,.int .i64 x.n,.str x.s,.int .i64 x.a,.int .i64 x.b]] = (p ++ [x]).map eN := by simp
theorem IC {b : List UInt8} (hb : b.length < 4611686018427387904) (cnt : Nat) (hcnt : cnt < 9223372036854775808) : ∀ (k i : Nat) (s : RS) (p : List Nd),i + k = 3002 -> InB b s -> p.length <= i ->
  dh (cnt : Int) (i : Int) (s.1 : Int) s.2 (b.map eU) (p.map eN) = some (oP (goI b cnt k i s p).1,[rO b (goI b cnt k i s p).2])
 | 0,i,s,p,hi,hs,hp => by
  rw [gw]
  obtain ⟨a,o⟩ := s
  simp only [goI]
  cases h1 : decide ((i : Int) < (cnt : Int)) with
  | false => rfl
  | true =>
   cases o with
   | false => rfl
   | true => simp (disch := first | omega | (simp only [lnA,lnC,lnN,lnM,af,aa]; omega)) only [↓am,↓al,cZ]
 | k + 1,i,s,p,hi,hs,hp => by
  obtain ⟨a,o⟩ := s
  have hn := rf hb hs
  have hin := t3 (fun s h => tG h) (fun s h => Ky h) hs
  rw [gw]
  simp only [goI]
  by_cases h1 : i < cnt
  ·cases o with
   | false => rw [if_neg (by simp)]; simp (disch := first | omega | (simp only [lnA,lnC,lnN,lnM,af,aa]; omega)) only [↓am,↓al,aW]
   | true =>
    by_cases h3 : i <= 3000
    ·have ih := IC hb cnt hcnt k (i + 1) _ (p ++ [(cp (b9 b) (fx b) (a,true)).1]) (by omega) hin (by simp; omega)
     have hw : IntKind.wrap IntKind.i64 ((i : Int) + 1) = ((i + 1 : Nat) : Int) := dd (by omega)
     rw [if_pos ⟨h1,rfl,h3⟩]
     simp (disch := first | omega | (simp only [lnA,lnC,lnN,lnM,af,aa]; omega)) only [↓ae,ah,↓am,↓ay,↓aj,↓ai,↓ak,↓ap,↓aF,↓aJ,↓aw,↓aA,↓aU,aW,lnM,lnA,lnC,lnN,bh,aa,hn,Qz,hw]
     exact ih
    ·rw [if_neg (fun h => h3 h.2.2)]; simp (disch := first | omega | (simp only [lnA,lnC,lnN,lnM,af,aa]; omega)) only [↓am,↓al,aW,cZ]
  ·rw [if_neg (fun h => h1 h.1)]; simp (disch := first | omega | (simp only [lnA,lnC,lnN,lnM,af,aa]; omega)) only [↓al,cZ]
noncomputable def dp (b : List UInt8) (s : RS) : List Nd × RS := goI b (b9 b s).1 3002 0 (b9 b s).2 []
theorem yz {b : List UInt8} (hb : b.length < 4611686018427387904) {s : RS} (hs : InB b s) : V 72 [rO b s] = some (oP (dp b s).1,[rO b (dp b s).2]) := by
 have h1 := kf hb hs
 have i1 := tG hs
 have l1 := KI (b := b) s
 rw [rY]
 unfold dp
 generalize b9 b s = m at *
 obtain ⟨cnt,s⟩ := m
 have hn := rf hb i1
 have hin := t3 (fun s h => tG h) (fun s h => Ky h) i1
 have ih := IC hb cnt l1 3001 1 _ [(cp (b9 b) (fx b) s).1] (by omega) hin (by simp)
 have e : goI b cnt 3002 0 s [] = if 0 < cnt /\ s.2 = true /\ 0 <= 3000 then goI b cnt 3001 1 (cp (b9 b) (fx b) s).2 [(cp (b9 b) (fx b) s).1] else ([],s) := rfl
 rw [e]
 obtain ⟨a,o⟩ := s
 have hf : gb (cnt : Int) 0 (a : Int) o (b.map eU) = some (oP (if 0 < cnt /\ (a,o).2 = true /\ 0 <= 3000 then goI b cnt 3001 1 (cp (b9 b) (fx b) (a,o)).2 [(cp (b9 b) (fx b) (a,o)).1] else ([],(a,o))).1,[rO b (if 0 < cnt /\ (a,o).2 = true /\ 0 <= 3000 then goI b cnt 3001 1 (cp (b9 b) (fx b) (a,o)).2 [(cp (b9 b) (fx b) (a,o)).1] else ([],(a,o))).2]) := by
  rw [m9]
  by_cases hz : 0 < cnt
  ·cases o with
   | false => rw [if_neg (by simp)]; simp (disch := first | omega | (simp only [lnA,lnC,lnN,lnM,af,aa]; omega)) only [↓am,↓al,aW]; rfl
   | true =>
    rw [if_pos ⟨hz,rfl,by omega⟩]
    have hw : IntKind.wrap IntKind.i64 ((0 : Int) + 1) = 1 := by decide
    have ih' : dh (cnt : Int) 1 ((cp (b9 b) (fx b) (a,true)).2.1 : Int) (cp (b9 b) (fx b) (a,true)).2.2 (b.map eU) [D.agg [.int .i64 (cp (b9 b) (fx b) (a,true)).1.kind,.int .i64 (cp (b9 b) (fx b) (a,true)).1.n,.str (cp (b9 b) (fx b) (a,true)).1.s,.int .i64 (cp (b9 b) (fx b) (a,true)).1.a,.int .i64 (cp (b9 b) (fx b) (a,true)).1.b]] = _ := ih
    simp (disch := first | omega | (simp only [lnA,lnC,lnN,lnM,af,aa]; omega)) only [↓ae,ah,↓am,↓ay,↓aj,↓ai,↓ak,↓ap,↓aF,↓aJ,↓aw,↓aA,Int.reduceAdd,aW,bh,wS,aa,hn]
    exact ih'
  ·rw [if_neg (fun h => hz h.1)]; simp (disch := first | omega | (simp only [lnA,lnC,lnN,lnM,af,aa]; omega)) only [↓al,cZ]; rfl
 simp (disch := first | omega | (simp only [lnA,lnC,lnN,lnM,af,aa]; omega)) only [↓ae,ah,↓aj,↓ai,↓ak,↓ap,↓aJ,↓aA,h1]
 exact hf
end Go.Eng
/-! nodes of bytes: the reference's side,and what both come to -/
namespace Go.Eng
open Go.Proofs Go.Proofs.Tryz
set_option maxHeartbeats 4000000

noncomputable def ic (b : List UInt8) (r : List Nd × RS) : List Nd × RS := (r.1,(r.2.1,r.2.2 && (decide (r.2.1 = b.length) && bu r.1)))
theorem BC {b : List UInt8} (hb : b.length < 4611686018427387904) {n i a : Nat} (hs : InB b (a,true)) {p : List Nd} (hp : p.length <= 3000) (hi : i < n) (hi2 : i < 4611686018427387904) : ar (n : Int) (i : Int) (a : Int) true (b.map eU) (p.map eN) = ar (n : Int) ((i + 1 : Nat) : Int) ((cp (cI b) (jw b) (a,true)).2.1 : Int) (cp (cI b) (jw b) (a,true)).2.2 (b.map eU) ((p ++ [(cp (cI b) (jw b) (a,true)).1]).map eN) := by
 have h1 := nR hb hs
 have i1 := oT hs
 have h2 := nR hb i1
 have i2 := oT i1
 have h3 := nR hb i2
 have h4 := pk hb i1
 have l2 := DL (b := b) (cI b (a,true)).2
 have hw : IntKind.wrap IntKind.i64 (((cI b (cI b (a,true)).2).1 : Int) - 1000000000) = ((cI b (cI b (a,true)).2).1 : Int) - 1000000000 := vT (by omega) (by omega)
 have hW : IntKind.wrap IntKind.i64 ((i : Int) + 1) = ((i + 1 : Nat) : Int) := dd hi2

 rw [j1]
 unfold cp
 by_cases k2 : (cI b (a,true)).1 = 2
 ·rw [if_pos (.inl k2)]; simp (disch := first | omega | (simp only [lnA,lnC,lnN,lnM,af,aa]; omega)) only [↓ae,ah,↓am,↓ay,↓aj,↓ai,↓ak,↓ap,↓aJ,↓aA,↓aU,aW,bc,lnM,lnA,lnC,lnN,bh,aa,h1,h2,hW]; (rw [List.map_append]; rfl)
 by_cases k8 : (cI b (a,true)).1 = 8
 ·rw [if_pos (.inr (.inl k8))]; simp (disch := first | omega | (simp only [lnA,lnC,lnN,lnM,af,aa]; omega)) only [↓ae,ah,↓am,↓al,↓ay,↓aj,↓ai,↓ak,↓ap,↓aJ,↓aA,↓aU,aW,bc,bg,lnM,lnA,lnC,lnN,bh,aa,h1,h2,hW]; (rw [List.map_append]; rfl)
 by_cases k9 : (cI b (a,true)).1 = 9
 ·rw [if_pos (.inr (.inr k9))]; simp (disch := first | omega | (simp only [lnA,lnC,lnN,lnM,af,aa]; omega)) only [↓ae,ah,↓am,↓al,↓ay,↓aj,↓ai,↓ak,↓ap,↓aJ,↓aA,↓aU,aW,bc,bg,lnM,lnA,lnC,lnN,bh,aa,h1,h2,hW]; (rw [List.map_append]; rfl)
 rw [if_neg (by omega)]
 by_cases k3 : (cI b (a,true)).1 = 3
 ·rw [if_pos k3]; simp (disch := first | omega | (simp only [lnA,lnC,lnN,lnM,af,aa]; omega)) only [↓ae,ah,↓am,↓al,↓ay,↓aj,↓ai,↓ak,↓ap,↓aJ,↓aA,↓aU,aW,bc,bg,lnM,lnA,lnC,lnN,bh,aa,h1,h2,hw,hW]; (rw [List.map_append]; rfl)
 rw [if_neg k3]
 by_cases k4 : (cI b (a,true)).1 = 4
 ·rw [if_pos k4]
  unfold jw
  cases hT : qS b (cI b (a,true)).2.1 with
  | none =>
   rw [hT,vX] at h4
   cases ho : (cI b (a,true)).2.2 <;> (have h1' := h1; unfold rO at h1'; simp only [ho] at h1'; simp (disch := first | omega | (simp only [lnA,lnC,lnN,lnM,af,aa]; omega)) only [↓ae,ah,↓am,↓al,↓ay,↓aj,↓ai,↓ak,↓ap,↓aF,↓aJ,↓bC,↓aA,↓aU,aW,bc,bg,lnM,lnA,lnC,lnN,bh,aa,h1',h4,hW];  first | rfl | (rw [List.map_append]; rfl))
  | some q =>
   obtain ⟨t,j⟩ := q
   rw [hT,vX] at h4
   cases ho : (cI b (a,true)).2.2 <;> (have h1' := h1; unfold rO at h1'; simp only [ho] at h1'; simp (disch := first | omega | (simp only [lnA,lnC,lnN,lnM,af,aa]; omega)) only [↓ae,ah,↓am,↓al,↓ay,↓aj,↓ai,↓ak,↓ap,↓aF,↓aJ,↓bC,↓aA,↓aU,aW,bc,bg,lnM,lnA,lnC,lnN,bh,aa,h1',h4,hW];  first | rfl | (rw [List.map_append]; rfl))
 rw [if_neg k4]
 by_cases k5 : (cI b (a,true)).1 = 5
 ·rw [if_pos k5]; simp (disch := first | omega | (simp only [lnA,lnC,lnN,lnM,af,aa]; omega)) only [↓ae,ah,↓am,↓al,↓ay,↓aj,↓ai,↓ak,↓ap,↓aJ,↓aA,↓aU,aW,bc,bg,lnM,lnA,lnC,lnN,bh,aa,h1,h2,h3,hW]; (rw [List.map_append]; rfl)
 rw [if_neg k5]
 by_cases k6 : (cI b (a,true)).1 = 6
 ·rw [if_pos k6]; simp (disch := first | omega | (simp only [lnA,lnC,lnN,lnM,af,aa]; omega)) only [↓ae,ah,↓am,↓al,↓ay,↓aj,↓ai,↓ak,↓ap,↓aJ,↓aA,↓aU,aW,bc,bg,lnM,lnA,lnC,lnN,bh,aa,h1,h2,h3,hW]; (rw [List.map_append]; rfl)
 rw [if_neg k6]
 by_cases k7 : (cI b (a,true)).1 = 7
 ·rw [if_pos k7]; simp (disch := first | omega | (simp only [lnA,lnC,lnN,lnM,af,aa]; omega)) only [↓ae,ah,↓am,↓al,↓ay,↓aj,↓ai,↓ak,↓ap,↓aJ,↓aA,↓aU,aW,bc,bg,lnM,lnA,lnC,lnN,bh,aa,h1,h2,hW]; (rw [List.map_append]; rfl)
 rw [if_neg k7]
 simp (disch := first | omega | (simp only [lnA,lnC,lnN,lnM,af,aa]; omega)) only [↓ae,ah,↓am,↓al,↓ay,↓aj,↓ai,↓ak,↓ap,↓aJ,↓aA,↓aU,aW,bg,lnM,lnA,lnC,lnN,bh,aa,h1,hW]; (rw [List.map_append]; rfl)
theorem Bw {b : List UInt8} (hb : b.length < 4611686018427387904) {n a : Nat} (hs : InB b (a,true)) (hi : 0 < n) : fi (n : Int) 0 (a : Int) true (b.map eU) = ar (n : Int) 1 ((cp (cI b) (jw b) (a,true)).2.1 : Int) (cp (cI b) (jw b) (a,true)).2.2 (b.map eU) [eN (cp (cI b) (jw b) (a,true)).1] := by
 have h1 := nR hb hs
 have i1 := oT hs
 have h2 := nR hb i1
 have i2 := oT i1
 have h3 := nR hb i2
 have h4 := pk hb i1
 have l2 := DL (b := b) (cI b (a,true)).2
 have hw : IntKind.wrap IntKind.i64 (((cI b (cI b (a,true)).2).1 : Int) - 1000000000) = ((cI b (cI b (a,true)).2).1 : Int) - 1000000000 := vT (by omega) (by omega)
 have hW : IntKind.wrap IntKind.i64 ((0 : Int) + 1) = 1 := by decide
 rw [lT]
 unfold cp
 by_cases k2 : (cI b (a,true)).1 = 2
 ·rw [if_pos (.inl k2)]; simp (disch := first | omega | (simp only [lnA,lnC,lnN,lnM,af,aa]; omega)) only [↓ae,ah,↓am,↓ay,↓aj,↓ai,↓ak,↓ap,↓aJ,↓aA,Int.reduceAdd,aW,bc,bh,wS,aa,h1,h2]
 by_cases k8 : (cI b (a,true)).1 = 8
 ·rw [if_pos (.inr (.inl k8))]; simp (disch := first | omega | (simp only [lnA,lnC,lnN,lnM,af,aa]; omega)) only [↓ae,ah,↓am,↓al,↓ay,↓aj,↓ai,↓ak,↓ap,↓aJ,↓aA,Int.reduceAdd,aW,bc,bg,bh,wS,aa,h1,h2]
 by_cases k9 : (cI b (a,true)).1 = 9
 ·rw [if_pos (.inr (.inr k9))]; simp (disch := first | omega | (simp only [lnA,lnC,lnN,lnM,af,aa]; omega)) only [↓ae,ah,↓am,↓al,↓ay,↓aj,↓ai,↓ak,↓ap,↓aJ,↓aA,Int.reduceAdd,aW,bc,bg,bh,wS,aa,h1,h2]
 rw [if_neg (by omega)]
 by_cases k3 : (cI b (a,true)).1 = 3
 ·rw [if_pos k3]; simp (disch := first | omega | (simp only [lnA,lnC,lnN,lnM,af,aa]; omega)) only [↓ae,ah,↓am,↓al,↓ay,↓aj,↓ai,↓ak,↓ap,↓aJ,↓aA,Int.reduceAdd,aW,bc,bg,bh,wS,aa,h1,h2,hw]
 rw [if_neg k3]
 by_cases k4 : (cI b (a,true)).1 = 4
 ·rw [if_pos k4]
  unfold jw
  cases hT : qS b (cI b (a,true)).2.1 with
  | none =>
   rw [hT,vX] at h4
   cases ho : (cI b (a,true)).2.2 <;> (have h1' := h1; unfold rO at h1'; simp only [ho] at h1'; simp (disch := first | omega | (simp only [lnA,lnC,lnN,lnM,af,aa]; omega)) only [↓ae,ah,↓am,↓al,↓ay,↓aj,↓ai,↓ak,↓ap,↓aF,↓aJ,↓bC,↓aA,Int.reduceAdd,aW,bc,bg,bh,wS,aa,h1',h4]; try rfl)
  | some q =>
   obtain ⟨t,j⟩ := q
   rw [hT,vX] at h4
   cases ho : (cI b (a,true)).2.2 <;> (have h1' := h1; unfold rO at h1'; simp only [ho] at h1'; simp (disch := first | omega | (simp only [lnA,lnC,lnN,lnM,af,aa]; omega)) only [↓ae,ah,↓am,↓al,↓ay,↓aj,↓ai,↓ak,↓ap,↓aF,↓aJ,↓bC,↓aA,Int.reduceAdd,aW,bc,bg,bh,wS,aa,h1',h4]; try rfl)
 rw [if_neg k4]
 by_cases k5 : (cI b (a,true)).1 = 5
 ·rw [if_pos k5]; simp (disch := first | omega | (simp only [lnA,lnC,lnN,lnM,af,aa]; omega)) only [↓ae,ah,↓am,↓al,↓ay,↓aj,↓ai,↓ak,↓ap,↓aJ,↓aA,Int.reduceAdd,aW,bc,bg,bh,wS,aa,h1,h2,h3]
 rw [if_neg k5]
 by_cases k6 : (cI b (a,true)).1 = 6
 ·rw [if_pos k6]; simp (disch := first | omega | (simp only [lnA,lnC,lnN,lnM,af,aa]; omega)) only [↓ae,ah,↓am,↓al,↓ay,↓aj,↓ai,↓ak,↓ap,↓aJ,↓aA,Int.reduceAdd,aW,bc,bg,bh,wS,aa,h1,h2,h3]
 rw [if_neg k6]
 by_cases k7 : (cI b (a,true)).1 = 7
 ·rw [if_pos k7]; simp (disch := first | omega | (simp only [lnA,lnC,lnN,lnM,af,aa]; omega)) only [↓ae,ah,↓am,↓al,↓ay,↓aj,↓ai,↓ak,↓ap,↓aJ,↓aA,Int.reduceAdd,aW,bc,bg,bh,wS,aa,h1,h2]
 rw [if_neg k7]
 simp (disch := first | omega | (simp only [lnA,lnC,lnN,lnM,af,aa]; omega)) only [↓ae,ah,↓am,↓al,↓ay,↓aj,↓ai,↓ak,↓ap,↓aJ,↓aA,Int.reduceAdd,aW,bg,bh,wS,aa,h1]

theorem DE {p : List Nd} {n : Nat} (hn : n < 4611686018427387904) (h : ∀ x ∈ p,x.s.size <= n) : fW p := fun x hx => by have := h x hx; omega
theorem sJ {b : List UInt8} {num : RS -> Nat × RS} {txt : RS -> List UInt8 × RS} (ht : ∀ s,(txt s).1.length <= b.length) (s : RS) : (cp num txt s).1.s.size <= b.length := by
 unfold cp
 have h0 : nilS.size <= b.length := by show 0 <= _; omega
 repeat' split
 all_goals (first | exact h0 | (show (mk _).size <= _; rw [af]; exact ht _))
theorem xI {b : List UInt8} (s : RS) : (jw b s).1.length <= b.length := by
 unfold jw
 split
 ·rename_i t i e; exact Fx e
 ·simp
theorem PN {b : List UInt8} (s : RS) : (fx b s).1.length <= b.length := by
 unfold fx
 split
 ·rename_i t i e; exact Fx e
 ·simp
theorem NH {b : List UInt8} (_ : b.length < 4611686018427387904) {n i : Nat} {s : RS} {p : List Nd} (hp : p.length <= 3000) (hf : fW p) (hn : ¬ (i < n /\ s.2 = true)) :
  ar (n : Int) (i : Int) (s.1 : Int) s.2 (b.map eU) (p.map eN) = some (oP p,[rO b (ic b (p,s)).2]) := by
 obtain ⟨a,o⟩ := s
 rw [j1]
 unfold ic
 cases o with
 | false =>
  cases hd : decide ((i : Int) < (n : Int)) <;> rfl
 | true =>
  have hin : ¬ i < n := fun h => hn ⟨h,rfl⟩
  by_cases ha : a = b.length
  ·have hk := de hf (by omega)
   simp only [ha,decide_true,Bool.true_and]
   simp (disch := first | omega | (simp only [lnA,lnC,lnN,lnM,af,aa]; omega)) only [↓ae,ah,↓am,↓al,↓aj,↓ap,cZ,bc,lnM,aa,hk]
  ·simp only [ha,decide_false,Bool.false_and,Bool.and_false]
   simp (disch := first | omega | (simp only [lnA,lnC,lnN,lnM,af,aa]; omega)) only [↓am,↓al,cZ,bg,lnM,aa]
theorem FH {b : List UInt8} (hb : b.length < 4611686018427387904) (n : Nat) (hn : n <= 3000) : ∀ (k i : Nat) (s : RS) (p : List Nd),i + k = 3001 -> i <= n -> InB b s -> p.length = i -> (∀ x ∈ p,x.s.size <= b.length) ->
  ar (n : Int) (i : Int) (s.1 : Int) s.2 (b.map eU) (p.map eN) = some (oP (ic b (goS b n k i s p)).1,[rO b (ic b (goS b n k i s p)).2])
 | 0,i,s,p,hi,hin',hs,hp,hz => by omega
 | k + 1,i,s,p,hi,hin',hs,hp,hz => by
  simp only [goS]
  by_cases hc : i < n /\ s.2 = true
  ·obtain ⟨a,o⟩ := s
   obtain ⟨h1,h2⟩ := hc
   simp only at h2
   subst h2
   have hin := t3 (fun s h => oT h) (fun s h => LK h) hs
   rw [if_pos ⟨h1,rfl⟩,BC hb hs (by omega) h1 (by omega)]
   refine FH hb n hn k (i + 1) _ _ (by omega) (by omega) hin (by simp; omega) ?_
   intro x hx
   rcases List.mem_append.1 hx with hx | hx
   ·exact hz x hx
   ·simp at hx; subst hx; exact sJ (fun s => xI s) _
  ·rw [if_neg hc]
   exact NH hb (by omega) (DE hb hz) hc
noncomputable def d0 (b : List UInt8) (s : RS) : List Nd × RS :=
 if (cI b s).1 > 3000 then ic b ([],((cI b s).2.1,false)) else ic b (goS b (cI b s).1 3001 0 (cI b s).2 [])
theorem NB {b : List UInt8} (hb : b.length < 4611686018427387904) {s : RS} (hs : InB b s) : V 115 [rO b s] = some (oP (d0 b s).1,[rO b (d0 b s).2]) := by
 have h1 := nR hb hs
 have i1 := oT hs
 have l1 := DL (b := b) s
 rw [Bv]
 unfold d0
 generalize cI b s = m at *
 obtain ⟨cnt,a,o⟩ := m
 have h0 : ∀ o' : Bool,¬ (0 < cnt /\ o' = true) -> fi (cnt : Int) 0 (a : Int) o' (b.map eU) = some (oP [],[rO b (ic b ([],(a,o'))).2]) := by
  intro o' hc
  rw [lT]
  unfold ic
  cases o' with
  | false => cases hd : decide ((0 : Int) < (cnt : Int)) <;> rfl
  | true =>
   have hin : ¬ 0 < cnt := fun h => hc ⟨h,rfl⟩
   have hk : V 60 [.agg [.rs (5,0) []]] = some (.bool (bu []),[]) := de (p := []) (fun x h => by simp at h) (by simp)
   by_cases ha : a = b.length
   ·simp only [ha,decide_true,Bool.true_and]
    simp (disch := first | omega | (simp only [lnA,lnC,lnN,lnM,af,aa]; omega)) only [↓ae,ah,↓am,↓al,↓aj,↓ap,cZ,bc,lnM,aa,hk]
    rfl
   ·simp only [ha,decide_false,Bool.false_and,Bool.and_false]
    simp (disch := first | omega | (simp only [lnA,lnC,lnN,lnM,af,aa]; omega)) only [↓am,↓al,cZ,bg,lnM,aa]
    rfl
 by_cases hbig : cnt > 3000
 ·have := h0 false (by simp)
  rw [if_pos hbig]
  simp (disch := first | omega | (simp only [lnA,lnC,lnN,lnM,af,aa]; omega)) only [↓ae,ah,↓am,↓aj,↓ai,↓ak,↓ap,↓aJ,↓aA,aW,h1,this]
  rfl
 ·rw [if_neg hbig]
  have e : goS b cnt 3001 0 (a,o) [] = if 0 < cnt /\ o = true then goS b cnt 3000 1 (cp (cI b) (jw b) (a,o)).2 [(cp (cI b) (jw b) (a,o)).1] else ([],(a,o)) := rfl
  have hq : fi (cnt : Int) 0 (a : Int) o (b.map eU) = some (oP (ic b (goS b cnt 3001 0 (a,o) [])).1,[rO b (ic b (goS b cnt 3001 0 (a,o) [])).2]) := by
   rw [e]
   by_cases hc : 0 < cnt /\ o = true
   ·obtain ⟨hc1,hc2⟩ := hc
    subst hc2
    have hin := t3 (fun s h => oT h) (fun s h => LK h) i1
    rw [if_pos ⟨hc1,rfl⟩,Bw hb i1 hc1]
    exact FH hb cnt (by omega) 3000 1 _ [(cp (cI b) (jw b) (a,true)).1] (by omega) (by omega) hin (by simp) (by
     intro x hx
     simp at hx; subst hx; exact sJ (fun s => xI s) _)
   ·rw [if_neg hc]; exact h0 o hc
  simp (disch := first | omega | (simp only [lnA,lnC,lnN,lnM,af,aa]; omega)) only [↓ae,ah,↓al,↓aj,↓ai,↓ak,↓ap,↓aJ,↓aA,cZ,h1]
  exact hq
end Go.Eng
/-! a value read of bytes: both sides come to the same -/
namespace Go.Eng
open Go.Proofs Go.Proofs.Tryz
set_option maxHeartbeats 4000000

theorem t7 (b : List UInt8) (a : Nat) : b9 b (a,true) = cI b (a,true) := by
 unfold b9 cI
 split <;> rfl
theorem EK {b : List UInt8} {s : RS} (h : s.2 = false) : (b9 b s).2.2 = false := by
 unfold b9
 split
 ·exact h
 ·rfl
theorem F9 {b : List UInt8} {s : RS} (h : s.2 = false) : (cI b s).2.2 = false := by
 unfold cI
 split
 ·rw [h]
 ·rfl
theorem OD {b : List UInt8} {s : RS} (h : s.2 = false) : (fx b s).2.2 = false := by
 unfold fx
 split
 ·exact h
 ·rfl
theorem Qd {b : List UInt8} {s : RS} (h : s.2 = false) : (jw b s).2.2 = false := by
 unfold jw
 split
 ·exact h
 ·rfl
noncomputable def Sy {α : Type} (r r' : α × RS) : Prop := r.2.2 = r'.2.2 /\ (r.2.2 = true -> r = r')
theorem Pc (b : List UInt8) (a : Nat) : Sy (fx b (a,true)) (jw b (a,true)) := by
 unfold Sy fx jw
 cases qS b a with
 | none => exact ⟨rfl,fun h => by cases h⟩
 | some p => exact ⟨rfl,fun _ => rfl⟩
theorem AC {num : RS -> Nat × RS} {txt : RS -> List UInt8 × RS} (hn : ∀ s : RS,s.2 = false -> (num s).2.2 = false) (ht : ∀ s : RS,s.2 = false -> (txt s).2.2 = false) {s : RS} (h : (num s).2.2 = false) : (cp num txt s).2.2 = false := by
 unfold cp
 repeat' split
 all_goals (first | exact hn _ (hn _ h) | exact hn _ h | exact ht _ h | exact h)
theorem MZ (b : List UInt8) (a : Nat) : Sy (cp (b9 b) (fx b) (a,true)) (cp (cI b) (jw b) (a,true)) := by
 have e := t7 b a
 cases hk : (b9 b (a,true)).2.2 with
 | false =>
  have h1 := AC (num := b9 b) (txt := fx b) (s := (a,true)) (fun s h => EK h) (fun s h => OD h) hk
  have h2 := AC (num := cI b) (txt := jw b) (s := (a,true)) (fun s h => F9 h) (fun s h => Qd h) (by rw [<- e]; exact hk)
  exact ⟨by rw [h1,h2],fun h => by rw [h1] at h; cases h⟩
 | true =>
  unfold cp
  rw [<- e]
  obtain ⟨a1,ha1⟩ : ∃ a1,(b9 b (a,true)).2 = (a1,true) := ⟨_,Prod.ext rfl hk⟩
  rw [ha1]
  have e1 := t7 b a1
  have et := Pc b a1
  have e2 : Sy (b9 b (b9 b (a1,true)).2) (cI b (cI b (a1,true)).2) /\ (b9 b (a1,true)).1 = (cI b (a1,true)).1 := by
   rw [<- e1]
   refine ⟨?_,rfl⟩
   cases h1 : (b9 b (a1,true)).2.2 with
   | false =>
    have q1 := EK (b := b) h1
    have q2 := F9 (b := b) h1
    exact ⟨by rw [q1,q2],fun h => by rw [q1] at h; cases h⟩
   | true =>
    obtain ⟨a2,ha2⟩ : ∃ a2,(b9 b (a1,true)).2 = (a2,true) := ⟨_,Prod.ext rfl h1⟩
    rw [ha2,t7]
    exact ⟨rfl,fun _ => rfl⟩
  repeat' split
  ·rw [e1]; exact ⟨rfl,fun _ => rfl⟩
  ·rw [e1]; exact ⟨rfl,fun _ => rfl⟩
  ·exact ⟨et.1,fun h => by rw [et.2 h]⟩
  ·exact ⟨e2.1.1,fun h => by rw [e2.1.2 h,e2.2]⟩
  ·exact ⟨e2.1.1,fun h => by rw [e2.1.2 h,e2.2]⟩
  ·rw [e1]; exact ⟨rfl,fun _ => rfl⟩
  ·exact ⟨rfl,fun _ => rfl⟩
theorem Lq {b : List UInt8} {cnt k i a : Nat} {p : List Nd} : goI b cnt k i (a,false) p = (p,(a,false)) := by
 cases k <;> simp [goI]
theorem Cx {b : List UInt8} {cnt k i a : Nat} {p : List Nd} : goS b cnt k i (a,false) p = (p,(a,false)) := by
 cases k <;> simp [goS]
theorem D4 {b : List UInt8} {cnt : Nat} (hc : cnt <= 3000) : ∀ (k i a : Nat) (p : List Nd),i + k = 3001 -> Sy (goI b cnt (k + 1) i (a,true) p) (goS b cnt k i (a,true) p)
 | 0,i,a,p,hi => by
  have h1 : ¬ i < cnt := by omega
  simp only [goI,goS,h1,false_and,if_false]
  exact ⟨rfl,fun _ => rfl⟩
 | k + 1,i,a,p,hi => by
  rw [goI,goS]
  by_cases h1 : i < cnt
  ·rw [if_pos ⟨h1,rfl,by omega⟩,if_pos ⟨h1,rfl⟩]
   have hs := MZ b a
   cases hk : (cp (b9 b) (fx b) (a,true)).2.2 with
   | false =>
    obtain ⟨a1,ha1⟩ : ∃ a1,(cp (b9 b) (fx b) (a,true)).2 = (a1,false) := ⟨_,Prod.ext rfl hk⟩
    obtain ⟨a2,ha2⟩ : ∃ a2,(cp (cI b) (jw b) (a,true)).2 = (a2,false) := ⟨_,Prod.ext rfl (by rw [<- hs.1]; exact hk)⟩
    rw [ha1,ha2,Lq,Cx]
    exact ⟨rfl,fun h => by cases h⟩
   | true =>
    obtain ⟨a1,ha1⟩ : ∃ a1,(cp (b9 b) (fx b) (a,true)).2 = (a1,true) := ⟨_,Prod.ext rfl hk⟩
    have e := hs.2 hk
    rw [<- e,ha1]
    exact D4 hc k (i + 1) a1 _ (by omega)
  ·rw [if_neg (fun h => h1 h.1),if_neg (fun h => h1 h.1)]
   exact ⟨rfl,fun _ => rfl⟩
theorem EO {b : List UInt8} {cnt : Nat} (hc : 3000 < cnt) : ∀ (k i : Nat) (s : RS) (p : List Nd),i + k = 3002 -> i <= 3001 -> p.length = i -> (goI b cnt k i s p).2.2 = true -> (goI b cnt k i s p).1.length = 3001
 | 0,i,s,p,hi,hi2,hp,h => by omega
 | k + 1,i,s,p,hi,hi2,hp,h => by
  rw [goI] at h ⊢
  by_cases h1 : i < cnt /\ s.2 = true /\ i <= 3000
  ·rw [if_pos h1] at h ⊢
   exact EO hc k (i + 1) _ _ (by omega) (by omega) (by simp; omega) h
  ·rw [if_neg h1] at h ⊢
   by_cases h2 : i <= 3000
   ·exact absurd ⟨by omega,h,h2⟩ h1
   ·simp only; omega

theorem yx : ∀ (f n : Nat) (rest : List UInt8),n < 128 ^ (f + 1) -> (n = 0 -> 8 <= f) -> mu (f + 1) (cD n ++ rest) = some (n,(cD n).length)
 | f,n,rest,hn,h0 => by
  by_cases h : n <= 127
  ·rw [ja h]
   have e : (UInt8.ofNat n).toNat = n := by simp; omega
   simp only [List.cons_append,List.nil_append,mu,e]
   rw [if_pos (by omega),if_neg (by omega)]; rfl
  ·rw [pW h]
   have e : (UInt8.ofNat (n % 128 + 128)).toNat = n % 128 + 128 := by simp; omega
   cases f with
   | zero => simp at hn; omega
   | succ f =>
   have ih := yx f (n / 128) rest (by rw [Nat.pow_succ] at hn; omega) (fun h => by omega)
   simp only [List.cons_append,mu,e]
   rw [if_neg (by omega)]
   rw [show mu (f + 1) (cD (n / 128) ++ rest) = some (n / 128,(cD (n / 128)).length) from ih]
   have e1 : (n % 128 + 128) % 128 + 128 * (n / 128) = n := by omega
   simp only [e1,lnC]
theorem km {b l rest : List UInt8} {i : Nat} (h : b.drop i = l ++ rest) : b.drop (i + l.length) = rest := by
 rw [<- List.drop_drop,h,List.drop_left]
theorem gk {b : List UInt8} {s : RS} {n : Nat} {rest : List UInt8} (hn : n < 9223372036854775808) (h : b.drop s.1 = cD n ++ rest) : b9 b s = (n,(s.1 + (cD n).length,s.2)) := by
 have e : (128 : Nat) ^ (8 + 1) = 9223372036854775808 := rfl
 have := yx 8 n rest (by omega) (fun _ => Nat.le_refl _)
 unfold b9
 rw [h,this]
theorem Oh {b : List UInt8} {i : Nat} {t rest : List UInt8} (hn : t.length < 4611686018427387904) (h : b.drop i = sG t ++ rest) : qS b i = some (t,i + (sG t).length) := by
 have e : (128 : Nat) ^ (8 + 1) = 9223372036854775808 := rfl
 rw [sG,List.append_assoc] at h
 have h1 := yx 8 t.length (t ++ rest) (by omega) (fun _ => Nat.le_refl _)
 have h2 := km h
 have hl : (b.drop i).length = (cD t.length).length + (t.length + rest.length) := by rw [h]; simp
 rw [List.length_drop] at hl
 have hp := ch hn
 have hi : (cD t.length).length >= 1 := by
  by_cases c : t.length <= 127
  ·rw [ja c]; simp
  ·rw [pW c]; simp
 unfold qS
 rw [h,h1]
 simp only
 rw [if_pos (by omega),h2,List.take_left]
 simp only [sG,lnA,Nat.add_assoc]
theorem Pu {b : List UInt8} {s : RS} {t rest : List UInt8} (hn : t.length < 4611686018427387904) (h : b.drop s.1 = sG t ++ rest) : fx b s = (t,(s.1 + (sG t).length,s.2)) := by
 unfold fx
 rw [Oh hn h]
theorem ph {s : ByteArray} (h : s.size = 0) : s = nilS := by
 apply ByteArray.ext
 have : s.data.size = 0 := h
 exact Array.eq_empty_of_size_eq_zero this
theorem Ng {b : List UInt8} {s : RS} {x : Nd} {i : Nat} (hi : i <= 3000) (ho : okN x i = true) {rest : List UInt8} (h : b.drop s.1 = dK x ++ rest) : cp (b9 b) (fx b) s = (x,(s.1 + (dK x).length,s.2)) := by
 obtain ⟨k1,k9,n3,n9,n0,a0,a1,b0,b1,s4⟩ := qF ho
 obtain ⟨kd,n,sx,a,c⟩ := x
 simp only at k1 k9 n3 n9 n0 a0 a1 b0 b1 s4
 obtain ⟨k,rfl⟩ := Int.eq_ofNat_of_zero_le (show 0 <= kd by omega)
 obtain ⟨a,rfl⟩ := Int.eq_ofNat_of_zero_le a0
 obtain ⟨c,rfl⟩ := Int.eq_ofNat_of_zero_le b0
 have hk : k = 1 \/ k = 2 \/ k = 3 \/ k = 4 \/ k = 5 \/ k = 6 \/ k = 7 \/ k = 8 \/ k = 9 := by omega
 have hd : ∃ r2,b.drop s.1 = cD k ++ r2 := by
  rw [h]; unfold dK; exact ⟨_,by rw [List.append_assoc]; rfl⟩
 obtain ⟨r2,hr2⟩ := hd
 have hn1 := gk (by omega) hr2
 have hr := km hr2
 have er : dK ⟨(k : Int),n,sx,(a : Int),(c : Int)⟩ ++ rest = cD k ++ r2 := by rw [<- h,hr2]
 unfold cp
 rw [hn1]
 simp only
 rcases hk with e | e | e | e | e | e | e | e | e <;> subst e
 ·-- nil
  have hs := ph (ou ho (by simp))
  simp [okN,wi] at ho
  rw [CM rfl] at er ⊢
  simp
  refine ⟨by omega,hs.symm,by omega,by omega⟩
 ·have hs := ph (ou ho (by simp))
  simp [okN,wi] at ho
  obtain ⟨m,rfl⟩ := Int.eq_ofNat_of_zero_le (show 0 <= n by omega)
  rw [gQ (.inl rfl),List.append_assoc] at er
  have er2 := List.append_cancel_left er
  have h2 := gk (b := b) (s := (s.1 + (cD 2).length,s.2)) (n := m) (rest := rest) (by omega) (by rw [hr,<- er2]; rfl)
  rw [h2,gQ (.inl rfl)]
  simp
  refine ⟨⟨hs.symm,by omega,by omega⟩,by omega⟩
 ·have hs := ph (ou ho (by simp))
  simp [okN,wi] at ho
  obtain ⟨m,hm⟩ := Int.eq_ofNat_of_zero_le (show 0 <= n + 1000000000 by omega)
  rw [wO rfl,List.append_assoc] at er
  have er2 := List.append_cancel_left er
  have h2 := gk (b := b) (s := (s.1 + (cD 3).length,s.2)) (n := m) (rest := rest) (by omega) (by rw [hr,<- er2,hm]; rfl)
  rw [h2,wO rfl]
  simp
  refine ⟨⟨by omega,hs.symm,by omega,by omega⟩,by rw [hm]; simp; omega⟩
 ·have hz : sx.data.toList.length = sx.size := nn sx
  simp [okN,wi] at ho
  rw [wQ rfl,List.append_assoc] at er
  have er2 := List.append_cancel_left er
  have h2 := Pu (b := b) (s := (s.1 + (cD 4).length,s.2)) (t := sx.data.toList) (rest := rest) (by omega) (by rw [hr,<- er2])
  rw [h2,wQ rfl]
  simp [sy]
  refine ⟨⟨by omega,by omega,by omega⟩,by omega⟩
 ·have hs := ph (ou ho (by simp))
  simp [okN,wi] at ho
  rw [wV rfl,List.append_assoc,List.append_assoc] at er
  have er2 := List.append_cancel_left er
  have h2 := gk (b := b) (s := (s.1 + (cD 5).length,s.2)) (n := a) (rest := cD c ++ rest) (by omega) (by rw [hr,<- er2]; rfl)
  have hr3 := km (b := b) (i := s.1 + (cD 5).length) (l := cD a) (rest := cD c ++ rest) (by rw [hr,<- er2]; rfl)
  have h3 := gk (b := b) (s := (s.1 + (cD 5).length + (cD a).length,s.2)) (n := c) (rest := rest) (by omega) hr3
  rw [h2]
  simp only
  rw [h3,wV rfl]
  simp
  refine ⟨⟨by omega,hs.symm⟩,by omega⟩
 ·have hs := ph (ou ho (by simp))
  simp [okN,wi] at ho
  obtain ⟨m,rfl⟩ := Int.eq_ofNat_of_zero_le (show 0 <= n by omega)
  rw [wU rfl,List.append_assoc,List.append_assoc] at er
  have er2 := List.append_cancel_left er
  have h2 := gk (b := b) (s := (s.1 + (cD 6).length,s.2)) (n := m) (rest := cD a ++ rest) (by omega) (by rw [hr,<- er2]; rfl)
  have hr3 := km (b := b) (i := s.1 + (cD 6).length) (l := cD m) (rest := cD a ++ rest) (by rw [hr,<- er2]; rfl)
  have h3 := gk (b := b) (s := (s.1 + (cD 6).length + (cD m).length,s.2)) (n := a) (rest := rest) (by omega) hr3
  rw [h2]
  simp only
  rw [h3,wU rfl]
  simp
  refine ⟨⟨hs.symm,by omega⟩,by omega⟩
 ·have hs := ph (ou ho (by simp))
  simp [okN,wi] at ho
  rw [w4 rfl,List.append_assoc] at er
  have er2 := List.append_cancel_left er
  have h2 := gk (b := b) (s := (s.1 + (cD 7).length,s.2)) (n := a) (rest := rest) (by omega) (by rw [hr,<- er2]; rfl)
  rw [h2,w4 rfl]
  simp
  refine ⟨⟨by omega,hs.symm,by omega⟩,by omega⟩
 ·have hs := ph (ou ho (by simp))
  simp [okN,wi] at ho
  obtain ⟨m,rfl⟩ := Int.eq_ofNat_of_zero_le (show 0 <= n by omega)
  rw [gQ (.inr (.inl rfl)),List.append_assoc] at er
  have er2 := List.append_cancel_left er
  have h2 := gk (b := b) (s := (s.1 + (cD 8).length,s.2)) (n := m) (rest := rest) (by omega) (by rw [hr,<- er2]; rfl)
  rw [h2,gQ (.inr (.inl rfl))]
  simp
  refine ⟨⟨hs.symm,by omega,by omega⟩,by omega⟩
 ·have hs := ph (ou ho (by simp))
  simp [okN,wi] at ho
  obtain ⟨m,rfl⟩ := Int.eq_ofNat_of_zero_le (show 0 <= n by omega)
  rw [gQ (.inr (.inr rfl)),List.append_assoc] at er
  have er2 := List.append_cancel_left er
  have h2 := gk (b := b) (s := (s.1 + (cD 9).length,s.2)) (n := m) (rest := rest) (by omega) (by rw [hr,<- er2]; rfl)
  rw [h2,gQ (.inr (.inr rfl))]
  simp
  refine ⟨⟨hs.symm,by omega,by omega⟩,by omega⟩
end Go.Eng
/-! a value read of bytes: both sides come to the same -/
namespace Go.Eng
open Go.Proofs Go.Proofs.Tryz
set_option maxHeartbeats 4000000

theorem Lm {b : List UInt8} {p : List Nd} (hp : bu p = true) {rest : List UInt8} {o : Bool} (ho : o = true) : ∀ (k i a : Nat),i + k = 3002 -> i <= p.length -> b.drop a = (p.drop i).flatMap dK ++ rest -> goI b p.length k i (a,o) (p.take i) = (p,(a + ((p.drop i).flatMap dK).length,o))
 | 0,i,a,hi,hl,h => by have := bJ hp; omega
 | k + 1,i,a,hi,hl,h => by
  have hlen := bJ hp
  rw [goI]
  by_cases h1 : i < p.length
  ·obtain ⟨x,hx⟩ := aE h1
   rw [if_pos ⟨h1,ho,by omega⟩]
   rw [cX hx,List.flatMap_cons,List.append_assoc] at h
   have hn := Ng (b := b) (s := (a,o)) (i := i) (by omega) (eH hp hx) h
   have h2 := km h
   rw [hn]
   simp only
   rw [<- KF hx,Lm hp ho k (i + 1) (a + (dK x).length) (by omega) (by omega) h2,cX hx,List.flatMap_cons,lnA,Nat.add_assoc]
  ·rw [if_neg (fun h => h1 h.1)]
   have : i = p.length := by omega
   subst this
   rw [List.take_length,List.drop_length]; rfl
theorem Ko {b rest : List UInt8} {a : Nat} {p : List Nd} (hp : bu p = true) (h : b.drop a = vq p ++ rest) : dp b (a,true) = (p,(a + (vq p).length,true)) := by
 have hlen := bJ hp
 rw [vq,List.append_assoc] at h
 have h1 := gk (b := b) (s := (a,true)) (n := p.length) (by omega) h
 have h2 := km h
 unfold dp
 rw [h1]
 have := Lm (b := b) hp (rest := rest) (o := true) rfl 3002 0 (a + (cD p.length).length) (by omega) (Nat.zero_le _) h2
 rw [List.take_zero,List.drop_zero] at this
 simp only
 rw [this,vq,lnA,Nat.add_assoc]
noncomputable def vN (s : List UInt8) : Option (List Nd) :=
 if (dp s (0,true)).2.2 = true /\ nH (dp s (0,true)).1 ((dp s (0,true)).1.length - 1) = some s then some (dp s (0,true)).1 else none
noncomputable def Pq (r : Option (List Nd)) : D := match r with | some p => .tup [oP p,.int .i64 ((p.length : Int) - 1),.bool true] | none => .tup [.agg [.os (5,0) []],.int .i64 0,.bool false]
theorem I5 {p : List Nd} {v : Int} {s : List UInt8} (h : nH p v = some s) : bu p = true /\ wi v 0 ((p.length : Int) - 1) = true /\ s = vq (dv (-1) p [v]).1 := by
 unfold nH at h
 split at h
 ·rename_i hc
  cases h
  exact ⟨hc.1,hc.2,rfl⟩
 ·cases h
theorem O5 {b : List UInt8} {cnt : Nat} : ∀ (k i : Nat) (s : RS) (p : List Nd),(∀ x ∈ p,x.s.size <= b.length) -> ∀ x ∈ (goI b cnt k i s p).1,x.s.size <= b.length
 | 0,i,s,p,h => h
 | k + 1,i,s,p,h => by
  rw [goI]
  split
  ·apply O5 k
   intro x hx
   rcases List.mem_append.1 hx with hx | hx
   ·exact h x hx
   ·simp at hx; subst hx; exact sJ (fun s => PN s) _
  ·exact h
theorem LI {b : List UInt8} {cnt : Nat} : ∀ (k i : Nat) (s : RS) (p : List Nd),(goI b cnt k i s p).1.length <= p.length + k
 | 0,i,s,p => Nat.le_refl _
 | k + 1,i,s,p => by
  rw [goI]
  split
  ·have := LI (b := b) (cnt := cnt) k (i + 1) (cp (b9 b) (fx b) s).2 (p ++ [(cp (b9 b) (fx b) s).1])
   simp at this; omega
  ·simp
theorem IQ (b : List UInt8) (s : RS) : (dp b s).1.length <= 3002 := by
 have := LI (b := b) (cnt := (b9 b s).1) 3002 0 (b9 b s).2 []
 simpa [dp] using this
theorem GJ {b : List UInt8} (hb : b.length < 4611686018427387904) (s : RS) : fW (dp b s).1 :=
 DE hb (O5 3002 0 (b9 b s).2 [] (fun x h => by simp at h))
theorem Oj {b : List UInt8} {cnt : Nat} : ∀ (k i : Nat) (s : RS) (p : List Nd),(∀ x ∈ p,x.s.size <= b.length) -> ∀ x ∈ (goS b cnt k i s p).1,x.s.size <= b.length
 | 0,i,s,p,h => h
 | k + 1,i,s,p,h => by
  rw [goS]
  split
  ·apply Oj k
   intro x hx
   rcases List.mem_append.1 hx with hx | hx
   ·exact h x hx
   ·simp at hx; subst hx; exact sJ (fun s => xI s) _
  ·exact h
theorem KH {b : List UInt8} {cnt : Nat} : ∀ (k i : Nat) (s : RS) (p : List Nd),(goS b cnt k i s p).1.length <= p.length + k
 | 0,i,s,p => Nat.le_refl _
 | k + 1,i,s,p => by
  rw [goS]
  split
  ·have := KH (b := b) (cnt := cnt) k (i + 1) (cp (cI b) (jw b) s).2 (p ++ [(cp (cI b) (jw b) s).1])
   simp at this; omega
  ·simp
theorem GD {b : List UInt8} (hb : b.length < 4611686018427387904) (s : RS) : fW (d0 b s).1 /\ (d0 b s).1.length <= 3001 := by
 unfold d0
 split
 ·exact ⟨fun x h => by simp [ic] at h,by simp [ic]⟩
 ·refine ⟨DE hb (Oj 3001 0 (cI b s).2 [] (fun x h => by simp at h)),?_⟩
  have := KH (b := b) (cnt := (cI b s).1) 3001 0 (cI b s).2 []
  simpa [ic] using this
theorem uN {s : List UInt8} (hb : s.length < 4294967296) : V 146 [.str (mk s)] = some (Pq (vN s),[]) := by
 have h1 : V 72 [.op [.os (1,0) (s.map eU),.int .i64 0,.bool true]] = some (oP (dp s (0,true)).1,[rO s (dp s (0,true)).2]) := yz (b := s) (by omega) (s := (0,true)) (Nat.zero_le _)
 have hl := IQ s (0,true)
 have hv := ux (GJ (b := s) (by omega) (0,true)) (by omega) (((dp s (0,true)).1.length : Int) - 1)
 rw [wH,qw]
 unfold vN
 generalize dp s (0,true) = r at *
 obtain ⟨p,a,o⟩ := r
 simp only at h1 hl hv
 have hw : IntKind.wrap IntKind.i64 ((p.length : Int) - 1) = (p.length : Int) - 1 := w64 (by omega) (by omega)
 cases o with
 | false =>
  rw [if_neg (by simp)]
  cases e : nH p ((p.length : Int) - 1) with
  | none => rw [e,wl] at hv; simp (disch := first | omega | (simp only [lnA,lnC,lnN,lnM,af,aa]; omega)) only [↓ae,ah,↓am,↓aj,↓ai,↓ak,↓ap,↓aF,↓aJ,↓aw,↓bC,↓aA,Bool.not_false,lnM,aa,h1,hw,hv]; rfl
  | some q => rw [e,wl] at hv; simp (disch := first | omega | (simp only [lnA,lnC,lnN,lnM,af,aa]; omega)) only [↓ae,ah,↓am,↓aj,↓ai,↓ak,↓ap,↓aF,↓aJ,↓aw,↓bC,↓aA,Bool.not_false,lnM,aa,h1,hw,hv]; rfl
 | true =>
  cases e : nH p ((p.length : Int) - 1) with
  | none =>
   rw [e,wl] at hv
   rw [if_neg (by simp)]
   simp (disch := first | omega | (simp only [lnA,lnC,lnN,lnM,af,aa]; omega)) only [↓ae,ah,↓am,↓al,↓aj,↓ai,↓ak,↓ap,↓aF,↓aJ,↓aw,↓bC,↓aA,Bool.not_true,Bool.not_false,lnM,aa,h1,hw,hv]; rfl
  | some q =>
   rw [e,wl] at hv
   by_cases hq : q = s
   ·subst hq
    have hs : ax (mk q) (mk q) = true := by rw [kV]; simp
    rw [if_pos ⟨rfl,rfl⟩]
    simp (disch := first | omega | (simp only [lnA,lnC,lnN,lnM,af,aa]; omega)) only [↓ae,ah,↓al,↓aj,↓ai,↓ak,↓ap,↓aF,↓aJ,↓aw,↓bC,↓aA,Bool.not_true,lnM,aa,h1,hw,hv,hs]; rfl
   ·have hs : ax (mk q) (mk s) = false := by rw [kM]; exact decide_eq_false hq
    rw [if_neg (fun h => hq (Option.some.inj h.2))]
    simp (disch := first | omega | (simp only [lnA,lnC,lnN,lnM,af,aa]; omega)) only [↓ae,ah,↓am,↓al,↓aj,↓ai,↓ak,↓ap,↓aF,↓aJ,↓aw,↓bC,↓aA,Bool.not_true,Bool.not_false,lnM,aa,h1,hw,hv,hs]; rfl
theorem JH (s : List UInt8) : vN s = if (d0 s (0,true)).2.2 = true /\ (d0 s (0,true)).1.length ≠ 0 /\ nH (d0 s (0,true)).1 ((d0 s (0,true)).1.length - 1) = some s then some (d0 s (0,true)).1 else none := by
 have hn := t7 s 0
 have hS : d0 s (0,true) = if (b9 s (0,true)).1 > 3000 then ic s ([],((b9 s (0,true)).2.1,false)) else ic s (goS s (b9 s (0,true)).1 3001 0 (b9 s (0,true)).2 []) := by
  unfold d0; rw [<- hn]
 have hI : dp s (0,true) = goI s (b9 s (0,true)).1 3002 0 (b9 s (0,true)).2 [] := rfl
 unfold vN
 by_cases hc : (dp s (0,true)).2.2 = true /\ nH (dp s (0,true)).1 ((dp s (0,true)).1.length - 1) = some s
 ·rw [if_pos hc]
  obtain ⟨ho,hp⟩ := hc
  obtain ⟨p1,p2,p3⟩ := I5 hp
  have hr : dp s (0,true) = ((dp s (0,true)).1,((dp s (0,true)).2.1,true)) := Prod.ext rfl (Prod.ext rfl ho)
  have hlen := bJ p1
  have hwi := wi_iff.1 p2
  -- so many nodes at most
  have hcnt : (b9 s (0,true)).1 <= 3000 := by
   by_cases hbig : 3000 < (b9 s (0,true)).1
   ·have := EO hbig 3002 0 (b9 s (0,true)).2 [] rfl (by omega) rfl (by rw [<- hI]; exact ho)
    rw [<- hI] at this; omega
   ·omega
  -- the first number was read
  have hok : (b9 s (0,true)).2.2 = true := by
   cases e : (b9 s (0,true)).2.2 with
   | true => rfl
   | false =>
    obtain ⟨a1,ha1⟩ : ∃ a1,(b9 s (0,true)).2 = (a1,false) := ⟨_,Prod.ext rfl e⟩
    rw [hI,ha1,Lq] at ho; cases ho
  obtain ⟨a1,ha1⟩ : ∃ a1,(b9 s (0,true)).2 = (a1,true) := ⟨_,Prod.ext rfl hok⟩
  have hsy := D4 (b := s) hcnt 3001 0 a1 [] (by omega)
  have hII : dp s (0,true) = goI s (b9 s (0,true)).1 3002 0 (a1,true) [] := by rw [hI,ha1]
  have he := hsy.2 (by rw [<- hII]; exact ho)
  rw [<- hII] at he
  -- all was read
  have ha := rL p1 (kg p2) (-1) (-1)
  have hrt := Ko (b := s) (a := 0) (rest := []) ha.1 (by rw [List.drop_zero,List.append_nil]; exact p3)
  rw [<- p3,Nat.zero_add] at hrt
  have hat : (dp s (0,true)).2.1 = s.length := by rw [hrt]
  have hS2 : d0 s (0,true) = ((dp s (0,true)).1,((dp s (0,true)).2.1,true)) := by
   rw [hS,if_neg (show ¬ (b9 s (0,true)).1 > 3000 by omega),ha1,<- he]
   unfold ic
   rw [hat,ho,p1]; simp
  rw [hS2,if_pos ⟨rfl,(by simp only; omega),hp⟩]
 ·rw [if_neg hc]
  by_cases hs : (d0 s (0,true)).2.2 = true /\ (d0 s (0,true)).1.length ≠ 0 /\ nH (d0 s (0,true)).1 ((d0 s (0,true)).1.length - 1) = some s
  ·exfalso
   obtain ⟨s1,s2,s3⟩ := hs
   by_cases hbig : (b9 s (0,true)).1 > 3000
   ·rw [hS,if_pos hbig] at s1; simp [ic] at s1
   ·rw [hS,if_neg hbig] at s1 s3
    have hok : (b9 s (0,true)).2.2 = true := by
     cases e : (b9 s (0,true)).2.2 with
     | true => rfl
     | false =>
      obtain ⟨a1,ha1⟩ : ∃ a1,(b9 s (0,true)).2 = (a1,false) := ⟨_,Prod.ext rfl e⟩
      rw [ha1,Cx] at s1; simp [ic] at s1
    obtain ⟨a1,ha1⟩ : ∃ a1,(b9 s (0,true)).2 = (a1,true) := ⟨_,Prod.ext rfl hok⟩
    have hsy := D4 (b := s) (cnt := (b9 s (0,true)).1) (by omega) 3001 0 a1 [] (by omega)
    have hII : dp s (0,true) = goI s (b9 s (0,true)).1 3002 0 (a1,true) [] := by rw [hI,ha1]
    rw [ha1] at s1 s3
    simp only [ic,Bool.and_eq_true] at s1
    have he := hsy.2 (by rw [hsy.1]; exact s1.1)
    rw [<- hII] at he
    simp only [ic] at s3
    rw [<- he] at s1 s3
    exact hc ⟨s1.1,s3⟩
  ·rw [if_neg hs]
theorem uj {s : List UInt8} (hb : s.length < 4294967296) : V 144 [.str (mk s)] = some (Pq (vN s),[]) := by
 have h1 : V 115 [.op [.os (1,0) (s.map eU),.int .i64 0,.bool true]] = some (oP (d0 s (0,true)).1,[rO s (d0 s (0,true)).2]) := NB (b := s) (by omega) (s := (0,true)) (Nat.zero_le _)
 obtain ⟨hf,hl⟩ := GD (b := s) (by omega) (0,true)
 have hv := uE hf (by omega) (((d0 s (0,true)).1.length : Int) - 1)
 have hr := JH s
 rw [hr,wB,qw]
 generalize hgen : d0 s (0,true) = r at *
 obtain ⟨p,a,o⟩ := r
 simp only at h1 hl hv
 have hw : IntKind.wrap IntKind.i64 ((p.length : Int) - 1) = (p.length : Int) - 1 := w64 (by omega) (by omega)
 cases o with
 | false =>
  rw [if_neg (by simp)]
  simp (disch := first | omega | (simp only [lnA,lnC,lnN,lnM,af,aa]; omega)) only [↓ae,ah,↓am,↓aj,↓ai,↓ak,↓ap,↓aJ,↓aw,↓aA,Bool.not_false,h1]; rfl
 | true =>
  by_cases hz : p.length = 0
  ·rw [if_neg (fun h => h.2.1 hz)]
   simp (disch := first | omega | (simp only [lnA,lnC,lnN,lnM,af,aa]; omega)) only [↓ae,ah,↓am,↓al,↓aj,↓ai,↓ak,↓ap,↓aJ,↓aw,↓aA,bc,Bool.not_true,lnM,aa,h1]; rfl
  cases e : nH p ((p.length : Int) - 1) with
  | none =>
   rw [e,wl] at hv
   rw [if_neg (by simp)]
   -- the text is not the empty one
   have hs : ax ⟨#[]⟩ (mk s) = false := by
    cases hs : ax ⟨#[]⟩ (mk s) with
    | false => rfl
    | true =>
     exfalso
     have e0 : s = [] := by
      have : ax (mk []) (mk s) = true := hs
      rw [kM] at this
      exact (of_decide_eq_true this).symm
     subst e0
     have : (d0 [] (0,true)).2.2 = false := by
      unfold d0
      split
      ·rfl
      ·have e1 : (cI [] (0,true)).2 = (0,false) := rfl
       rw [e1,Cx]; rfl
     rw [hgen] at this
     cases this
   simp (disch := first | omega | (simp only [lnA,lnC,lnN,lnM,af,aa]; omega)) only [↓ae,ah,↓am,↓al,↓aj,↓ai,↓ak,↓ap,↓aF,↓aJ,↓aw,↓bC,↓aA,bg,Bool.not_true,Bool.not_false,lnM,aa,h1,hw,hv,hs]; rfl
  | some q =>
   rw [e,wl] at hv
   by_cases hq : q = s
   ·subst hq
    have hs : ax (mk q) (mk q) = true := by rw [kV]; simp
    rw [if_pos ⟨rfl,hz,rfl⟩]
    simp (disch := first | omega | (simp only [lnA,lnC,lnN,lnM,af,aa]; omega)) only [↓ae,ah,↓al,↓aj,↓ai,↓ak,↓ap,↓aF,↓aJ,↓aw,↓bC,↓aA,bg,Bool.not_true,lnM,aa,h1,hw,hv,hs]; rfl
   ·have hs : ax (mk q) (mk s) = false := by rw [kM]; exact decide_eq_false hq
    rw [if_neg (fun h => hq (Option.some.inj h.2.2))]
    simp (disch := first | omega | (simp only [lnA,lnC,lnN,lnM,af,aa]; omega)) only [↓ae,ah,↓am,↓al,↓aj,↓ai,↓ak,↓ap,↓aF,↓aJ,↓aw,↓bC,↓aA,bg,Bool.not_true,Bool.not_false,lnM,aa,h1,hw,hv,hs]; rfl
end Go.Eng
/-! processes: when they are right,on both sides -/
namespace Go.Eng
open Go.Proofs Go.Proofs.Tryz
set_option maxHeartbeats 4000000

structure Pr where
 pid : Int
 m : Mc
 box : List ByteArray
 out : List ByteArray
noncomputable abbrev ePr (p : Pr) : D := .agg [.int .i64 p.pid,.rs (5,0) (p.m.pool.map eN),.int .i64 p.m.at',.int .i64 p.m.s,.int .i64 p.m.e,.int .i64 p.m.d,.int .i64 p.m.state,.int .i64 p.m.ask,.int .i64 p.m.arg,.rs (1,0) (p.box.map D.str),.rs (1,0) (p.out.map D.str)]
noncomputable abbrev oPr (p : Pr) : D := .agg [.int .i64 p.pid,.os (5,0) (p.m.pool.map eN),.int .i64 p.m.at',.int .i64 p.m.s,.int .i64 p.m.e,.int .i64 p.m.d,.int .i64 p.m.state,.int .i64 p.m.ask,.int .i64 p.m.arg,.os (1,0) (p.box.map D.str),.os (1,0) (p.out.map D.str)]
structure FitsR (p : Pr) : Prop where
 pool : fW p.m.pool
 plen : p.m.pool.length <= 4294967296
 box : ∀ x ∈ p.box,x.size < 4294967296
 blen : p.box.length < 4294967296
 out : ∀ x ∈ p.out,x.size < 4294967296
 olen : p.out.length < 4294967296
noncomputable def t8 (s : ByteArray) : Bool := (vN s.data.toList).isSome
noncomputable def zy (c : Cd) (p : Pr) : Bool := wi p.pid 1 1000000000 && (J4 c p.m && (decide (p.box.length <= 20) && (decide (p.out.length <= 40) && (p.box.all t8 && p.out.all fun s => decide (s.size <= 400)))))
theorem GZ (r : Option (List Nd)) : ∃ (q : List Nd) (n : Int),Pq r = .tup [oP q,.int .i64 n,.bool r.isSome] := by
 cases r with
 | none => exact ⟨[],0,rfl⟩
 | some q => exact ⟨q,_,rfl⟩
theorem QL {s : ByteArray} (hs : s.size < 4294967296) : ∃ (q : List Nd) (n : Int),V 146 [.str s] = some (.tup [oP q,.int .i64 n,.bool (t8 s)],[]) := by
 have h := uN (s := s.data.toList) (by rw [nn]; exact hs)
 rw [sy] at h
 obtain ⟨q,n,e⟩ := GZ (vN s.data.toList)
 rw [e] at h
 exact ⟨q,n,h⟩
theorem QK {s : ByteArray} (hs : s.size < 4294967296) : ∃ (q : List Nd) (n : Int),V 144 [.str s] = some (.tup [oP q,.int .i64 n,.bool (t8 s)],[]) := by
 have h := uj (s := s.data.toList) (by rw [nn]; exact hs)
 rw [sy] at h
 obtain ⟨q,n,e⟩ := GZ (vN s.data.toList)
 rw [e] at h
 exact ⟨q,n,h⟩
theorem MS {s : ByteArray} (hs : s.size < 4294967296) : V 82 [.str s] = some (.bool (t8 s),[]) := by
 obtain ⟨q,n,h⟩ := QL hs
 rw [zh]; simp (disch := first | omega | (simp only [lnA,lnC,lnN,lnM,af,aa]; omega)) only [↓ae,ah,↓aj,↓ai,↓ak,↓ap,↓aJ,↓aw,↓bC,h]
theorem Gk {l : List ByteArray} (hl : l.length < 4294967296) (hs : ∀ x ∈ l,x.size < 4294967296) : ∀ (k i : Nat),i + k = l.length -> ez (l.map D.str) (ni (l.map D.str).length) (i : Int) = some (.int .i64 (f7 (fun s => !t8 s) l i),[])
 | 0,i,hi => by
  rw [ig,jE (by omega)]
  simp (disch := first | omega | (simp only [lnA,lnC,lnN,lnM,af,aa]; omega)) only [↓al,cZ,lnM,aa]
 | k + 1,i,hi => by
  obtain ⟨x,hx⟩ := aE (l := l) (i := i) (by omega)
  have ih := Gk hl hs k (i + 1) (by omega)
  rw [lnM] at ih
  have hd : V 81 [.str x] = some (.bool (!t8 x),[]) := by
   rw [yD]; simp (disch := first | omega | (simp only [lnA,lnC,lnN,lnM,af,aa]; omega)) only [↓ae,ah,↓aj,↓ap,MS (hs x (List.mem_of_getElem? hx))]
  have hw : IntKind.wrap IntKind.i64 ((i : Int) + 1) = ((i + 1 : Nat) : Int) := dd (by omega)
  rw [ig]
  cases h : (!t8 x) with
  | true => rw [jz hx h]; rw [h] at hd; simp (disch := first | omega | (simp only [lnA,lnC,lnN,lnM,af,aa]; omega)) only [↓ae,ah,↓am,↓ay,↓aj,↓ap,↓aF,↓aR,aW,Bool.and_true,lnM,aa,↓aq hx,hd]
  | false => rw [h] at hd; rw [iC hx h,<- ih]; simp (disch := first | omega | (simp only [lnA,lnC,lnN,lnM,af,aa]; omega)) only [↓ae,ah,↓am,↓al,↓ay,↓aj,↓ap,↓aF,↓aR,aW,Bool.and_true,lnM,aa,↓aq hx,hd,hw]
theorem Fa {l : List ByteArray} (hl : l.length < 4294967296) : ∀ (k i : Nat),i + k = l.length -> eF (l.map D.str) (ni (l.map D.str).length) (i : Int) = some (.int .i64 (f7 (fun s => decide ((s.size : Int) > 400)) l i),[])
 | 0,i,hi => by
  rw [ia,jE (by omega)]
  simp (disch := first | omega | (simp only [lnA,lnC,lnN,lnM,af,aa]; omega)) only [↓al,cZ,lnM,aa]
 | k + 1,i,hi => by
  obtain ⟨x,hx⟩ := aE (l := l) (i := i) (by omega)
  have ih := Fa hl k (i + 1) (by omega)
  rw [lnM] at ih
  have hd : V 83 [.str x] = some (.bool (decide ((x.size : Int) > 400)),[]) := by rw [yK]
  have hw : IntKind.wrap IntKind.i64 ((i : Int) + 1) = ((i + 1 : Nat) : Int) := dd (by omega)
  rw [ia]
  cases h : decide ((x.size : Int) > 400) with
  | true => rw [jz (p := fun s : ByteArray => decide ((s.size : Int) > 400)) hx h]; rw [h] at hd; simp (disch := first | omega | (simp only [lnA,lnC,lnN,lnM,af,aa]; omega)) only [↓ae,ah,↓am,↓ay,↓aj,↓ap,↓aF,↓aR,aW,Bool.and_true,lnM,aa,↓aq hx,hd]
  | false => rw [h] at hd; rw [iC (p := fun s : ByteArray => decide ((s.size : Int) > 400)) hx h,<- ih]; simp (disch := first | omega | (simp only [lnA,lnC,lnN,lnM,af,aa]; omega)) only [↓ae,ah,↓am,↓al,↓ay,↓aj,↓ap,↓aF,↓aR,aW,Bool.and_true,lnM,aa,↓aq hx,hd,hw]
theorem Ln {α : Type} (l : List α) (p : α -> Bool) : (!(l.any fun x => !p x)) = l.all p := by
 rw [List.any_eq_not_all_not,Bool.not_not]; simp
theorem rh {c : Cd} (hf : FitsC c) {p : Pr} (hp : FitsR p) : V 26 [eCd c,ePr p] = some (.bool (zy c p),[]) := by
 have hm := um hf hp.pool (by have := hp.plen; omega)
 have b0 := hp.blen
 have o0 := hp.olen
 have hb : V 80 [.rs (1,0) (p.box.map D.str),.fn 81 []] = some (.bool (p.box.any fun s => !t8 s),[]) := by
  have h := Gk hp.blen hp.box p.box.length 0 (Nat.zero_add _)
  rw [iu,Int.natCast_zero] at h
  have h2 : V 145 [.rs (1,0) (p.box.map D.str),.fn 81 []] = some (.int .i64 (uK (fun s => !t8 s) p.box),[]) := by
   rw [sj]; exact h
  rw [pe,ek h2,AY]
 have ho : V 80 [.rs (1,0) (p.out.map D.str),.fn 83 []] = some (.bool (p.out.any fun s => decide ((s.size : Int) > 400)),[]) := by
  have h := Fa hp.olen p.out.length 0 (Nat.zero_add _)
  rw [iu,Int.natCast_zero] at h
  have h2 : V 145 [.rs (1,0) (p.out.map D.str),.fn 83 []] = some (.int .i64 (uK (fun s : ByteArray => decide ((s.size : Int) > 400)) p.out),[]) := by
   rw [rV]; exact h
  rw [pd,ek h2,AY]
 have e1 : (!(p.box.any fun s => !t8 s)) = p.box.all t8 := Ln _ _
 have e2 : (!(p.out.any fun s => decide ((s.size : Int) > 400))) = p.out.all fun s => decide (s.size <= 400) := by
  rw [<- Ln]
  congr 2
  funext s
  by_cases h : s.size <= 400
  ·rw [decide_eq_false (by omega),decide_eq_true h]; rfl
  ·rw [decide_eq_true (by omega),decide_eq_false h]; rfl
 rw [BW]
 unfold zy
 cases a1 : wi p.pid 1 1000000000 with
 | false => simp (disch := first | omega | (simp only [lnA,lnC,lnN,lnM,af,aa]; omega)) only [↓ae,ah,↓am,↓aj,↓ap,Bool.false_and,Bool.not_false,bW,a1]
 | true =>
 cases a2 : J4 c p.m with
 | false => rw [a2] at hm; simp (disch := first | omega | (simp only [lnA,lnC,lnN,lnM,af,aa]; omega)) only [↓ae,ah,↓am,↓al,↓aj,↓ap,Bool.false_and,Bool.and_false,Bool.not_true,Bool.not_false,bW,a1,hm]
 | true =>
 rw [a2] at hm
 by_cases a3 : p.box.length <= 20
 ·by_cases a4 : p.out.length <= 40
  ·simp (disch := first | omega | (simp only [lnA,lnC,lnN,lnM,af,aa]; omega)) only [↓ae,ah,↓al,↓aj,↓ap,aW,cZ,Bool.true_and,Bool.not_true,lnM,aa,bW,a1,hm,hb,ho,e1,e2]
   cases p.box.all t8 <;> rfl
  ·simp (disch := first | omega | (simp only [lnA,lnC,lnN,lnM,af,aa]; omega)) only [↓ae,ah,↓am,↓al,↓aj,↓ap,aW,cZ,Bool.false_and,Bool.and_false,Bool.not_true,lnM,aa,bW,a1,hm]
 ·simp (disch := first | omega | (simp only [lnA,lnC,lnN,lnM,af,aa]; omega)) only [↓ae,ah,↓am,↓al,↓aj,↓ap,aW,cZ,Bool.false_and,Bool.and_false,Bool.not_true,lnM,aa,bW,a1,hm]
theorem rb {l : List ByteArray} (hl : l.length < 4294967296) (a1 : Int) (a2 : List D) (a3 a4 a5 a6 a7 a8 a9 : Int) (a10 : List D) : ∀ (k i : Nat),i + k = l.length -> gN (i : Int) a1 a2 a3 a4 a5 a6 a7 a8 a9 a10 (l.map D.str) = some (.bool ((l.drop i).all fun s => decide (s.size <= 400)),[])
 | 0,i,hi => by
  rw [lr,List.drop_of_length_le (by omega)]
  simp (disch := first | omega | (simp only [lnA,lnC,lnN,lnM,af,aa]; omega)) only [↓al,cZ,lnM,aa]
  rfl
 | k + 1,i,hi => by
  obtain ⟨x,hx⟩ := aE (l := l) (i := i) (by omega)
  have ih := rb hl a1 a2 a3 a4 a5 a6 a7 a8 a9 a10 k (i + 1) (by omega)
  have hw : IntKind.wrap IntKind.i64 ((i : Int) + 1) = ((i + 1 : Nat) : Int) := dd (by omega)
  rw [lr,cX hx,List.all_cons]
  by_cases h : x.size <= 400
  ·simp (disch := first | omega | (simp only [lnA,lnC,lnN,lnM,af,aa]; omega)) only [↓am,↓al,↓ay,↓aF,↓aR,aW,cZ,Bool.true_and,Bool.and_true,lnM,aa,↓aq hx,hw,ih]
  ·simp (disch := first | omega | (simp only [lnA,lnC,lnN,lnM,af,aa]; omega)) only [↓am,↓ay,↓aF,↓aR,aW,cZ,Bool.and_true,Bool.false_and,lnM,aa,↓aq hx]
theorem q9 {l o : List ByteArray} (hl : l.length < 4294967296) (hs : ∀ x ∈ l,x.size < 4294967296) (ho : o.length < 4294967296) (a1 : Int) (a2 : List D) (a3 a4 a5 a6 a7 a8 a9 : Int) : ∀ (k i : Nat),i + k = l.length -> iB (i : Int) a1 a2 a3 a4 a5 a6 a7 a8 a9 (l.map D.str) (o.map D.str) = some (.bool ((l.drop i).all t8 && o.all fun s => decide (s.size <= 400)),[])
 | 0,i,hi => by
  have h := rb ho a1 a2 a3 a4 a5 a6 a7 a8 a9 (l.map D.str) o.length 0 (Nat.zero_add _)
  rw [Int.natCast_zero,List.drop_zero] at h
  rw [me,List.drop_of_length_le (by omega)]
  simp (disch := first | omega | (simp only [lnA,lnC,lnN,lnM,af,aa]; omega)) only [↓al,cZ,lnM,aa,h]
  rfl
 | k + 1,i,hi => by
  obtain ⟨x,hx⟩ := aE (l := l) (i := i) (by omega)
  have ih := q9 hl hs ho a1 a2 a3 a4 a5 a6 a7 a8 a9 k (i + 1) (by omega)
  have hw : IntKind.wrap IntKind.i64 ((i : Int) + 1) = ((i + 1 : Nat) : Int) := dd (by omega)
  obtain ⟨q,n,hr⟩ := QK (hs x (List.mem_of_getElem? hx))
  rw [me,cX hx,List.all_cons]
  cases h : t8 x with
  | true => rw [h] at hr; simp (disch := first | omega | (simp only [lnA,lnC,lnN,lnM,af,aa]; omega)) only [↓ae,ah,↓am,↓al,↓ay,↓aj,↓ai,↓ak,↓ap,↓aF,↓aJ,↓aw,↓bC,↓aR,aW,Bool.true_and,Bool.and_true,Bool.not_true,lnM,aa,↓aq hx,hr,hw,ih]
  | false => rw [h] at hr; simp (disch := first | omega | (simp only [lnA,lnC,lnN,lnM,af,aa]; omega)) only [↓ae,ah,↓am,↓ay,↓aj,↓ai,↓ak,↓ap,↓aF,↓aJ,↓aw,↓bC,↓aR,aW,Bool.and_true,Bool.false_and,Bool.not_false,lnM,aa,↓aq hx,hr]
theorem zl {c : Cd} (hf : FitsC c) {p : Pr} (hp : FitsR p) : V 79 [eCd c,ePr p] = some (.bool (zy c p),[]) := by
 have hm := uf hf hp.pool (by have := hp.plen; omega)
 have b0 := hp.blen
 have o0 := hp.olen
 have h := q9 hp.blen hp.box hp.olen p.pid (p.m.pool.map eN) p.m.at' p.m.s p.m.e p.m.d p.m.state p.m.ask p.m.arg p.box.length 0 (Nat.zero_add _)
 rw [Int.natCast_zero,List.drop_zero] at h
 rw [Da]
 unfold zy
 cases a1 : wi p.pid 1 1000000000 with
 | false => simp (disch := first | omega | (simp only [lnA,lnC,lnN,lnM,af,aa]; omega)) only [↓ae,ah,↓am,↓aj,↓ap,Bool.false_and,Bool.not_false,dP,a1]
 | true =>
 cases a2 : J4 c p.m with
 | false => rw [a2] at hm; simp (disch := first | omega | (simp only [lnA,lnC,lnN,lnM,af,aa]; omega)) only [↓ae,ah,↓am,↓al,↓aj,↓ap,Bool.false_and,Bool.and_false,Bool.not_true,Bool.not_false,dP,a1,hm]
 | true =>
 rw [a2] at hm
 by_cases a3 : p.box.length <= 20
 ·by_cases a4 : p.out.length <= 40
  ·simp (disch := first | omega | (simp only [lnA,lnC,lnN,lnM,af,aa]; omega)) only [↓ae,ah,↓al,↓aj,↓ap,aW,cZ,Bool.true_and,Bool.not_true,lnM,aa,dP,a1,hm,h]
  ·simp (disch := first | omega | (simp only [lnA,lnC,lnN,lnM,af,aa]; omega)) only [↓ae,ah,↓am,↓al,↓aj,↓ap,aW,cZ,Bool.false_and,Bool.and_false,Bool.not_true,lnM,aa,dP,a1,hm]
 ·simp (disch := first | omega | (simp only [lnA,lnC,lnN,lnM,af,aa]; omega)) only [↓ae,ah,↓am,↓al,↓aj,↓ap,aW,cZ,Bool.false_and,Bool.and_false,Bool.not_true,lnM,aa,dP,a1,hm]
end Go.Eng
/-! new machines and processes,on both sides -/
namespace Go.Eng
open Go.Proofs Go.Proofs.Tryz
set_option maxHeartbeats 4000000

theorem ye {α : Type} (p : α -> Bool) (l : List α) : -1 <= uK p l /\ uK p l < l.length := by
 unfold uK
 cases h : l.findIdx? p with
 | none => simp only; omega
 | some k =>
  rw [List.findIdx?_eq_some_iff_getElem] at h
  obtain ⟨hk,_⟩ := h
  simp only; omega
noncomputable def zMc : Mc := ⟨[],0,0,0,0,0,0,0⟩
noncomputable def Kr (d : Df) : Mc := ⟨[⟨1,0,⟨#[]⟩,0,0⟩,⟨5,0,⟨#[]⟩,0,0⟩],d.at',0,1,0,0,0,0⟩
noncomputable def zo (c : Cd) (s : ByteArray) : Option Mc := if gx c = true /\ 0 <= pc c s then
  (match c.defs[(pc c s).toNat]? with | some d => if d.args = 0 then some (Kr d) else none | none => none) else none
noncomputable def M7 (r : Option Mc) : D := match r with | some m => .tup [oMc m,.bool true] | none => .tup [oMc zMc,.bool false]
theorem tc {c : Cd} (hf : FitsC c) (s : ByteArray) : V 77 [eCd c,.str s] = some (M7 (zo c s),[]) := by
 have hd := sC hf s
 have hc := rn hf
 have hb := ye (fun d : Df => ax d.name s) c.defs
 rw [ut]
 unfold zo
 cases e1 : gx c with
 | false => rw [e1] at hc; rw [if_neg (by simp)]; simp (disch := first | omega | (simp only [lnA,lnC,lnN,lnM,af,aa]; omega)) only [↓ae,ah,↓am,↓aj,↓ak,↓ap,Bool.not_false,hd,hc]; rfl
 | true =>
  rw [e1] at hc
  by_cases e2 : 0 <= pc c s
  ·rw [if_pos ⟨rfl,e2⟩]
   obtain ⟨k,hk⟩ := Int.eq_ofNat_of_zero_le e2
   have hkl : k < c.defs.length := by unfold pc at hk; omega
   obtain ⟨d,hx⟩ := aE hkl
   rw [hk] at hd ⊢
   rw [Int.toNat_natCast,hx]
   by_cases e3 : d.args = 0
   ·simp only [e3,if_true]
    simp (disch := first | omega | (simp only [lnA,lnC,lnN,lnM,af,aa]; omega)) only [↓ae,ah,↓al,↓ay,↓aj,↓ak,↓ap,↓aw,↓qx,↓gZ,qx,gZ,↓aR,aW,cZ,pu,Bool.and_true,Bool.not_true,lnM,aa,hd,hc,↓aq hx]
    rfl
   ·simp only [e3,if_false]
    simp (disch := first | omega | (simp only [lnA,lnC,lnN,lnM,af,aa]; omega)) only [↓ae,ah,↓am,↓al,↓ay,↓aj,↓ak,↓ap,↓aw,↓gZ,gZ,↓aR,aW,cZ,pi,Bool.and_true,Bool.not_true,lnM,aa,hd,hc,↓aq hx]
    rfl
  ·rw [if_neg (fun h => e2 h.2)]
   simp (disch := first | omega | (simp only [lnA,lnC,lnN,lnM,af,aa]; omega)) only [↓ae,ah,↓am,↓al,↓aj,↓ak,↓ap,aW,Bool.not_true,hd,hc]
   rfl
theorem tw {c : Cd} (hf : FitsC c) (s : ByteArray) : V 78 [eCd c,.str s] = some (M7 (zo c s),[]) := by
 have hd := s6 hf s
 have hc := mG hf
 have hb := ye (fun d : Df => ax d.name s) c.defs
 rw [ul]
 unfold zo
 cases e1 : gx c with
 | false => rw [e1] at hc; rw [if_neg (by simp)]; simp (disch := first | omega | (simp only [lnA,lnC,lnN,lnM,af,aa]; omega)) only [↓ae,ah,↓am,↓aj,↓ak,↓ap,Bool.not_false,hd,hc]; rfl
 | true =>
  rw [e1] at hc
  by_cases e2 : 0 <= pc c s
  ·rw [if_pos ⟨rfl,e2⟩]
   obtain ⟨k,hk⟩ := Int.eq_ofNat_of_zero_le e2
   have hkl : k < c.defs.length := by unfold pc at hk; omega
   obtain ⟨d,hx⟩ := aE hkl
   rw [hk] at hd ⊢
   rw [Int.toNat_natCast,hx]
   by_cases e3 : d.args = 0
   ·simp only [e3,if_true]
    simp (disch := first | omega | (simp only [lnA,lnC,lnN,lnM,af,aa]; omega)) only [↓ae,ah,↓al,↓ay,↓aj,↓ak,↓ap,↓aw,↓qx,↓gZ,qx,gZ,↓aR,aW,cZ,pu,Bool.and_true,Bool.not_true,lnM,aa,hd,hc,↓aq hx]
    rfl
   ·simp only [e3,if_false]
    simp (disch := first | omega | (simp only [lnA,lnC,lnN,lnM,af,aa]; omega)) only [↓ae,ah,↓am,↓al,↓ay,↓aj,↓ak,↓ap,↓aw,↓gZ,gZ,↓aR,aW,cZ,pi,Bool.and_true,Bool.not_true,lnM,aa,hd,hc,↓aq hx]
    rfl
  ·rw [if_neg (fun h => e2 h.2)]
   simp (disch := first | omega | (simp only [lnA,lnC,lnN,lnM,af,aa]; omega)) only [↓ae,ah,↓am,↓al,↓aj,↓ak,↓ap,aW,Bool.not_true,hd,hc]
   rfl
theorem Ah {c : Cd} {s : ByteArray} {m : Mc} (h : zo c s = some m) : ∃ d ∈ c.defs,d.args = 0 /\ m = Kr d /\ gx c = true := by
 unfold zo at h
 split at h
 ·rename_i hc
  split at h
  ·rename_i d hx
   split at h
   ·rename_i ha
    cases h
    exact ⟨d,List.mem_of_getElem? hx,ha,rfl,hc.1⟩
   ·cases h
  ·cases h
 ·cases h
noncomputable def zPr : Pr := ⟨0,zMc,[],[]⟩
noncomputable def MU (c : Cd) (s : ByteArray) (pid : Int) : Option Pr := match zo c s with
 | some m => if zy c ⟨pid,m,[],[]⟩ = true then some ⟨pid,m,[],[]⟩ else none
 | none => none
noncomputable def QX (r : Option Pr) : D := match r with | some p => .tup [oPr p,.bool true] | none => .tup [oPr zPr,.bool false]
theorem u6 {c : Cd} {s : ByteArray} {m : Mc} (h : zo c s = some m) (pid : Int) : FitsR ⟨pid,m,[],[]⟩ := by
 obtain ⟨d,_,_,rfl,_⟩ := Ah h
 refine ⟨?_,?_,fun x hx => by simp at hx,by simp,fun x hx => by simp at hx,by simp⟩
 ·intro x hx
  simp only [Kr,List.mem_cons,List.not_mem_nil,or_false] at hx
  rcases hx with rfl | rfl <;> decide
 ·simp [Kr]
theorem ym {c : Cd} (hf : FitsC c) (s : ByteArray) (pid : Int) : V 24 [eCd c,.str s,.int .i64 pid] = some (QX (MU c s pid),[]) := by
 have h1 := tc hf s
 rw [zq]
 unfold MU
 cases e : zo c s with
 | none => rw [e,M7] at h1; rw [o6 h1]; rfl
 | some m =>
  rw [e,M7] at h1
  have h2 : V 26 [eCd c,.agg [.int .i64 pid,.rs (5,0) (m.pool.map eN),.int .i64 m.at',.int .i64 m.s,.int .i64 m.e,.int .i64 m.d,.int .i64 m.state,.int .i64 m.ask,.int .i64 m.arg,.rs (1,0) [],.rs (1,0) []]] = some (.bool (zy c ⟨pid,m,[],[]⟩),[]) := rh hf (u6 e pid)
  simp only
  rw [o6 h1,Bool.not_true,al,vJ h2]
  cases e2 : zy c ⟨pid,m,[],[]⟩ with
  | false => rw [if_neg (by simp)]; rfl
  | true => rw [if_pos rfl]; rfl
theorem xx {c : Cd} (hf : FitsC c) (s : ByteArray) (pid : Int) : V 25 [eCd c,.str s,.int .i64 pid] = some (QX (MU c s pid),[]) := by
 have h1 := tw hf s
 rw [y5]
 unfold MU
 cases e : zo c s with
 | none => rw [e,M7] at h1; rw [o9 h1]; rfl
 | some m =>
  rw [e,M7] at h1
  have h2 : V 79 [eCd c,.agg [.int .i64 pid,.rs (5,0) (m.pool.map eN),.int .i64 m.at',.int .i64 m.s,.int .i64 m.e,.int .i64 m.d,.int .i64 m.state,.int .i64 m.ask,.int .i64 m.arg,.rs (1,0) [],.rs (1,0) []]] = some (.bool (zy c ⟨pid,m,[],[]⟩),[]) := zl hf (u6 e pid)
  simp only
  rw [o9 h1,Bool.not_true,al,Fu h2]
  cases e2 : zy c ⟨pid,m,[],[]⟩ with
  | false => rw [if_neg (by simp)]; rfl
  | true => rw [if_pos rfl]; rfl
end Go.Eng
/-! a process of drawn code: the law -/
namespace Go.Eng
open Go.Proofs Go.Proofs.Tryz
set_option maxHeartbeats 4000000

theorem Km {b : List Int} (hb : b.length < 4611686018427387904) : ∃ (x : Cd) (s : ByteArray) (n : Int),V 23 [.rs (1,0) (b.map eB)] = some (.tup [oCd x,.str s,.int .i64 n],[]) /\ SomeC x := by
 obtain ⟨c,e,hc⟩ := Qt hb
 have h : Got (fun v l => l = [] /\ ∃ (x : Cd) (s : ByteArray) (n : Int),v = .tup [oCd x,.str s,.int .i64 n] /\ SomeC x) (V 23 [.rs (1,0) (b.map eB)]) := by
  rw [ub]
  refine w3 e ?_
  rw [aA,ai,aZ,ai,ak,ai,ak,aj,aj]
  refine aK (MD hb hc) fun v c1 a1 ⟨x,e,hx⟩ => ?_
  subst e
  rw [aw,ai,aJ,ai,aJ,ai,aJ,aj,ai,aA,ai,aZ,ai,ak,ai,ak,aj,aj]
  refine aK (j8 hb a1 [⟨#[109,97,105,110]⟩,⟨#[109,97,105,110]⟩,⟨#[102]⟩,⟨#[122,122]⟩] (by simp)) fun v c2 a2 ⟨s,e,hs⟩ => ?_
  subst e
  rw [aF,ai,aA,ai,aZ,ai,ak,ai,ak,aj,aj]
  refine aK (cq hb a2 _) fun v c3 a3 ⟨n,e,n0,n1⟩ => ?_
  subst e
  rw [ak,ai,aA,ai,aZ,ai,ak,ai,ak,aj,aj]
  exact Pb ⟨rfl,x,s,n,rfl,hx⟩
 obtain ⟨v,l,e,rfl,x,s,n,rfl,hx⟩ := h
 exact ⟨x,s,n,e,hx⟩
theorem zp {b : List Int} (hb : b.length < 4611686018427387904) : V 5 [.rs (1,0) (b.map eB)] = some (.bool true,[]) := by
 obtain ⟨x,s,n,hd,hx⟩ := Km hb
 have k1 := ym hx.fits s n
 have k2 := xx hx.fits s n
 rw [wE,Qa (Se b)]
 cases hbig : decide ((b.length : Int) > 1048576) with
 | true => rfl
 | false =>
  cases hn : MU x s n with
  | none =>
   rw [hn] at k1 k2
   rw [al,mJ hd,sq k1,tk k2]
   rfl
  | some p =>
   have hp : zy x p = true /\ p.pid = n /\ p.box = [] /\ p.out = [] /\ p.m.state = 0 /\ FitsR p := by
    unfold MU at hn
    split at hn
    ·rename_i m hm
     split at hn
     ·rename_i ho
      cases hn
      obtain ⟨d,_,_,e,_⟩ := Ah hm
      exact ⟨ho,rfl,rfl,rfl,by rw [e]; rfl,u6 hm n⟩
     ·cases hn
    ·cases hn
   obtain ⟨h1,h2,h3,h4,h5,h6⟩ := hp
   have k3 := rh hx.fits h6
   rw [hn] at k1 k2
   obtain ⟨pid,m,box,out⟩ := p
   simp only at h2 h3 h4 h5
   subst h2 h3 h4
   rw [h1] at k3
   have t : (true == true) = true := rfl
   rw [al,mJ hd,sq k1,tk k2,Bool.not_true,av (by rfl),al,am,aC (bc rfl),aC (by rfl),vJ k3,am,bc h5]
theorem w7 (xs : List D) (h : All2 (fun t x => ShapeV Tryz.prog t x) Tryz.f5.params.toList xs) : V 5 xs = some (.bool true,[]) := by
 rw [Tryz.params5] at h
 cases h with | cons h1 h =>
 cases h
 obtain ⟨b,rfl,hb⟩ := NR h1
 exact zp hb
end Go.Eng
