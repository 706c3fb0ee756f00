/- the program and the reference on plain data, part 5 -/
import Derived.Test.YtkndfhaehnfnmaaGreatPart4
import Derived.Test.YtkndfhaehnfnmaaGreatPart1
import Derived.Test.YtkndfhaehnfnmaaGreatPart2
import Derived.Test.YtkndfhaehnfnmaaGreatEngC
import Derived.Test.YtkndfhaehnfnmaaGreatPart3
/-! compiling: the reference's side: expressions -/
namespace Go.Eng
noncomputable section
open Go.Proofs Go.Proofs.Tryz
set_option maxHeartbeats 4000000

theorem UB {p : List Nd} (hp : y2 p) : ∀ (k : Nat) (v : Int),InP p v -> ∀ x ∈ (GX p k v).1,x < v
 | 0,v,hv,x,hx => by simp [GX] at hx
 | k + 1,v,hv,x,hx => by
  unfold GX at hx
  split at hx
  ·rename_i h5
   have := zx (GZ hp hv) h5
   rcases List.mem_cons.1 hx with rfl | hx
   ·omega
   ·have := UB hp k _ (KY hp hv h5) x hx; omega
  ·simp at hx
theorem WU {p : List Nd} (hp : y2 p) {v : Int} (hv : InP p v) : ∀ x ∈ (zP p v).1,x < v := UB hp _ v hv
theorem JW {p : List Nd} (v : Int) : (zP p v).1.length <= v.toNat + 1 := RM _ _
def GD (E : List (List ByteArray) -> Int -> Ms -> Ms) : Prop := ∀ env v (m : Ms),m.list.length <= 400 -> Le m (E env v m)
theorem Fw {m : Ms} (h : m.list.length <= 400) {k : Int} (hk : k = 0 -> m.how = 0) : Le m (CR m k) := ⟨Nat.le_refl _,h,hk,rfl⟩
theorem Fa {E} (hE : GD E) (env : List (List ByteArray)) : ∀ (xs : List Int) (f : Bool) (m : Ms),m.list.length <= 400 -> Le m (DN E env xs f m)
 | [],f,m,h => Le.refl h
 | x :: r,f,m,h => by
  unfold DN
  split
  ·have h1 : Le m (if f = true then m else zL m (inO 9)) := by
    split
    ·exact Le.refl h
    ·exact zG h _
   have h2 := hE env x _ h1.four
   exact (h1.trans h2).trans (Fa hE env r false _ h2.four)
  ·exact Le.refl h
theorem TE {E} (hE : GD E) (names : List ByteArray) (body : List Int) (env : List (List ByteArray)) {m : Ms} (h : m.list.length <= 400) : Le m (TC E names body env m) := by
 unfold TC
 simp only
 have a1 := zG h ⟨6,0,names.length,⟨#[]⟩⟩
 have a2 := zG a1.four (inO 5)
 have a3 := Pn a2.four (Ci m)
 have a4 := Fa hE (names :: env) body true _ a3.four
 have a5 := zG a4.four (inO 8)
 have a6 := Pn a5.four (Ci (zL m ⟨6,0,names.length,⟨#[]⟩⟩))
 exact ((((a1.trans a2).trans a3).trans a4).trans a5).trans a6
theorem WO (out : List ByteArray) : ∀ (k i : Nat) (h : Int),Mg out k i h = 0 -> h = 0
 | 0,i,h,e => e
 | k + 1,i,h,e => by
  unfold Mg at e
  split at e
  ·assumption
  ·exact e
theorem Xw (p : List Nd) : ∀ (xs : List Int) (h : Int) (out : List ByteArray),(IY p xs h out).2 = 0 -> h = 0
 | [],h,out,e => e
 | x :: r,h,out,e => by
  unfold IY at e
  split at e
  ·assumption
  ·exact e
theorem IB {p : List Nd} {xs : List Int} {h : Int} (e : (z7 p xs h).2 = 0) : h = 0 := by
 unfold z7 at e
 have := Xw p xs _ _ (WO _ _ _ _ e)
 split at this
 ·omega
 ·exact this
theorem WQ {E} (hE : GD E) (p : List Nd) (s : ByteArray) (xs : List Int) (env : List (List ByteArray)) {m : Ms} (h : m.list.length <= 400) : Le m (Mz E p s xs env m) := by
 unfold Mz
 simp only
 split
 ·exact zG h _
 split
 ·have a1 := hE env (xs.getD 1 0) m h
  have a2 := zG a1.four (inO 4)
  have a3 := hE env (xs.getD 2 0) _ a2.four
  have a4 := zG a3.four (inO 5)
  have a5 := Pn a4.four (Ci (E env (xs.getD 1 0) m))
  have a6 := hE env (xs.getD 3 0) _ a5.four
  exact (((((a1.trans a2).trans a3).trans a4).trans a5).trans a6).trans (Pn a6.four _)
 split
 ·exact Fa hE env _ true m h
 split
 ·split
  ·exact Fw h (by omega)
  ·have a1 : Le m (CR m (z7 p (zP p (xs.getD 1 0)).1 m.how).2) := Fw h IB
   exact a1.trans (TE hE _ _ env a1.four)
 split
 ·have a1 : Le m (CR m (z7 p [xs.getD 1 0] m.how).2) := Fw h IB
  have a2 := TE hE (z7 p [xs.getD 1 0] m.how).1 (xs.drop 3) env a1.four
  have a3 := hE env (xs.getD 2 0) _ a2.four
  exact ((a1.trans a2).trans a3).trans (zG a3.four _)
 ·exact Fw h (by omega)
theorem Uw {E} (hE : GD E) (env : List (List ByteArray)) : ∀ (xs : List Int) (m : Ms),m.list.length <= 400 -> Le m (xs.foldl (fun m x => E env x m) m)
 | [],m,h => Le.refl h
 | x :: r,m,h => by
  have a1 := hE env x m h
  exact a1.trans (Uw hE env r _ a1.four)
theorem Gt (p : List Nd) : ∀ k,GD (Jd p k)
 | 0,env,v,m,h => Le.refl h
 | k + 1,env,v,m,h => by
  unfold Jd
  split
  ·exact Le.refl h
  simp only
  split
  ·exact zG h _
  split
  ·split
   ·exact Fw h (by omega)
   ·split <;> exact zG h _
  split
  ·exact Fw h (by omega)
  split
  ·exact Fw h (by omega)
  split
  ·exact WQ (Gt p k) p _ _ env h
  split
  ·exact Fw h (by omega)
  ·have a1 := Uw (Gt p k) env (zP p v).1 m h
   exact a1.trans (zG a1.four _)

def JB (env : List (List ByteArray)) (n : Nat) : Prop := env.length + n <= 10000 /\ ∀ e ∈ env,e.length <= 10000
def LQ (p : List Nd) (k : Nat) (E : List (List ByteArray) -> Int -> Ms -> Ms) : Prop := ∀ env v (m : Ms),InP p v -> v < (k : Int) -> JB env k -> m.list.length <= 400 -> V 244 [eMs p m,iN v,.rs (1,1) (eEs env)] = some (.tup [],[eMs p (E env v m)])
section
variable {p : List Nd} {k : Nat} {E : List (List ByteArray) -> Int -> Ms -> Ms}
theorem Kn (hG : GD E) (hS : LQ p k E) {env : List (List ByteArray)} (he : JB env k) {xs : List Int} (hl : xs.length <= 100000) (hx : ∀ x ∈ xs,InP p x /\ x < (k : Int)) : ∀ (j i : Nat) (m : Ms),i + j = xs.length -> m.list.length <= 400 ->
  AH (xs.map eI) (eEs env) (i : Int) m.how (p.map eN) (m.list.map eIn) (m.defs.map eDf) = some (.tup [],[eMs p (DN E env (xs.drop i) (decide (i = 0)) m)])
 | 0,i,m,hi,hm => by
  rw [EU,xb (by rw [lnM]; exact yr (by omega)),List.drop_of_length_le (by omega)]
  rfl
 | j + 1,i,m,hi,hm => by
  obtain ⟨x,hg⟩ := xx (l := xs) (i := i) (by omega)
  obtain ⟨x1,x2⟩ := hx x (List.mem_of_getElem? hg)
  rw [EU,xK (by rw [lnM]; exact yz (by omega)),tU hg,DN]
  by_cases h0 : m.how = 0
  ·rw [xK (yF h0),if_pos h0]
   by_cases hi0 : i = 0
   ·have a1 := hS env x m x1 x2 he hm
    have ih := Kn hG hS he hl hx j (i + 1) (E env x m) (by omega) (hG env x m hm).four
    rw [xb (decide_eq_false (by omega)),yu (by rw [lnM]; exact yx (by omega)),Int.toNat_natCast,xW hg,ye,AJ a1,yM (by omega),ih,decide_eq_true hi0,if_pos rfl,decide_eq_false (by omega)]
   ·have a0 : V 237 [eMs p m,.agg [iN 9,iN 0,iN 0,.str ⟨#[]⟩]] = _ := Ui (p := p) hm (inO 9)
    have le := zG hm (inO 9)
    have a1 := hS env x _ x1 x2 he le.four
    have ih := Kn hG hS he hl hx j (i + 1) (E env x (zL m (inO 9))) (by omega) (hG env x _ le.four).four
    rw [xK (decide_eq_true (by omega)),y9 a0,yu (by rw [lnM]; exact yx (by omega)),Int.toNat_natCast,xW hg,ye,AJ a1,yM (by omega),ih,decide_eq_false hi0,if_neg (by simp),decide_eq_false (by omega)]
  ·rw [xb (yE h0),if_neg h0]
theorem Ue (hG : GD E) (hS : LQ p k E) {env : List (List ByteArray)} (he : JB env k) {xs : List Int} (hl : xs.length <= 100000) (hx : ∀ x ∈ xs,InP p x /\ x < (k : Int)) {m : Ms} (hm : m.list.length <= 400) : V 236 [eMs p m,.rs (1,0) (xs.map eI),.rs (1,1) (eEs env)] = some (.tup [],[eMs p (DN E env xs true m)]) := by
 have h := Kn hG hS he hl hx xs.length 0 m (by omega) hm
 rw [Qf]
 simpa using h
theorem Cn {p : List Nd} {m : Ms} (h : m.list.length <= 400) (op n i : Int) : V 237 [eMs p m,.agg [iN op,iN n,iN i,.str ⟨#[]⟩]] = some (iN (Ci m),[eMs p (zL m ⟨op,n,i,⟨#[]⟩⟩)]) := Ui h ⟨op,n,i,⟨#[]⟩⟩
theorem Xn (hG : GD E) (hS : LQ p k E) {names : List ByteArray} (hn : names.length <= 10000) {env : List (List ByteArray)} (he : JB env (k + 1)) {xs : List Int} (hl : xs.length <= 100000) (hx : ∀ x ∈ xs,InP p x /\ x < (k : Int)) {m : Ms} (hm : m.list.length <= 400) : V 254 [eMs p m,.rs (1,0) (names.map D.str),.rs (1,0) (xs.map eI),.rs (1,1) (eEs env)] = some (.tup [],[eMs p (TC E names xs env m)]) := by
 have he1 := he.1
 have e1 : [D.rs (1,0) (names.map D.str)] ++ eEs env = eEs (names :: env) := rfl
 have hlim : decide (ni (eEs (names :: env)).length <= LIM) = true := decide_eq_true (by rw [pE]; simp only [ni,lnM,lnC]; omega)
 have he2 : JB (names :: env) k := ⟨by simp only [lnC]; omega,fun e h => by
  rcases List.mem_cons.1 h with rfl | h
  ·exact hn
  ·exact he.2 e h⟩
 have a1 := zG hm ⟨6,0,names.length,⟨#[]⟩⟩
 have i1 := LI hm ⟨6,0,names.length,⟨#[]⟩⟩
 have a2 := zG a1.four (inO 5)
 have i2 := LI a1.four (inO 5)
 have a3 := Pn a2.four (Ci m)
 have a4 := Fa hG (names :: env) xs true _ a3.four
 have a5 := zG a4.four (inO 8)
 have e0 : ni (names.map D.str).length = (names.length : Int) := by rw [lnM]
 have b1 := Cn (p := p) hm 6 0 names.length
 have b2 := Cn (p := p) a1.four 5 0 0
 have b3 := Xc (p := p) a2.four (k := Ci m) (fun h => by have := i1 (a2.how h); have := a2.len; omega)
 have b4 := Ue hG hS he2 hl hx a3.four
 have b5 := Cn (p := p) a4.four 8 0 0
 have b6 := Xc (p := p) a5.four (k := Ci (zL m ⟨6,0,names.length,⟨#[]⟩⟩)) (fun h => by have := i2 (a3.how (a4.how (a5.how h))); have := a5.len; have := a4.len; have := a3.len; omega)
 rw [Ry,e0,y9 b1,y9 b2,IC b3,e1,yu hlim,yA,Fj b4,y9 b5,IC b6]
 rfl
theorem Al {s : ByteArray} {a b : List UInt8} (h : kc s (mk a) = true) (hn : a ≠ b) : kc s (mk b) = false := by
 rw [Cm] at h ⊢
 simp only [decide_eq_true_eq,decide_eq_false_iff_not] at h ⊢
 intro e
 exact hn (mk_inj.1 (h.symm.trans e))
theorem XA (hp : y2 p) (hl : p.length < 100000) (hG : GD E) (hS : LQ p k E) {env : List (List ByteArray)} (he : JB env (k + 1)) {xs : List Int} (hn : xs ≠ []) (hxl : xs.length <= 100000) (hx : ∀ x ∈ xs,InP p x /\ x < (k : Int)) {m : Ms} (hm : m.list.length <= 400) (s : ByteArray) : V 249 [eMs p m,.str s,.rs (1,0) (xs.map eI),.rs (1,1) (eEs env)] = some (.tup [],[eMs p (Mz E p s xs env m)]) := by
 have he1 := he.1
 have he2 : JB env k := ⟨by omega,he.2⟩
 have get : ∀ i : Nat,i < xs.length -> InP p (xs.getD i 0) /\ xs.getD i 0 < (k : Int) /\ xs[i]? = some (xs.getD i 0) := fun i hi => by
  obtain ⟨x,hg⟩ := xx (l := xs) (i := i) hi
  have e : xs.getD i 0 = x := by rw [List.getD_eq_getElem?_getD,hg]; rfl
  obtain ⟨g1,g2⟩ := hx x (List.mem_of_getElem? hg)
  rw [e]
  exact ⟨g1,g2,hg⟩
 have hdrop : ∀ n,∀ x ∈ xs.drop n,InP p x /\ x < (k : Int) := fun n x h => hx x (List.mem_of_mem_drop h)
 have hdl : ∀ n,(xs.drop n).length <= 100000 := fun n => by rw [List.length_drop]; omega
 have cut : ∀ n : Int,0 <= n -> n <= (xs.length : Int) -> cW (xs.map eI).length (some n) none = true := fun n h0 h1 => by simp [cW]; omega
 have cutd1 : wu (xs.map eI) 1 = (xs.drop 1).map eI := by unfold wu; rw [List.map_drop]; rfl
 have cutd2 : wu (xs.map eI) 2 = (xs.drop 2).map eI := by unfold wu; rw [List.map_drop]; rfl
 have cutd3 : wu (xs.map eI) 3 = (xs.drop 3).map eI := by unfold wu; rw [List.map_drop]; rfl
 have other : ∀ {a b : List UInt8},kc s (mk a) = true -> a ≠ b -> ¬ kc s (mk b) = true := fun h hn e => by rw [Al h hn] at e; cases e
 rw [Qj]
 unfold Mz
 by_cases hq : kc s (mk [113,117,111,116,101]) = true
 ·have tq : kc s ⟨#[113,117,111,116,101]⟩ = true := hq
  have ti : kc s ⟨#[105,102]⟩ = false := Al hq (by decide)
  have td : kc s ⟨#[100,111]⟩ = false := Al hq (by decide)
  have tf : kc s ⟨#[102,110]⟩ = false := Al hq (by decide)
  have tl : kc s ⟨#[108,101,116]⟩ = false := Al hq (by decide)
  by_cases h2 : xs.length = 2
  ·obtain ⟨g1,g2,g3⟩ := get 1 (by omega)
   have b1 := Cn (p := p) hm 1 (xs.getD 1 0) 0
   rw [if_pos ⟨hq,h2⟩,xK tq,xK (yF (KX (by omega))),yu (by rw [lnM]; simp only [ni,Bool.and_eq_true,decide_eq_true_eq]; omega),xW g3,ye,y9 b1]
  ·rw [if_neg (fun h => h2 h.2),if_neg (fun h => other hq (by decide) h.1),if_neg (fun h => other hq (by decide) h.1),if_neg (fun h => other hq (by decide) h.1),if_neg (fun h => other hq (by decide) h.1),xK tq,xb (yE (Pc (by omega))),xb ti,xb td,xb tf,xb tl]
   rfl
 have tq : kc s ⟨#[113,117,111,116,101]⟩ = false := by cases e : kc s ⟨#[113,117,111,116,101]⟩ with | true => exact absurd e hq | false => rfl
 rw [if_neg (fun h => hq h.1),xb tq]
 by_cases hi : kc s (mk [105,102]) = true
 ·have ti : kc s ⟨#[105,102]⟩ = true := hi
  have td : kc s ⟨#[100,111]⟩ = false := Al hi (by decide)
  have tf : kc s ⟨#[102,110]⟩ = false := Al hi (by decide)
  have tl : kc s ⟨#[108,101,116]⟩ = false := Al hi (by decide)
  by_cases h4 : xs.length = 4
  ·obtain ⟨g1,g2,g3⟩ := get 1 (by omega)
   obtain ⟨g4,g5,g6⟩ := get 2 (by omega)
   obtain ⟨g7,g8,g9⟩ := get 3 (by omega)
   have l1 := hG env (xs.getD 1 0) m hm
   have l2 := zG l1.four (inO 4)
   have i2 := LI l1.four (inO 4)
   have l3 := hG env (xs.getD 2 0) _ l2.four
   have l4 := zG l3.four (inO 5)
   have i4 := LI l3.four (inO 5)
   have l5 := Pn l4.four (Ci (E env (xs.getD 1 0) m))
   have l6 := hG env (xs.getD 3 0) _ l5.four
   have b1 := hS env (xs.getD 1 0) m g1 g2 he2 hm
   have b2 := Cn (p := p) l1.four 4 0 0
   have b3 := hS env (xs.getD 2 0) _ g4 g5 he2 l2.four
   have b4 := Cn (p := p) l3.four 5 0 0
   have b5 := Xc (p := p) l4.four (k := Ci (E env (xs.getD 1 0) m)) (fun h => by have := i2 (l3.how (l4.how h)); have := l4.len; have := l3.len; omega)
   have b6 := hS env (xs.getD 3 0) _ g7 g8 he2 l5.four
   have b7 := Xc (p := p) l6.four (k := Ci (E env (xs.getD 2 0) (zL (E env (xs.getD 1 0) m) (inO 4)))) (fun h => by have := i4 (l5.how (l6.how h)); have := l6.len; have := l5.len; omega)
   rw [if_pos ⟨hi,h4⟩,xK ti,xK (yF (KX (by omega))),yu (by rw [lnM]; simp only [ni,Bool.and_eq_true,decide_eq_true_eq]; omega),xW g3,ye,AJ b1,y9 b2,yu (by rw [lnM]; simp only [ni,Bool.and_eq_true,decide_eq_true_eq]; omega),xW g6,ye,AJ b3,y9 b4,IC b5,yu (by rw [lnM]; simp only [ni,Bool.and_eq_true,decide_eq_true_eq]; omega),xW g9,ye,AJ b6,IC b7]
  ·rw [if_neg (fun h => h4 h.2),if_neg (fun h => other hi (by decide) h.1),if_neg (fun h => other hi (by decide) h.1),if_neg (fun h => other hi (by decide) h.1),xK ti,xb (yE (Pc (by omega))),xb td,xb tf,xb tl]
   rfl
 have ti : kc s ⟨#[105,102]⟩ = false := by cases e : kc s ⟨#[105,102]⟩ with | true => exact absurd e hi | false => rfl
 rw [if_neg (fun h => hi h.1),xb ti]
 by_cases hd : kc s (mk [100,111]) = true
 ·have td : kc s ⟨#[100,111]⟩ = true := hd
  have tf : kc s ⟨#[102,110]⟩ = false := Al hd (by decide)
  have tl : kc s ⟨#[108,101,116]⟩ = false := Al hd (by decide)
  by_cases h2 : 2 <= xs.length
  ·have b1 := Ue hG hS he2 (hdl 1) (hdrop 1) hm
   rw [if_pos ⟨hd,h2⟩,xK td,lnM,xK (decide_eq_true (by simp only [ni]; omega)),<- lnM (f := eI),yu (cut 1 (by omega) (by omega)),cutd1,Fj b1]
  ·rw [if_neg (fun h => h2 h.2),if_neg (fun h => other hd (by decide) h.1),if_neg (fun h => other hd (by decide) h.1),xK td,xb (decide_eq_false (by rw [lnM]; simp only [ni]; omega)),xb tf,xb tl]
   rfl
 have td : kc s ⟨#[100,111]⟩ = false := by cases e : kc s ⟨#[100,111]⟩ with | true => exact absurd e hd | false => rfl
 rw [if_neg (fun h => hd h.1),xb td]
 by_cases hf : kc s (mk [102,110]) = true
 ·have tf : kc s ⟨#[102,110]⟩ = true := hf
  have tl : kc s ⟨#[108,101,116]⟩ = false := Al hf (by decide)
  by_cases h3 : 3 <= xs.length
  ·obtain ⟨g1,g2,g3⟩ := get 1 (by omega)
   have b1 := Ee hp (by omega) g1
   rw [if_pos ⟨hf,h3⟩,xK tf,xK (decide_eq_true (by rw [lnM]; simp only [ni]; omega)),yu (by rw [lnM]; simp only [ni,Bool.and_eq_true,decide_eq_true_eq]; omega),xW g3,ye,Bj b1]
   simp only
   cases hb : (zP p (xs.getD 1 0)).2 with
   | false => rw [if_pos rfl,Bool.not_false,yk]; rfl
   | true =>
    have ll := JW (p := p) (xs.getD 1 0)
    obtain ⟨b2,b3⟩ := QU (p := p) m (xs := (zP p (xs.getD 1 0)).1) (by have := g1.2; omega) (IA hp g1)
    have l1 : Le m (CR m (z7 p (zP p (xs.getD 1 0)).1 m.how).2) := Fw hm IB
    have b4 := Xn hG hS (names := (z7 p (zP p (xs.getD 1 0)).1 m.how).1) (by have := g1.2; omega) he (hdl 2) (hdrop 2) l1.four
    rw [if_pos (rfl : true = true),if_neg (by decide : ¬ true = false),Bool.not_true,xJ,Gw b2,yu (cut 2 (by omega) (by omega)),cutd2,Nf b4]
  ·rw [if_neg (fun h => h3 h.2),if_neg (fun h => other hf (by decide) h.1),xK tf,xb (decide_eq_false (by rw [lnM]; simp only [ni]; omega)),xb tl]
   rfl
 have tf : kc s ⟨#[102,110]⟩ = false := by cases e : kc s ⟨#[102,110]⟩ with | true => exact absurd e hf | false => rfl
 rw [if_neg (fun h => hf h.1),xb tf]
 by_cases hl : kc s (mk [108,101,116]) = true
 ·have tl : kc s ⟨#[108,101,116]⟩ = true := hl
  by_cases h4 : 4 <= xs.length
  ·obtain ⟨g1,g2,g3⟩ := get 1 (by omega)
   obtain ⟨g4,g5,g6⟩ := get 2 (by omega)
   have ec : wu (wt (xs.map eI) 2) 1 = [xs.getD 1 0].map eI := by
    obtain ⟨g7,g8,g9⟩ := get 0 (by omega)
    match xs,h4 with
    | a :: b :: r,_ => rfl
   obtain ⟨b2,b3⟩ := QU (p := p) m (xs := [xs.getD 1 0]) (by simp) (fun x h => by rw [List.mem_singleton.1 h]; exact g1)
   have l1 : Le m (CR m (z7 p [xs.getD 1 0] m.how).2) := Fw hm IB
   have b4 := Xn hG hS (names := (z7 p [xs.getD 1 0] m.how).1) (by have : [xs.getD 1 0].length = 1 := rfl; omega) he (hdl 3) (hdrop 3) l1.four
   have l2 := TE hG (z7 p [xs.getD 1 0] m.how).1 (xs.drop 3) env l1.four
   have b5 := hS env (xs.getD 2 0) _ g4 g5 he2 l2.four
   have l3 := hG env (xs.getD 2 0) _ l2.four
   have b6 := Cn (p := p) l3.four 7 0 1
   rw [if_pos ⟨hl,h4⟩,xK tl,xK (decide_eq_true (by rw [List.length_map]; simp only [ni]; omega)),yu (by simp [cW]; omega),ec,Gw b2,yu (cut 3 (by omega) (by omega)),cutd3,Nf b4,yu (by rw [List.length_map]; simp only [ni,Bool.and_eq_true,decide_eq_true_eq]; omega),xW g6,ye,AJ b5,y9 b6]
  ·rw [if_neg (fun h => h4 h.2),xK tl,xb (decide_eq_false (by rw [lnM]; simp only [ni]; omega))]
   rfl
 have tl : kc s ⟨#[108,101,116]⟩ = false := by cases e : kc s ⟨#[108,101,116]⟩ with | true => exact absurd e hl | false => rfl
 rw [if_neg (fun h => hl h.1),xb tl]
 rfl
end
theorem Qy {p : List Nd} {v : Int} (h : (nod p v).kind = 5) : (zP p v).1 ≠ [] := by
 unfold zP GX
 rw [if_pos h]
 simp
theorem OL {p : List Nd} {k : Nat} {E : List (List ByteArray) -> Int -> Ms -> Ms} (hG : GD E) (hS : LQ p k E) {env : List (List ByteArray)} (he : JB env k) {xs : List Int} (hl : xs.length <= 100000) (hx : ∀ x ∈ xs,InP p x /\ x < (k : Int)) : ∀ (j i : Nat) (m : Ms),i + j = xs.length -> m.list.length <= 400 ->
  zj (eEs env) (i : Int) m.how (xs.map eI) (p.map eN) (m.list.map eIn) (m.defs.map eDf) = some (.tup [],[eMs p (zL ((xs.drop i).foldl (fun m x => E env x m) m) ⟨7,0,(xs.length : Int) - 1,⟨#[]⟩⟩)])
 | 0,i,m,hi,hm => by
  have b : V 237 [eMs p m,.agg [iN 7,iN 0,iN (ni xs.length - 1),.str ⟨#[]⟩]] = _ := Cn (p := p) hm 7 0 ((xs.length : Int) - 1)
  rw [DH,lnM,xb (yr (by omega)),List.drop_of_length_le (by omega),w64 (n := ni xs.length - 1) (by simp only [ni]; omega) (by simp only [ni]; omega),y9 b]
  rfl
 | j + 1,i,m,hi,hm => by
  obtain ⟨x,hg⟩ := xx (l := xs) (i := i) (by omega)
  obtain ⟨x1,x2⟩ := hx x (List.mem_of_getElem? hg)
  have a1 := hS env x m x1 x2 he hm
  have ih := OL hG hS he hl hx j (i + 1) (E env x m) (by omega) (hG env x m hm).four
  rw [DH,xK (by rw [lnM]; exact yz (by omega)),yu (by rw [lnM]; exact yx (by omega)),Int.toNat_natCast,xW hg,ye,AJ a1,yM (by omega),ih,tU hg,List.foldl_cons]
theorem Ws {p : List Nd} (hp : y2 p) (hl : p.length < 100000) : ∀ k,k <= 100000 -> LQ p k (Jd p k)
 | 0,hk,env,v,m,hv,hlt,he,hm => by have := hv.1; omega
 | k + 1,hk,env,v,m,hv,hlt,he,hm => by
  have ih := Ws hp hl k (by omega)
  have hG := Gt p k
  have he2 : JB env k := ⟨by have := he.1; omega,he.2⟩
  rw [Qi]
  unfold Jd
  by_cases h0 : m.how = 0
  ·rw [xb (yG h0),if_neg (fun h => h h0),Fu hv]
   simp only
   have bl := Cn (p := p) hm 1 v 0
   by_cases k1 : (nod p v).kind = 1
   ·rw [xK (yF k1),xK (yF k1),y9 bl,if_pos (.inl k1)]
   rw [xb (yE k1)]
   by_cases k2 : (nod p v).kind = 2
   ·rw [xK (yF k2),xK (yF k2),y9 bl,if_pos (.inr (.inl k2))]
   rw [xb (yE k2)]
   by_cases k3 : (nod p v).kind = 3
   ·rw [xK (yF k3),y9 bl,if_pos (.inr (.inr k3))]
   rw [xb (yE k3),if_neg (by omega)]
   by_cases k4 : (nod p v).kind = 4
   ·rw [xK (yF k4),if_pos k4,Dh (Uk _)]
    cases hr : TZ (nod p v).s with
    | true => rw [yk,if_pos rfl]; rfl
    | false =>
     have hw := XZ (nod p v).s (env := env) (by have := he.1; omega) (fun e h => by have := he.2 e h; omega)
     rw [xJ,if_neg (by decide)]
     cases hvn : Vy (nod p v).s env 0 with
     | none =>
      rw [hvn] at hw
      have b := Ui (p := p) hm ⟨3,0,0,(nod p v).s⟩
      rw [Ng hw,xb (decide_eq_false (by omega)),y9 b]
     | some ni =>
      obtain ⟨n,i⟩ := ni
      rw [hvn] at hw
      have b := Cn (p := p) hm 2 n i
      rw [Ng hw,xK (decide_eq_true (by omega)),y9 b]
   rw [xb (yE k4),if_neg k4]
   by_cases k5 : (nod p v).kind = 5
   ·have b1 := Ee hp (by omega) hv
    rw [xb (yG k5),if_neg (fun h => h k5),Bj b1]
    cases hb : (zP p v).2 with
    | false => rw [if_pos rfl,Bool.not_false,yk]; rfl
    | true =>
     have ll := JW (p := p) v
     have hne := Qy k5
     have hin := IA hp hv
     have hlt2 := WU hp hv
     rw [if_pos (rfl : true = true),if_neg (by decide : ¬ true = false),Bool.not_true,xJ]
     generalize hxs : (zP p v).1 = xs at ll hne hin hlt2 ⊢
     have hx : ∀ x ∈ xs,InP p x /\ x < (k : Int) := fun x h => ⟨hin x h,by have := hlt2 x h; omega⟩
     obtain ⟨a,r,rfl⟩ : ∃ a r,xs = a :: r := by
      cases xs with
      | nil => exact absurd rfl hne
      | cons a r => exact ⟨a,r,rfl⟩
     have ha := hin a (by simp)
     have hcl := OL hG ih he2 (xs := a :: r) (by have := hv.2; omega) hx (a :: r).length 0 m (by omega) hm
     rw [Int.natCast_zero,List.drop_zero] at hcl
     rw [AY,Fu ha]
     simp only [List.getD_cons_zero]
     have fin : (br (decide (ni ((a :: r).map eI).length > 5)) (some (.tup [],[.op [.os (5,0) (p.map eN),.os (4,0) (m.list.map eIn),.os (3,0) (m.defs.map eDf),iN 1]])) (zj (eEs env) 0 m.how ((a :: r).map eI) (p.map eN) (m.list.map eIn) (m.defs.map eDf))) = some (.tup [],[eMs p (if (a :: r).length > 5 then CR m 1 else zL ((a :: r).foldl (fun m x => Jd p k env x m) m) ⟨7,0,((a :: r).length : Int) - 1,⟨#[]⟩⟩)]) := by
      rw [lnM]
      by_cases h5 : (a :: r).length > 5
      ·rw [xK (decide_eq_true (by simp only [ni]; omega)),if_pos h5]; rfl
      ·rw [xb (decide_eq_false (by simp only [ni]; omega)),if_neg h5,hcl]
     by_cases ka : (nod p a).kind = 4
     ·rw [xK (yF ka),Dh (Uk _)]
      cases hr : TZ (nod p a).s with
      | true =>
       have bf := XA hp hl hG ih he (xs := a :: r) (by simp) (by have := hv.2; omega) hx hm (nod p a).s
       rw [yk,Sg bf,if_pos ⟨ka,rfl⟩]
      | false => rw [xJ,if_neg (fun h => by simp at h)]; exact fin
     ·rw [xb (yE ka),if_neg (fun h => ka h.1)]; exact fin
   ·rw [xK (yH k5),if_pos k5]; rfl
  ·rw [xK (yH h0),if_pos h0]
end
end Go.Eng
/-! compiling: the reference's side: definitions,programs -/
namespace Go.Eng
open Go.Proofs Go.Proofs.Tryz
set_option maxHeartbeats 4000000

theorem XM {R : Type} (x : Df) (K : ByteArray -> Option R) : (asAgg (eDf x) fun l => cT l 0 fun y => asS y fun n => K n) = K x.name := rfl
theorem Xr {p : List Nd} (s : ByteArray) (names : List ByteArray) (body : List Int) {m : Ms} (h : m.list.length <= 400) : (Kq p s names body m).list.length <= 400 /\ m.list.length <= (Kq p s names body m).list.length /\ ((Kq p s names body m).how = 0 -> m.list.length < (Kq p s names body m).list.length) := by
 unfold Kq
 have a1 := Fa (E := GE p) (fun env v m h => Gt p _ env v m h) [names] body true ⟨m.list,m.defs ++ [⟨s,m.list.length,names.length⟩],I8 s m.defs m.how⟩ h
 have a2 := zG a1.four (inO 8)
 have a3 := a1.len
 have a4 := a2.len
 refine ⟨a2.four,by simp only at a3; omega,fun h0 => ?_⟩
 have h1 := a2.how h0
 have : (zL (DN (GE p) [names] body true ⟨m.list,m.defs ++ [⟨s,m.list.length,names.length⟩],I8 s m.defs m.how⟩) (inO 8)).list.length = (DN (GE p) [names] body true ⟨m.list,m.defs ++ [⟨s,m.list.length,names.length⟩],I8 s m.defs m.how⟩).list.length + 1 := by
  unfold zL at h0 ⊢
  rw [if_pos h1] at h0 ⊢
  split at h0
  ·simp at h0
  ·rename_i e; rw [if_neg e]; simp
 simp only at a3
 omega
theorem XU {p : List Nd} (hp : y2 p) (hl : p.length <= 5000) : LQ p p.length (GE p) := fun env v m hv hlt he hm => by
 unfold GE
 exact Ws hp (by omega) (v.toNat + 1) (by omega) env v m hv (by have := hv.1; omega) ⟨by have := he.1; omega,he.2⟩ hm
theorem O5 {p : List Nd} (hp : y2 p) (hl : p.length <= 5000) {s : ByteArray} {names : List ByteArray} (hn : names.length <= 10000) {body : List Int} (hbl : body.length <= 100000) (hb : ∀ x ∈ body,InP p x) {m : Ms} (hm : m.list.length <= 400) (hd : m.defs.length <= 1000000) : ∀ (k i : Nat) (h : Int),i + k = m.defs.length ->
  Ae s (names.map D.str) (body.map eI) (i : Int) h (p.map eN) (m.list.map eIn) (m.defs.map eDf) = some (.tup [],[eMs p (zL (DN (GE p) [names] body true ⟨m.list,m.defs ++ [⟨s,m.list.length,names.length⟩],I8 s (m.defs.drop i) h⟩) (inO 8))])
 | k,i,h,hi => by
  have ea : m.defs.map eDf ++ [D.agg [D.str s,iN (ni (m.list.map eIn).length),iN (ni (names.map D.str).length)]] = (m.defs ++ [(⟨s,m.list.length,names.length⟩ : Df)]).map eDf := by
   rw [List.map_append,lnM,lnM]; rfl
  have hlim : decide (ni ((m.defs ++ [(⟨s,m.list.length,names.length⟩ : Df)]).map eDf).length <= LIM) = true := decide_eq_true (by rw [pE]; simp only [ni,lnM,lnA,lnC,lnN]; omega)
  have hG : GD (GE p) := fun env v m h => Gt p _ env v m h
  have b1 : ∀ h' : Int,V 236 [eMs p ⟨m.list,m.defs ++ [(⟨s,m.list.length,names.length⟩ : Df)],h'⟩,.rs (1,0) (body.map eI),.rs (1,1) [.rs (1,0) (names.map D.str)]] = some (.tup [],[eMs p (DN (GE p) [names] body true ⟨m.list,m.defs ++ [(⟨s,m.list.length,names.length⟩ : Df)],h'⟩)]) := fun h' => Ue (m := ⟨m.list,m.defs ++ [(⟨s,m.list.length,names.length⟩ : Df)],h'⟩) hG (XU hp hl) (env := [names]) ⟨by simp; omega,fun e he => by rw [List.mem_singleton.1 he]; exact hn⟩ hbl (fun x h => ⟨hb x h,(hb x h).2⟩) hm
  have b2 := fun h' : Int => Cn (p := p) (Fa hG [names] body true ⟨m.list,m.defs ++ [(⟨s,m.list.length,names.length⟩ : Df)],h'⟩ hm).four 8 0 0
  rw [IQ,ea]
  match k with
  | 0 =>
   rw [xb (by rw [lnM]; exact yr (by omega)),List.drop_of_length_le (by omega),I8,yu hlim,yA,Fj (b1 h),y9 (b2 h)]
  | k + 1 =>
   obtain ⟨d,hg⟩ := xx (l := m.defs) (i := i) (by omega)
   rw [xK (by rw [lnM]; exact yz (by omega)),tU hg,I8]
   by_cases h0 : h = 0
   ·have ih := fun h' => O5 hp hl (s := s) hn hbl hb hm hd k (i + 1) h' (by omega)
    rw [xK (yF h0),if_pos h0,yu (by rw [lnM]; exact yx (by omega)),Int.toNat_natCast,xW hg,XM,yM (by omega),ih,ih,h0]
    cases kc d.name s with
    | true => rw [yk,if_pos rfl]
    | false => rw [xJ,if_neg (by decide)]
   ·rw [xb (yE h0),if_neg h0,yu hlim,yA,Fj (b1 h),y9 (b2 h)]
 termination_by k => k
theorem Xm {p : List Nd} (hp : y2 p) (hl : p.length <= 5000) (s : ByteArray) {names : List ByteArray} (hn : names.length <= 10000) {body : List Int} (hbl : body.length <= 100000) (hb : ∀ x ∈ body,InP p x) {m : Ms} (hm : m.list.length <= 400) (hd : m.defs.length <= 1000000) : V 229 [eMs p m,.str s,.rs (1,0) (names.map D.str),.rs (1,0) (body.map eI)] = some (.tup [],[eMs p (Kq p s names body m)]) := by
 have h := O5 hp hl (s := s) hn hbl hb hm hd m.defs.length 0 m.how (by omega)
 rw [Mq]
 rw [Int.natCast_zero,List.drop_zero] at h
 exact h
theorem Wb (l : List Int) (k : Nat) (K : Int) (hK : K.toNat = k) : part (l.map eI) (some (K.toNat,(l.map eI).length - K.toNat)) = (l.drop k).map eI := by
 rw [hK]
 simp only [part]
 rw [<- List.map_drop]
 exact List.take_of_length_le (by simp)
theorem XX {p : List Nd} (hp : y2 p) (hl : p.length <= 5000) {v : Int} (hv : InP p v) {m : Ms} (hm : m.list.length <= 400) (hd : m.defs.length <= 1000000) : V 215 [eMs p m,iN v] = some (.tup [],[eMs p (NC p v m)]) := by
 have dm : V 229 [eMs p m,.str ⟨#[109,97,105,110]⟩,.rs (1,0) [],.rs (1,0) [iN v]] = some (.tup [],[eMs p (Kq p VU [] [v] m)]) := Xm hp hl VU (names := []) (by simp) (body := [v]) (by simp) (fun x h => by rw [List.mem_singleton.1 h]; exact hv) hm hd
 rw [Rz,PD hv]
 unfold NC
 simp only
 by_cases k5 : (nod p v).kind = 5
 ·have b1 := Ee hp (by omega) hv
  rw [xK (yF k5),Bj b1]
  cases hb : (zP p v).2 with
  | false => rw [if_neg (by decide : ¬ false = true),Bool.not_false,yk,Bm dm,if_neg (fun h => by simp at h)]
  | true =>
   have ll := JW (p := p) v
   have hne := Qy k5
   have hin := IA hp hv
   rw [if_pos (rfl : true = true),Bool.not_true,xJ]
   generalize hxs : (zP p v).1 = xs at ll hne hin ⊢
   obtain ⟨a,r,rfl⟩ : ∃ a r,xs = a :: r := by
    cases xs with
    | nil => exact absurd rfl hne
    | cons a r => exact ⟨a,r,rfl⟩
   have ha := hin a (by simp)
   have e2 := Yh (R := Ret) (nod p a)
   rw [AY,PD ha]
   simp only [List.getD_cons_zero]
   by_cases k4 : (nod p a).kind = 4
   ·rw [xb (yG k4),AY,yu (MH ha),xW (Fh ha),e2]
    by_cases hs : kc (nod p a).s (mk [100,101,102,105,110,101]) = true
    ·have hs' : kc (nod p a).s ⟨#[100,101,102,105,110,101]⟩ = true := hs
     rw [hs',Bool.not_true,xJ,if_pos ⟨k5,trivial,k4,hs⟩]
     by_cases h3 : (a :: r).length < 3
     ·rw [xK (decide_eq_true (by rw [lnM]; simp only [ni]; omega)),if_pos (.inl h3)]; rfl
     ·rw [xb (decide_eq_false (by rw [lnM]; simp only [ni]; omega))]
      obtain ⟨b,c,r,rfl⟩ : ∃ b c r',r = b :: c :: r' := by
       match r,h3 with
       | b :: c :: r',_ => exact ⟨b,c,r',rfl⟩
       | [],h => simp at h
       | [_],h => simp at h
      have hb1 := hin b (by simp)
      rw [Gu,PD hb1]
      simp only [List.getD_cons_succ,List.getD_cons_zero]
      by_cases kb : (nod p b).kind = 5
      ·have b2 := Ee hp (by omega) hb1
       rw [xb (yG kb),Gu,if_neg (fun h => h.elim h3 (fun h => h kb)),Bj b2]
       cases hbb : (zP p b).2 with
       | false => rw [if_neg (by decide : ¬ false = true),Bool.not_false,yk,if_pos rfl]; rfl
       | true =>
        have l2 := JW (p := p) b
        have n2 := Qy kb
        have i2 := IA hp hb1
        rw [if_pos (rfl : true = true),Bool.not_true,xJ,if_neg (by decide : ¬ true = false)]
        generalize hys : (zP p b).1 = ys at l2 n2 i2 ⊢
        obtain ⟨f,q,rfl⟩ : ∃ f q,ys = f :: q := by
         cases ys with
         | nil => exact absurd rfl n2
         | cons f q => exact ⟨f,q,rfl⟩
        have hf := i2 f (by simp)
        have bn := Ww (p := p) m hf
        rw [AY,Lh bn]
        simp only [List.getD_cons_zero]
        cases hnm : nmC p f with
        | false => rw [Bool.not_false,yk,if_pos rfl]; rfl
        | true =>
         have hq : ∀ x ∈ (f :: q).drop 1,InP p x := fun x h => i2 x (List.mem_of_mem_drop h)
         have hql : ((f :: q).drop 1).length <= 5001 := by have := hb1.2; rw [List.length_drop]; omega
         obtain ⟨b3,b4⟩ := QU (p := p) m (xs := (f :: q).drop 1) (by omega) hq
         have bd := Xm hp hl (nod p f).s (names := (z7 p ((f :: q).drop 1) m.how).1) (by omega) (body := (a :: b :: c :: r).drop 2) (by have := hv.2; rw [List.length_drop]; omega) (fun x h => hin x (List.mem_of_mem_drop h)) (m := CR m (z7 p ((f :: q).drop 1) m.how).2) hm hd
         rw [Bool.not_true,xJ,if_neg (by decide : ¬ true = false),yu (by simp [cW]; omega),Wb _ 1 1 rfl,Gw b3,yu (by simp [cW]; omega),Wb _ 2 2 rfl,Bm bd]
      ·rw [xK (yH kb),if_pos (.inr kb)]; rfl
    ·have hs' : kc (nod p a).s ⟨#[100,101,102,105,110,101]⟩ = false := by cases e : kc (nod p a).s ⟨#[100,101,102,105,110,101]⟩ with | true => exact absurd e hs | false => rfl
     rw [hs',Bool.not_false,yk,Bm dm,if_neg (fun h => hs h.2.2.2)]
   ·rw [xK (yH k4),Bm dm,if_neg (fun h => k4 h.2.2.1)]
 ·rw [xb (yE k5),Bm dm,if_neg (fun h => k5 h.1)]
end Go.Eng
/-! compiling: the reference's side: whole programs -/
namespace Go.Eng
noncomputable section
open Go.Proofs Go.Proofs.Tryz
set_option maxHeartbeats 4000000

structure LeD (m m' : Ms) : Prop where
 len : m.list.length <= m'.list.length
 four : m'.list.length <= 400
 grew : m'.how = 0 -> m.list.length < m'.list.length
 defs : m'.defs.length <= m.defs.length + 1
theorem Un {p : List Nd} (s : ByteArray) (names : List ByteArray) (body : List Int) {m : Ms} (h : m.list.length <= 400) : LeD m (Kq p s names body m) := by
 obtain ⟨h1,h2,h3⟩ := Xr (p := p) s names body h
 refine ⟨h2,h1,h3,?_⟩
 unfold Kq
 have a1 := Fa (E := GE p) (fun env v m h => Gt p _ env v m h) [names] body true ⟨m.list,m.defs ++ [⟨s,m.list.length,names.length⟩],I8 s m.defs m.how⟩ h
 rw [(zG a1.four (inO 8)).defs,a1.defs]
 simp
theorem Wo {p : List Nd} {v : Int} {m : Ms} (h : m.list.length <= 400) : LeD m (NC p v m) := by
 unfold NC
 simp only
 split
 ·split
  ·exact ⟨Nat.le_refl _,h,fun h => by simp [CR] at h,Nat.le_succ _⟩
  ·split
   ·exact ⟨Nat.le_refl _,h,fun h => by simp [CR] at h,Nat.le_succ _⟩
   ·split
    ·exact ⟨Nat.le_refl _,h,fun h => by simp [CR] at h,Nat.le_succ _⟩
    ·have h2 : (CR m (z7 p (List.drop 1 (zP p ((zP p v).1.getD 1 0)).1) m.how).2).list.length <= 400 := h
     have := Un (p := p) (nod p ((zP p ((zP p v).1.getD 1 0)).1.getD 0 0)).s (z7 p (List.drop 1 (zP p ((zP p v).1.getD 1 0)).1) m.how).1 (List.drop 2 (zP p v).1) h2
     exact ⟨this.len,this.four,this.grew,this.defs⟩
 ·exact Un _ _ _ h
def Jq (l : List In) : Prop := ∀ x ∈ l,x.s.size < 4611686018427387904
def UQ (E : List (List ByteArray) -> Int -> Ms -> Ms) : Prop := ∀ env v (m : Ms),Jq m.list -> Jq (E env v m).list
theorem Ah {m : Ms} (h : Jq m.list) {x : In} (hx : x.s.size < 4611686018427387904) : Jq (zL m x).list := by
 unfold zL
 split
 ·split
  ·exact h
  ·intro y hy
   rcases List.mem_append.1 hy with hy | hy
   ·exact h y hy
   ·rw [List.mem_singleton.1 hy]; exact hx
 ·exact h
theorem Dd : (⟨#[]⟩ : ByteArray).size < 4611686018427387904 := by decide
theorem QO {m : Ms} (h : Jq m.list) (k : Int) : Jq (toC m k).list := by
 unfold toC
 split
 ·intro y hy
  rcases List.mem_or_eq_of_mem_set hy with hy | rfl
  ·exact h y hy
  ·simp only
   rw [List.getD_eq_getElem?_getD]
   cases hg : m.list[k.toNat]? with
   | none => exact Dd
   | some x => exact h x (List.mem_of_getElem? hg)
 ·exact h
theorem JE {E} (hE : UQ E) (env : List (List ByteArray)) : ∀ (xs : List Int) (f : Bool) (m : Ms),Jq m.list -> Jq (DN E env xs f m).list
 | [],f,m,h => h
 | x :: r,f,m,h => by
  unfold DN
  split
  ·refine JE hE env r false _ (hE env x _ ?_)
   split
   ·exact h
   ·exact Ah h Dd
  ·exact h
theorem Ux {E} (hE : UQ E) (names : List ByteArray) (body : List Int) (env : List (List ByteArray)) {m : Ms} (h : Jq m.list) : Jq (TC E names body env m).list := by
 unfold TC
 exact QO (Ah (JE hE _ _ _ _ (QO (Ah (Ah h Dd) Dd) _)) Dd) _
theorem VO {E} (hE : UQ E) (p : List Nd) (s : ByteArray) (xs : List Int) (env : List (List ByteArray)) {m : Ms} (h : Jq m.list) : Jq (Mz E p s xs env m).list := by
 unfold Mz
 simp only
 split
 ·exact Ah h Dd
 split
 ·exact QO (hE _ _ _ (QO (Ah (hE _ _ _ (Ah (hE _ _ _ h) Dd)) Dd) _)) _
 split
 ·exact JE hE _ _ _ _ h
 split
 ·split
  ·exact h
  ·exact Ux hE _ _ _ h
 split
 ·refine Ah (hE _ _ _ (Ux hE _ _ _ ?_)) ?_
  ·exact h
  ·exact Dd
 ·exact h
theorem RH {E} (hE : UQ E) (env : List (List ByteArray)) : ∀ (xs : List Int) (m : Ms),Jq m.list -> Jq (xs.foldl (fun m x => E env x m) m).list
 | [],_,h => h
 | x :: r,m,h => RH hE env r _ (hE env x m h)
theorem UF {p : List Nd} (hf : Ac p) (v : Int) : (nod p v).s.size < 4611686018427387904 := by
 unfold nod
 rw [List.getD_eq_getElem?_getD]
 cases hg : p[v.toNat]? with
 | none => exact Dd
 | some x => exact hf x (List.mem_of_getElem? hg)
theorem Mw {p : List Nd} (hf : Ac p) : ∀ k,UQ (Jd p k)
 | 0,env,v,m,h => h
 | k + 1,env,v,m,h => by
  unfold Jd
  split
  ·exact h
  simp only
  split
  ·exact Ah h Dd
  split
  ·split
   ·exact h
   ·split
    ·exact Ah h Dd
    ·exact Ah h (UF hf v)
  split
  ·exact h
  split
  ·exact h
  split
  ·exact VO (Mw hf k) p _ _ env h
  split
  ·exact h
  ·exact Ah (RH (Mw hf k) env _ m h) Dd
def Te (m : Ms) : Prop := Jq m.list /\ ∀ x ∈ m.defs,x.name.size < 4611686018427387904
theorem Uo {p : List Nd} (hf : Ac p) {s : ByteArray} (hs : s.size < 4611686018427387904) (names : List ByteArray) (body : List Int) {m : Ms} (hm : m.list.length <= 400) (h : Te m) : Te (Kq p s names body m) := by
 have hE : UQ (GE p) := fun env v m h => Mw hf _ env v m h
 have hG : GD (GE p) := fun env v m h => Gt p _ env v m h
 unfold Kq
 refine ⟨?_,?_⟩
 ·refine Ah (JE hE _ _ _ _ ?_) ?_
  ·exact h.1
  ·exact Dd
 have a1 := Fa hG [names] body true ⟨m.list,m.defs ++ [⟨s,m.list.length,names.length⟩],I8 s m.defs m.how⟩ hm
 rw [(zG a1.four (inO 8)).defs,a1.defs]
 intro x hx
 rcases List.mem_append.1 hx with hx | hx
 ·exact h.2 x hx
 ·rw [List.mem_singleton.1 hx]; exact hs
theorem UM {p : List Nd} (hf : Ac p) {v : Int} {m : Ms} (hm : m.list.length <= 400) (h : Te m) : Te (NC p v m) := by
 unfold NC
 simp only
 split
 ·split
  ·exact h
  ·split
   ·exact h
   ·split
    ·exact h
    ·exact Uo hf (UF hf _) _ _ hm h
 ·exact Uo hf (by decide) _ _ hm h
abbrev OT (r : Cd × Int × Int) : Option Ret := some (.tup [oCd r.1,iN r.2.1,iN r.2.2],[])
theorem OX {p : List Nd} (hp : y2 p) (hf : Ac p) (hl : p.length <= 5000) {xs : List Int} (hxl : xs.length <= 1000000) (hx : ∀ x ∈ xs,InP p x) : ∀ (k i : Nat) (m : Ms),i + k = xs.length -> m.list.length <= 400 -> m.defs.length <= i -> Te m ->
  Ap (xs.map eI) (i : Int) m.how (p.map eN) (m.list.map eIn) (m.defs.map eDf) = OT (DP p xs.length (xs.drop i) i m)
 | 0,i,m,hi,hm,hd,hs => by
  have hfc : FitsC ⟨p,m.list,m.defs⟩ := ⟨hf,by show p.length < _; omega,hs.1,by show m.list.length < _; omega,hs.2,by show m.defs.length < _; omega⟩
  have hok := CM hfc
  rw [Ay,xb (by rw [lnM]; exact yr (by omega)),Lf hok,List.drop_of_length_le (by omega),DP,lnM]
  cases zw ⟨p,m.list,m.defs⟩ with
  | false => rw [Bool.not_false,yk,if_neg (by decide)]; rfl
  | true => rw [Bool.not_true,xJ,if_pos rfl]
 | k + 1,i,m,hi,hm,hd,hs => by
  obtain ⟨x,hg⟩ := xx (l := xs) (i := i) (by omega)
  have ht := XX hp hl (hx x (List.mem_of_getElem? hg)) hm (by omega)
  have le := Wo (p := p) (v := x) hm
  have ih := OX hp hf hl hxl hx k (i + 1) (NC p x m) (by omega) le.four (by have := le.defs; omega) (UM hf hm hs)
  rw [Ay,xK (by rw [lnM]; exact yz (by omega)),yu (by rw [lnM]; exact yx (by omega)),Int.toNat_natCast,xW hg,ye,TN ht,tU hg,DP,yM (by omega),ih]
  by_cases h3 : (NC p x m).how = 3
  ·rw [xK (yF h3),if_pos h3]; rfl
  ·rw [xb (yE h3),if_neg h3]
   by_cases h0 : (NC p x m).how = 0
   ·rw [xb (yG h0),if_neg (fun h => h h0)]; rfl
   ·rw [xK (yH h0),if_pos h0]; rfl
theorem Tj {p : List Nd} (hp : y2 p) (hf : Ac p) (hl : p.length <= 5000) {xs : List Int} (hxl : xs.length <= 1000000) (hx : ∀ x ∈ xs,InP p x) : Cw (xs.map eI) 0 0 (p.map eN) = OT (DP p xs.length xs 0 ⟨[],[],0⟩) := by
 have hs : Te ⟨[],[],0⟩ := ⟨fun x h => by simp at h,fun x h => by simp at h⟩
 have h := OX hp hf hl hxl hx xs.length 0 ⟨[],[],0⟩ (by omega) (by simp) (by simp) hs
 rw [Int.natCast_zero,List.drop_zero] at h
 rw [<- h,IL,Ay]
 rfl
theorem RI {p : List Nd} (hp : y2 p) (hf : Ac p) (hl : p.length <= 4999) {xs : List Int} (hxl : xs.length <= 1000000) : ∀ (k i : Nat),i + k = xs.length -> (∀ x ∈ xs.take i,wi x 0 ((p.length : Int) - 1) = true) ->
  Bx (xs.map eI) (i : Int) (p.map eN) = OT (if z9 p (xs.drop i) = true then DP p xs.length xs 0 ⟨[],[],0⟩ else (⟨[],[],[]⟩,3,0))
 | 0,i,hi,ht => by
  have hx : ∀ x ∈ xs,InP p x := fun x h => by
   have := wi_iff.1 (ht x (by rw [List.take_of_length_le (by omega)]; exact h))
   exact ⟨this.1,by omega⟩
  have hcp := NG (p := p) (by omega)
  rw [DF,xb (by rw [lnM]; exact yr (by omega)),y8 hcp,Tj hp hf (by omega) hxl hx,List.drop_of_length_le (by omega),if_pos (by rfl)]
 | k + 1,i,hi,ht => by
  obtain ⟨x,hg⟩ := xx (l := xs) (i := i) (by omega)
  rw [DF,xK (by rw [lnM]; exact yz (by omega)),yu (by rw [lnM]; exact yx (by omega)),Int.toNat_natCast,xW hg,ye,Jw (Fm (by omega) x),tU hg,yM (by omega)]
  have er : z9 p (x :: xs.drop (i + 1)) = (wi x 0 ((p.length : Int) - 1) && z9 p (xs.drop (i + 1))) := rfl
  rw [er]
  cases hw : wi x 0 ((p.length : Int) - 1) with
  | false => rw [Bool.not_false,yk,Bool.false_and,if_neg (by decide)]; rfl
  | true =>
   have ih := RI hp hf hl hxl k (i + 1) (by omega) (fun y hy => by
    rw [List.take_add_one,hg] at hy
    rcases List.mem_append.1 hy with hy | hy
    ·exact ht y hy
    ·simp at hy; rw [hy]; exact hw)
   rw [Bool.not_true,xJ,Bool.true_and,ih]
theorem Iw {p : List Nd} (hf : Ac p) (hl : p.length < 4611686018427387904) {xs : List Int} (hxl : xs.length <= 1000000) : V 193 [eP p,.rs (1,0) (xs.map eI)] = OT (JH p xs) := by
 rw [NW,BC (z8 hf hl)]
 unfold JH
 cases h : yR p with
 | false => rw [Bool.not_false,yk,if_neg (by simp)]; rfl
 | true =>
  obtain ⟨h1,h2⟩ := okPool_iff.1 h
  have hh := RI h1 hf (by omega) hxl xs.length 0 (by omega) (by simp)
  rw [Int.natCast_zero,List.drop_zero] at hh
  rw [Bool.not_true,xJ,hh]
  by_cases hr : z9 p xs = true
  ·rw [if_pos hr,if_pos ⟨rfl,hr⟩]
  ·rw [if_neg hr,if_neg (fun h => hr h.2)]
end
end Go.Eng
/-! the functions as the interpreter has them -/
/-! what is drawn: the cursor -/
namespace Go.Eng
noncomputable section
open Go.Proofs Go.Proofs.Tryz

def eB (x : Int) : D := .int .u8 x
abbrev eC (b : List Int) (c : Int × Int) : D := .op [.rs (1,0) (b.map eB),iN c.1,iN c.2]
def zr (b : List Int) (c : Int × Int) : Prop := 0 <= c.1 /\ c.1 <= b.length
theorem PB (x : Int) : 0 <= w6 (ni (BitVec.toNat (BitVec.ofInt (IntKind.bits IntKind.i64) x &&& BitVec.ofInt (IntKind.bits IntKind.i64) 255))) /\ w6 (ni (BitVec.toNat (BitVec.ofInt (IntKind.bits IntKind.i64) x &&& BitVec.ofInt (IntKind.bits IntKind.i64) 255))) <= 255 := by
 have h : BitVec.toNat (BitVec.ofInt (IntKind.bits IntKind.i64) x &&& BitVec.ofInt (IntKind.bits IntKind.i64) 255) <= 255 := by
  rw [BitVec.toNat_and]
  exact Nat.le_trans Nat.and_le_right (by decide)
 rw [w64 (by simp only [ni]; omega) (by simp only [ni]; omega)]
 simp only [ni]; omega

section
variable {b : List Int} {c : Int × Int}
theorem GL (hb : b.length < 4611686018427387904) (h : zr b c) : ∃ v c',V 143 [eC b c] = some (iN v,[eC b c']) /\ zr b c' /\ 0 <= v /\ v <= 255 := by
 obtain ⟨h1,h2⟩ := h
 rw [PX,yu (by decide),yu (by decide)]
 by_cases hi : c.1 < b.length
 ·obtain ⟨k,hk⟩ := Int.eq_ofNat_of_zero_le h1
  obtain ⟨x,hx⟩ := xx (l := b) (i := k) (by omega)
  rw [hk]
  rw [xK (by rw [lnM]; exact yz (by omega)),yu (by rw [lnM]; exact yx (by omega)),Int.toNat_natCast,xW hx]
  unfold eB
  rw [ye]
  refine ⟨_,(_,_),rfl,⟨?_,?_⟩,(PB _).1,(PB _).2⟩
  ·show 0 <= w6 ((k : Int) + 1)
   rw [w64 (by omega) (by omega)]; omega
  ·show w6 ((k : Int) + 1) <= _
   rw [w64 (by omega) (by omega)]; omega
 ·rw [xb (decide_eq_false (by simp only [ni,lnM]; omega))]
  exact ⟨_,(c.1,w6 (w6 (c.2 * 6364136223846793005) + 1442695040888963407)),rfl,⟨h1,h2⟩,(PB _).1,(PB _).2⟩

theorem Ko (hb : b.length < 4611686018427387904) (h : zr b c) (n : Int) : ∃ v c',V 76 [eC b c,iN n] = some (iN v,[eC b c']) /\ zr b c' /\ 0 <= v /\ (0 < n -> v < n) := by
 rw [NY]
 by_cases hn : n <= 0
 ·rw [xK (by simpa using hn)]
  exact ⟨_,c,rfl,h,by omega,by omega⟩
 rw [xb (by simpa using hn)]
 by_cases h256 : n <= 256
 ·rw [xK (by simpa using h256)]
  obtain ⟨v,c1,hv,h1,hv1,hv2⟩ := GL hb h
  rw [CZ hv]
  try simp only [ye,xI,yi,yg,yh,xu,xw,yf,yb,yo,yA]
  rw [yu (by simp; omega)]
  exact ⟨_,c1,rfl,h1,Int.tmod_nonneg _ hv1,fun _ => Int.tmod_lt_of_pos _ (by omega)⟩
 ·rw [xb (by simpa using h256)]
  obtain ⟨v1,c1,hv1,a1,b1⟩ := GL hb h
  obtain ⟨v2,c2,hv2,a2,b2⟩ := GL hb a1
  obtain ⟨v3,c3,hv3,a3,b3⟩ := GL hb a2
  obtain ⟨v4,c4,hv4,a4,b4⟩ := GL hb a3
  rw [CZ hv1,CZ hv2,CZ hv3,CZ hv4]
  try simp only [ye,xI,yi,yg,yh,xu,xw,yf,yb,yo,yA]
  rw [yu (by simp; omega)]
  refine ⟨_,c4,rfl,a4,Int.tmod_nonneg _ ?_,fun _ => Int.tmod_lt_of_pos _ (by omega)⟩
  rw [w64 (n := v1 * 16777216) (by omega) (by omega),w64 (n := v2 * 65536) (by omega) (by omega),w64 (n := v3 * 256) (by omega) (by omega)]
  rw [w64 (n := v1 * 16777216 + v2 * 65536) (by omega) (by omega),w64 (n := v1 * 16777216 + v2 * 65536 + v3 * 256) (by omega) (by omega),w64 (by omega) (by omega)]
  omega

theorem Q9 (hb : b.length < 4611686018427387904) (h : zr b c) {l : List Int} (hl : 0 < l.length) : ∃ v c',V 122 [eC b c,.rs (1,0) (l.map (D.int .i64))] = some (iN v,[eC b c']) /\ zr b c' /\ v ∈ l := by
 obtain ⟨v,c1,hv,a1,b1,b2⟩ := Ko hb h (ni (l.map (D.int .i64)).length)
 rw [Lx,JZ hv]
 try simp only [ye,xI,yi,yg,yh,xu,xw,yf,yb,yo,yA]
 simp only [ni,lnM] at b2
 obtain ⟨k,rfl⟩ := Int.eq_ofNat_of_zero_le b1
 have hk : k < l.length := by have := b2 (by omega); omega
 obtain ⟨x,hx⟩ := xx hk
 rw [yu (by rw [lnM]; exact yx hk),Int.toNat_natCast,xW hx,ye]
 exact ⟨_,c1,rfl,a1,List.mem_of_getElem? hx⟩

theorem VI (hb : b.length < 4611686018427387904) (h : zr b c) {l : List ByteArray} (hl : 0 < l.length) : ∃ v c',V 75 [eC b c,.rs (1,0) (l.map D.str)] = some (.str v,[eC b c']) /\ zr b c' /\ v ∈ l := by
 obtain ⟨v,c1,hv,a1,b1,b2⟩ := Ko hb h (ni (l.map D.str).length)
 rw [Qa,JZ hv]
 try simp only [ye,xI,yi,yg,yh,xu,xw,yf,yb,yo,yA]
 simp only [ni,lnM] at b2
 obtain ⟨k,rfl⟩ := Int.eq_ofNat_of_zero_le b1
 have hk : k < l.length := by have := b2 (by omega); omega
 obtain ⟨x,hx⟩ := xx hk
 rw [yu (by rw [lnM]; exact yx hk),Int.toNat_natCast,xW hx,yi]
 exact ⟨_,c1,rfl,a1,List.mem_of_getElem? hx⟩

theorem RU (hb : b.length < 4611686018427387904) : ∀ (k i : Nat) (h : Int),i + k = b.length -> ∃ h',CE (b.map eB) h (i : Int) = some (eC b (0,h'),[])
 | 0,i,h,hi => by
  rw [FM,xb (by rw [lnM]; exact yr (by omega))]
  exact ⟨_,rfl⟩
 | k + 1,i,h,hi => by
  obtain ⟨x,hx⟩ := xx (l := b) (i := i) (by omega)
  rw [FM,xK (by rw [lnM]; exact yz (by omega)),yu (by rw [lnM]; exact yx (by omega)),Int.toNat_natCast,xW hx]
  cases h4 : decide ((i : Int) < 4000) with
  | false => exact ⟨_,rfl⟩
  | true =>
   unfold eB
   rw [yk,ye,yM (by omega)]
   exact RU hb k (i + 1) _ (by omega)
theorem WH (hb : b.length < 4611686018427387904) : ∃ c,V 51 [.rs (1,0) (b.map eB)] = some (eC b c,[]) /\ zr b c := by
 rw [Rt]
 obtain ⟨h',he⟩ := RU hb b.length 0 (w6 (17000 + ni (List.length (b.map eB)))) (by omega)
 exact ⟨(0,h'),he,Int.le_refl _,Int.natCast_nonneg _⟩
end
theorem XW (b : List Int) : V 12 [.rs (1,0) (b.map eB)] = some (.bool (decide ((b.length : Int) > 1048576)),[]) := by
 rw [UZ,lnM]
set_option maxRecDepth 100000 in
theorem VF {x : D} (h : ShapeV prog 22 x) : ∃ b : List Int,x = .rs (1,0) (b.map eB) /\ b.length < 4611686018427387904 := by
 obtain ⟨ys,hs,rfl⟩ := h
 obtain ⟨bs,rfl,h1,h2⟩ := hs.slice Tryz.underlying22 (show zOf prog 5 = some (1,0) by kernel_rfl)
 obtain ⟨l,rfl,-⟩ := sw (enc := eB) (p := fun _ => True) (ys := bs) (fun x hx => by
  obtain ⟨ps,hs,rfl⟩ := h2 x hx
  obtain ⟨n,rfl,_⟩ := hs.int Tryz.underlying5
  exact ⟨n,sn Tryz.underlying5,trivial⟩)
 have hby : prog.bytesOf 5 = 1 := by kernel_rfl
 have hr : reachBytes = 140737488351232 := rfl
 rw [hby,lnM] at h1
 exact ⟨l,by rw [wv Tryz.underlying22],by omega⟩
end
end Go.Eng
/-! draws: what is drawn fits,and the cursor goes on -/
namespace Go.Eng
noncomputable section
open Go.Proofs Go.Proofs.Tryz

def Got (P : D -> List D -> Prop) (r : Option Ret) : Prop := ∃ v l,r = some (v,l) /\ P v l
theorem U3 {r s : Option Ret} (h : r = s) (P : D -> List D -> Prop) : Got P r = Got P s := by rw [h]
attribute [congr] U3
section
variable {P Q : D -> List D -> Prop}
theorem MF {v : D} {l : List D} (h : P v l) : Got P (some (v,l)) := ⟨v,l,rfl,h⟩
theorem yZ {b : Bool} {x y : Option Ret} (h1 : b = true -> Got P x) (h2 : b = false -> Got P y) : Got P (br b x y) := by
 cases b with
 | true => exact h1 rfl
 | false => exact h2 rfl
theorem Aq {b : Bool} {x : Option Ret} (h : b = true) (h1 : Got P x) : Got P (grd b x) := by rw [yu h]; exact h1
theorem JQ {v : D} {l : List D} {f : Nat} {ds : List D} {K : D -> List D -> Option Ret} (h : V f ds = some (v,l)) (h2 : Got P (K v l)) : Got P (jb V f ds K) := by
 rw [xh h]; exact h2
end
abbrev Bz (b : List Int) (Q : D -> Prop) : Option Ret -> Prop := Got (fun v l => ∃ c',l = [eC b c'] /\ zr b c' /\ Q v)
section
variable {b : List Int} {Q : D -> Prop} {P : D -> List D -> Prop}
theorem yP {f : Nat} {ds : List D} {K : D -> List D -> Option Ret} (h : Bz b Q (V f ds)) (h2 : ∀ v c',zr b c' -> Q v -> Got P (K v [eC b c'])) : Got P (jb V f ds K) := by
 obtain ⟨v,l,e,c',rfl,hc,hq⟩ := h
 rw [xh e]; exact h2 v c' hc hq
theorem yQ {v : D} {c' : Int × Int} (h : zr b c') (hq : Q v) : Bz b Q (some (v,[eC b c'])) := ⟨v,_,rfl,c',rfl,h,hq⟩
theorem Kr {Q' : D -> Prop} {r : Option Ret} (h : Bz b Q r) (h2 : ∀ v,Q v -> Q' v) : Bz b Q' r := by
 obtain ⟨v,l,e,c',e2,hc,hq⟩ := h
 exact ⟨v,l,e,c',e2,hc,h2 v hq⟩
end
theorem DZ : (⟨#[]⟩ : ByteArray).size <= 100 := by decide
def XI (n : Int) (v : D) : Prop := ∃ m : Int,v = iN m /\ 0 <= m /\ (0 < n -> m < n)
def IsB (v : D) : Prop := ∃ m : Bool,v = .bool m
section
variable {b : List Int} {c : Int × Int}
theorem yX (hb : b.length < 4611686018427387904) (h : zr b c) (n : Int) : Bz b (XI n) (V 76 [eC b c,iN n]) := by
 obtain ⟨v,c',e,h1,h2,h3⟩ := Ko hb h n
 exact ⟨_,_,e,c',rfl,h1,v,rfl,h2,h3⟩
theorem Gq (hb : b.length < 4611686018427387904) (h : zr b c) (n : Int) : Bz b IsB (V 155 [eC b c,iN n]) := by
 rw [PZ]
 refine yP (yX hb h n) fun v c1 a1 ⟨m,e,_⟩ => ?_
 subst e
 simp (disch := first | omega | (simp only [lnA,lnC,lnN,lnM,yO,wY]; omega)) only [↓yo,↓yb,↓ye,↓yh,↓yf]
 exact yQ a1 ⟨_,rfl⟩
theorem Gr (hb : b.length < 4611686018427387904) (h : zr b c) (l : List Int) (hl : 0 < l.length) : Bz b (fun v => ∃ m : Int,v = iN m /\ m ∈ l) (V 122 [eC b c,.rs (1,0) (l.map (D.int .i64))]) := by
 obtain ⟨v,c',e,h1,h2⟩ := Q9 hb h hl
 exact ⟨_,_,e,c',rfl,h1,v,rfl,h2⟩
theorem Fc (hb : b.length < 4611686018427387904) (h : zr b c) (l : List ByteArray) (hl : 0 < l.length) : Bz b (fun v => ∃ m : ByteArray,v = .str m /\ m ∈ l) (V 75 [eC b c,.rs (1,0) (l.map D.str)]) := by
 obtain ⟨v,c',e,h1,h2⟩ := VI hb h hl
 exact ⟨_,_,e,c',rfl,h1,v,rfl,h2⟩

def WE (v : D) : Prop := ∃ x : Nd,v = eN x /\ x.s.size <= 100
theorem Uq (hb : b.length < 4611686018427387904) (h : zr b c) : Bz b WE (V 201 [eC b c]) := by
 rw [Kz]
 refine yP (yX hb h _) fun v c1 a1 ⟨m,e,m0,m1⟩ => ?_
 subst e
 simp (disch := first | omega | (simp only [lnA,lnC,lnN,lnM,yO,wY]; omega)) only [↓yo,↓yb,↓ye,↓yh,↓yf]
 refine yZ (fun _ => yQ a1 ⟨⟨_,_,_,_,_⟩,rfl,DZ⟩) fun _ => yZ (fun _ => ?_) fun _ => yZ (fun _ => ?_) fun _ => yZ (fun _ => ?_) fun _ => yZ (fun _ => ?_) fun _ => ?_
 ·refine yP (yX hb a1 _) fun v c2 a2 ⟨m,e,m0,m1⟩ => ?_
  subst e
  simp (disch := first | omega | (simp only [lnA,lnC,lnN,lnM,yO,wY]; omega)) only [↓yo,↓yb,↓ye,↓yh,↓yf]
  exact yQ a2 ⟨⟨_,_,_,_,_⟩,rfl,DZ⟩
 ·refine yP (Fc hb a1 [⟨#[97]⟩,⟨#[98,99]⟩,⟨#[120]⟩,⟨#[102]⟩,⟨#[43]⟩,⟨#[108,105,115,116]⟩] (by simp)) fun v c2 a2 ⟨m,e,hm⟩ => ?_
  subst e
  simp (disch := first | omega | (simp only [lnA,lnC,lnN,lnM,yO,wY]; omega)) only [↓yo,↓yb,↓ye,↓yi,↓yh,↓yf]
  refine yQ a2 ⟨⟨_,_,m,_,_⟩,rfl,?_⟩
  simp only [List.mem_cons,List.not_mem_nil,or_false] at hm
  rcases hm with rfl | rfl | rfl | rfl | rfl | rfl <;> decide
 all_goals
  refine yP (yX hb a1 _) fun v c2 a2 ⟨m,e,m0,m1⟩ => ?_
  subst e
  simp (disch := first | omega | (simp only [lnA,lnC,lnN,lnM,yO,wY]; omega)) only [↓yo,↓yb,↓ye,↓yh,↓yf]
  exact yQ a2 ⟨⟨_,_,_,_,_⟩,rfl,DZ⟩
theorem Uv (hb : b.length < 4611686018427387904) (h : zr b c) (n : Int) : Bz b WE (V 197 [eC b c,iN n]) := by
 have hat : ∀ {c : Int × Int},zr b c -> Bz b WE (V 201 [eC b c]) := fun h => Uq hb h
 rw [KC]
 refine yZ (fun _ => ?_) fun _ => ?_
 ·refine yP (hat h) fun v c1 a1 ⟨x,e,hx⟩ => ?_
  subst e
  simp (disch := first | omega | (simp only [lnA,lnC,lnN,lnM,yO,wY]; omega)) only [↓yo,↓yb,↓ye,↓yi,↓yh,↓xu,↓yf]
  exact yQ a1 ⟨x,rfl,hx⟩
 refine yP (Gq hb h 2) fun v c1 a1 ⟨o,e⟩ => ?_
 subst e
 simp (disch := first | omega | (simp only [lnA,lnC,lnN,lnM,yO,wY]; omega)) only [↓yo,↓yb,↓ye,↓xI,↓yh,↓yf]
 refine yZ (fun _ => ?_) fun _ => ?_
 ·refine yP (hat a1) fun v c1 a1 ⟨x,e,hx⟩ => ?_
  subst e
  simp (disch := first | omega | (simp only [lnA,lnC,lnN,lnM,yO,wY]; omega)) only [↓yo,↓yb,↓ye,↓yi,↓yh,↓xu,↓yf]
  exact yQ a1 ⟨x,rfl,hx⟩
 refine JQ (QT _ _) ?_
 simp (disch := first | omega | (simp only [lnA,lnC,lnN,lnM,yO,wY]; omega)) only [↓yo,↓ye]
 refine yP (yX hb a1 _) fun v c2 a2 ⟨m,e,m0,m1⟩ => ?_
 subst e
 simp (disch := first | omega | (simp only [lnA,lnC,lnN,lnM,yO,wY]; omega)) only [↓yo,↓yb,↓ye,↓yh,↓yf]
 refine yP (yX hb a2 _) fun v c3 a3 ⟨m3,e,_,_⟩ => ?_
 subst e
 simp (disch := first | omega | (simp only [lnA,lnC,lnN,lnM,yO,wY]; omega)) only [↓yo,↓yb,↓ye,↓yh,↓yf]
 refine yZ (fun _ => ?_) fun _ => yZ (fun _ => yQ a3 ⟨⟨_,_,_,_,_⟩,rfl,DZ⟩) fun _ => ?_
 ·refine yP (yX hb a3 _) fun v c4 a4 ⟨m4,e,_,_⟩ => ?_
  subst e
  simp (disch := first | omega | (simp only [lnA,lnC,lnN,lnM,yO,wY]; omega)) only [↓yo,↓yb,↓ye,↓yh,↓yf]
  exact yQ a4 ⟨⟨_,_,_,_,_⟩,rfl,DZ⟩
 refine JQ (QT _ _) ?_
 simp (disch := first | omega | (simp only [lnA,lnC,lnN,lnM,yO,wY]; omega)) only [↓yo,↓ye]
 refine yP (yX hb a3 _) fun v c4 a4 ⟨m4,e,_,_⟩ => ?_
 subst e
 simp (disch := first | omega | (simp only [lnA,lnC,lnN,lnM,yO,wY]; omega)) only [↓yo,↓yb,↓ye,↓yh,↓yf]
 exact yQ a4 ⟨⟨_,_,_,_,_⟩,rfl,DZ⟩
def Tc (p : List Nd) : Prop := ∀ x ∈ p,x.s.size <= 100
theorem Gj {p : List Nd} (h : Tc p) : Ac p := fun x hx => by have := h x hx; omega
def S9 (v : D) : Prop := ∃ p : List Nd,v = oP p /\ Tc p /\ (p.length <= 15 \/ (p.length <= 3001 /\ ∀ x ∈ p,x.kind = 1))
theorem Ja (hb : b.length < 4611686018427387904) {n : Int} (hn : n < 16) : ∀ (k i : Nat) (c : Int × Int) (p : List Nd),(i : Int) + k = n -> zr b c -> Tc p -> p.length <= i -> 0 < i -> Bz b (fun v => ∃ p : List Nd,v = oP p /\ Tc p /\ p.length <= 15) (zW n (i : Int) (b.map eB) c.1 c.2 (p.map eN))
 | 0,i,c,p,hi,hc,hp,hl,h0 => by
  rw [Bg]
  simp (disch := first | omega | (simp only [lnA,lnC,lnN,lnM,yO,wY]; omega)) only [↓xJ,yI]
  exact yQ hc ⟨p,rfl,hp,by omega⟩
 | k + 1,i,c,p,hi,hc,hp,hl,h0 => by
  rw [Bg,xK (decide_eq_true (by omega))]
  refine yP (Uv hb hc _) fun v c1 a1 ⟨x,e,hx⟩ => ?_
  subst e
  simp (disch := first | omega | (simp only [lnA,lnC,lnN,lnM,yO,wY]; omega)) only [↓wZ,xi,↓yo,↓yb,↓ye,↓yi,↓yg,↓yh,↓xu,↓yf,wS,y7 (p := p) (by omega) x]
  refine Ja hb hn k (i + 1) c1 (p ++ [x]) (by omega) a1 ?_ (by simp; omega) (by omega)
  intro y hy
  rcases List.mem_append.1 hy with hy | hy
  ·exact hp y hy
  ·simp at hy; subst hy; exact hx
theorem VK (hb : b.length < 4611686018427387904) (h : zr b c) : Bz b (fun v => ∃ p : List Nd,v = oP p /\ Tc p /\ p.length <= 15) (V 154 [eC b c]) := by
 rw [JN]
 refine yP (yX hb h _) fun v c1 a1 ⟨m,e,m0,m1⟩ => ?_
 subst e
 have := m1 (by omega)
 simp (disch := first | omega | (simp only [lnA,lnC,lnN,lnM,yO,wY]; omega)) only [↓yo,↓yb,↓ye,↓yh,↓yf]
 rw [Gp]
 refine yZ (fun h0 => ?_) fun _ => yQ a1 ⟨[],rfl,fun x hx => by simp at hx,by simp⟩
 have h0 := of_decide_eq_true h0
 refine yP (Uv hb a1 _) fun v c2 a2 ⟨x,e,hx⟩ => ?_
 subst e
 have ha : V 158 [.op [.os (5,0) []],eN x] = some (iN 0,[rP [x]]) := y7 (p := []) (by simp) x
 simp (disch := first | omega | (simp only [lnA,lnC,lnN,lnM,yO,wY]; omega)) only [↓wZ,xi,↓yo,↓yb,↓ye,↓yi,↓yg,↓yh,↓xu,↓yf,Int.reduceAdd,wS,ha]
 obtain ⟨k,hk⟩ := Int.eq_ofNat_of_zero_le (show 0 <= m - 1 by omega)
 exact Ja hb (by omega) k 1 c2 [x] (by simp; omega) a2 (by simpa [Tc] using hx) (by simp) (by omega)
theorem VL (hb : b.length < 4611686018427387904) (h : zr b c) {x : Nd} (hx : x.s.size <= 100) : Bz b WE (V 156 [eC b c,eN x]) := by
 rw [Oc]
 refine yP (yX hb h _) fun v c1 a1 ⟨m,e,m0,m1⟩ => ?_
 subst e
 simp (disch := first | omega | (simp only [lnA,lnC,lnN,lnM,yO,wY]; omega)) only [↓yo,↓yb,↓ye,↓yh,↓yf]
 refine yZ (fun _ => ?_) fun _ => yZ (fun _ => ?_) fun _ => yZ (fun _ => ?_) fun _ => yZ (fun _ => ?_) fun _ => yZ (fun _ => ?_) fun _ => yQ a1 ⟨x,rfl,hx⟩
 ·refine yP (yX hb a1 _) fun v c2 a2 ⟨m2,e,_,_⟩ => ?_
  subst e
  simp (disch := first | omega | (simp only [lnA,lnC,lnN,lnM,yO,wY]; omega)) only [↓yo,↓yb,↓ye,↓yh,↓yf]
  exact yQ a2 ⟨⟨m2,x.n,x.s,x.a,x.b⟩,rfl,hx⟩
 ·refine yP (yX hb a1 _) fun v c2 a2 ⟨m2,e,_,h2⟩ => ?_
  subst e
  have := h2 (by omega)
  simp (disch := first | omega | (simp only [lnA,lnC,lnN,lnM,yO,wY]; omega)) only [↓yo,↓yb,↓ye,↓yh,↓yf]
  exact yQ a2 ⟨⟨x.kind,x.n,x.s,w6 (m2 - 1),x.b⟩,rfl,hx⟩
 ·refine yP (yX hb a1 _) fun v c2 a2 ⟨m2,e,_,h2⟩ => ?_
  subst e
  have := h2 (by omega)
  simp (disch := first | omega | (simp only [lnA,lnC,lnN,lnM,yO,wY]; omega)) only [↓yo,↓yb,↓ye,↓yh,↓yf]
  exact yQ a2 ⟨⟨x.kind,x.n,x.s,x.a,w6 (m2 - 1)⟩,rfl,hx⟩
 ·refine yP (Gr hb a1 [-1,2,99,100,1000000000,1000000001,-1000000000,-1000000001] (by simp)) fun v c2 a2 ⟨m2,e,_⟩ => ?_
  subst e
  simp (disch := first | omega | (simp only [lnA,lnC,lnN,lnM,yO,wY]; omega)) only [↓yo,↓yb,↓ye,↓yh,↓yf]
  exact yQ a2 ⟨⟨x.kind,m2,x.s,x.a,x.b⟩,rfl,hx⟩
 ·refine yP (Fc hb a1 [⟨#[]⟩,⟨#[97]⟩,⟨#[65,98]⟩,⟨#[97,98,99,100,101,102,103,104,105,106,107,108]⟩,⟨#[97,98,99,100,101,102,103,104,105,106,107,108,109]⟩,⟨#[97,49]⟩] (by simp)) fun v c2 a2 ⟨m2,e,hm⟩ => ?_
  subst e
  simp (disch := first | omega | (simp only [lnA,lnC,lnN,lnM,yO,wY]; omega)) only [↓yo,↓yb,↓ye,↓yi,↓yh,↓yf]
  refine yQ a2 ⟨⟨x.kind,x.n,m2,x.a,x.b⟩,rfl,?_⟩
  show m2.size <= 100
  simp only [List.mem_cons,List.not_mem_nil,or_false] at hm
  rcases hm with rfl | rfl | rfl | rfl | rfl | rfl <;> decide
theorem Ut (hb : b.length < 4611686018427387904) (h : zr b c) {N : Nat} (hN : N <= 3001) : ∀ (k i : Nat) (q : List Nd),i + k = N -> q.length = N -> Tc q -> (∀ (j : Nat) (x : Nd),j < i -> q[j]? = some x -> x.kind = 1) -> Bz b S9 (zQ (i : Int) (b.map eB) c.1 c.2 (q.map eN))
 | 0,i,q,hi,hq,hs,hk => by
  rw [EJ]
  simp (disch := first | omega | (simp only [lnA,lnC,lnN,lnM,yO,wY]; omega)) only [↓xJ,yI,lnM,wY]
  refine yQ h ⟨q,rfl,hs,.inr ⟨by omega,fun x hx => ?_⟩⟩
  obtain ⟨j,hj⟩ := List.getElem?_of_mem hx
  exact hk j x (by have := aQ hj; omega) hj
 | k + 1,i,q,hi,hq,hs,hk => by
  obtain ⟨x,hx⟩ := xx (l := q) (i := i) (by omega)
  have e : (D.agg (List.take 0 [iN x.kind,iN x.n,.str x.s,iN x.a,iN x.b] ++ [iN 1] ++ List.drop 1 [iN x.kind,iN x.n,.str x.s,iN x.a,iN x.b])) = eN ⟨1,x.n,x.s,x.a,x.b⟩ := rfl
  rw [EJ,xK (decide_eq_true (by rw [lnM]; simp only [ni]; omega)),yu (by rw [lnM]; exact yx (by omega)),Int.toNat_natCast,xW hx,xu,yA,yM (by omega),e,<- List.map_set]
  refine Ut hb h hN k (i + 1) _ (by omega) (by simp; omega) ?_ ?_
  ·intro y hy
   rcases List.mem_or_eq_of_mem_set hy with hy | hy
   ·exact hs y hy
   ·rw [hy]; exact hs x (List.mem_of_getElem? hx)
  ·intro j y hj hy
   by_cases e : i = j
   ·subst e
    rw [List.getElem?_set_self (by omega)] at hy
    cases hy; rfl
   ·rw [List.getElem?_set_ne e] at hy
    exact hk j y (by omega) hy
theorem JJ (hb : b.length < 4611686018427387904) (h : zr b c) : Bz b S9 (V 90 [eC b c]) := by
 have fin : ∀ {c : Int × Int} {k : Nat},zr b c -> k < 2 -> Bz b S9 (grd (decide (0 <= w6 (3000 + (k : Int))) && decide (w6 (3000 + (k : Int)) <= LIM)) (zQ 0 (b.map eB) c.1 c.2 (List.replicate (Int.toNat (w6 (3000 + (k : Int)))) (D.agg [iN 0,iN 0,D.str ⟨#[]⟩,iN 0,iN 0])))) := by
  intro c k h hk
  rw [w64 (by omega) (by omega),yu (by rw [pE]; simp only [Bool.and_eq_true,decide_eq_true_eq]; omega)]
  have e2 : (3000 + (k : Int)).toNat = 3000 + k := by omega
  have e3 : List.replicate (3000 + k) (D.agg [iN 0,iN 0,D.str ⟨#[]⟩,iN 0,iN 0]) = (List.replicate (3000 + k) (⟨0,0,⟨#[]⟩,0,0⟩ : Nd)).map eN := by rw [List.map_replicate]
  rw [e2,e3]
  refine Ut hb h (N := 3000 + k) (by omega) (3000 + k) 0 _ (by omega) (by simp) ?_ (fun j x h _ => by omega)
  intro x hx
  rw [(List.mem_replicate.1 hx).2]
  exact DZ
 rw [Qb]
 refine yP (VK hb h) fun v c1 a1 ⟨p,e,hp,hl⟩ => ?_
 subst e
 simp (disch := first | omega | (simp only [lnA,lnC,lnN,lnM,yO,wY]; omega)) only [↓yo,↓yb,↓ye,↓yg,↓yh,↓xu,↓yf,↓yA]
 refine yZ (fun h0 => ?_) fun _ => ?_
 ·have h0 := of_decide_eq_true h0
  rw [lnM] at h0
  refine yP (Gq hb a1 12) fun v c2 a2 ⟨o,e⟩ => ?_
  subst e
  simp (disch := first | omega | (simp only [lnA,lnC,lnN,lnM,yO,wY]; omega)) only [↓yo,↓yb,↓ye,↓xI,↓yh,↓yf]
  refine yZ (fun _ => ?_) fun _ => ?_
  ·refine yP (yX hb a2 _) fun v c3 a3 ⟨m,e,m0,m1⟩ => ?_
   subst e
   have hm := m1 (by rw [lnM]; exact h0)
   rw [lnM] at hm
   obtain ⟨k,hk⟩ := Int.eq_ofNat_of_zero_le m0
   subst hk
   obtain ⟨x,hx⟩ := xx (l := p) (i := k) (by simp only [ni] at hm; omega)
   simp (disch := first | omega | (simp only [lnA,lnC,lnN,lnM,yO,wY]; omega)) only [↓yo,↓yb,↓ye,↓yh,↓yf]
   rw [yu (by rw [lnM]; exact yx (by simp only [ni] at hm; omega)),Int.toNat_natCast,xW hx,xu,yb,ye,yb,ye,yb,yi,yb,ye,yb,ye,yo]
   refine yP (VL hb a3 (hp x (List.mem_of_getElem? hx))) fun v c4 a4 ⟨y,e,hy⟩ => ?_
   subst e
   simp (disch := first | omega | (simp only [lnA,lnC,lnN,lnM,yO,wY]; omega)) only [↓yo,↓yb,↓ye,↓yi,↓yh,↓xu,↓yf]
   rw [yu (by rw [lnM]; exact yx (by simp only [ni] at hm; omega)),xW hx]
   have e : List.set (p.map eN) k (D.agg [iN y.kind,iN y.n,.str y.s,iN y.a,iN y.b]) = (p.set k y).map eN := by rw [List.map_set]
   rw [e]
   refine yP (Gq hb a4 60) fun v c5 a5 ⟨o,e⟩ => ?_
   subst e
   simp (disch := first | omega | (simp only [lnA,lnC,lnN,lnM,yO,wY]; omega)) only [↓yo,↓yb,↓ye,↓xI,↓yh,↓yf]
   refine yZ (fun _ => ?_) fun _ => yQ a5 ⟨p.set k y,rfl,?_,.inl (by simpa using hl)⟩
   ·refine yP (yX hb a5 _) fun v c6 a6 ⟨m,e,m0,m1⟩ => ?_
    subst e
    have := m1 (by omega)
    obtain ⟨k,hk⟩ := Int.eq_ofNat_of_zero_le m0
    subst hk
    simp (disch := first | omega | (simp only [lnA,lnC,lnN,lnM,yO,wY]; omega)) only [↓yo,↓yb,↓ye,↓yh,↓yf]
    exact fin a6 (by omega)
   ·intro z hz
    rcases List.mem_or_eq_of_mem_set hz with hz | hz
    ·exact hp z hz
    ·rw [hz]; exact hy
  ·refine yP (Gq hb a2 60) fun v c5 a5 ⟨o,e⟩ => ?_
   subst e
   simp (disch := first | omega | (simp only [lnA,lnC,lnN,lnM,yO,wY]; omega)) only [↓yo,↓yb,↓ye,↓xI,↓yh,↓yf]
   refine yZ (fun _ => ?_) fun _ => yQ a5 ⟨p,rfl,hp,.inl hl⟩
   refine yP (yX hb a5 _) fun v c6 a6 ⟨m,e,m0,m1⟩ => ?_
   subst e
   have := m1 (by omega)
   obtain ⟨k,hk⟩ := Int.eq_ofNat_of_zero_le m0
   subst hk
   simp (disch := first | omega | (simp only [lnA,lnC,lnN,lnM,yO,wY]; omega)) only [↓yo,↓yb,↓ye,↓yh,↓yf]
   exact fin a6 (by omega)
 ·refine yP (Gq hb a1 60) fun v c5 a5 ⟨o,e⟩ => ?_
  subst e
  simp (disch := first | omega | (simp only [lnA,lnC,lnN,lnM,yO,wY]; omega)) only [↓yo,↓yb,↓ye,↓xI,↓yh,↓yf]
  refine yZ (fun _ => ?_) fun _ => yQ a5 ⟨p,rfl,hp,.inl hl⟩
  refine yP (yX hb a5 _) fun v c6 a6 ⟨m,e,m0,m1⟩ => ?_
  subst e
  have := m1 (by omega)
  obtain ⟨k,hk⟩ := Int.eq_ofNat_of_zero_le m0
  subst hk
  simp (disch := first | omega | (simp only [lnA,lnC,lnN,lnM,yO,wY]; omega)) only [↓yo,↓yb,↓ye,↓yh,↓yf]
  exact fin a6 (by omega)
theorem LZ (hb : b.length < 4611686018427387904) (h : zr b c) {p : List Nd} (hp : p.length <= 4000) : Bz b (fun v => ∃ m : Int,v = iN m /\ -1 <= m /\ m <= 4000) (V 91 [eC b c,eP p]) := by
 have pk : ∀ {c : Int × Int},zr b c -> Bz b (fun v => ∃ m : Int,v = iN m /\ m ∈ [-1,0,(p.length : Int)]) (V 122 [eC b c,.rs (1,0) [iN (-1),iN 0,iN (p.length : Int)]]) := fun h => Gr hb h [-1,0,(p.length : Int)] (by simp)
 have fin : ∀ {m : Int},m ∈ [-1,0,(p.length : Int)] -> -1 <= m /\ m <= 4000 := by
  intro m hm
  simp only [List.mem_cons,List.not_mem_nil,or_false] at hm
  omega
 rw [Ml,lnM]
 refine yZ (fun _ => ?_) fun h0 => ?_
 ·refine yP (pk h) fun v c1 a1 ⟨m,e,hm⟩ => ?_
  subst e
  simp (disch := first | omega | (simp only [lnA,lnC,lnN,lnM,yO,wY]; omega)) only [↓yo,↓yb,↓ye,↓yh,↓yf]
  exact yQ a1 ⟨m,rfl,fin hm⟩
 refine yP (Gq hb h 20) fun v c1 a1 ⟨o,e⟩ => ?_
 subst e
 simp (disch := first | omega | (simp only [lnA,lnC,lnN,lnM,yO,wY]; omega)) only [↓yo,↓yb,↓ye,↓xI,↓yh,↓yf]
 refine yZ (fun _ => ?_) fun _ => ?_
 ·refine yP (pk a1) fun v c1 a1 ⟨m,e,hm⟩ => ?_
  subst e
  simp (disch := first | omega | (simp only [lnA,lnC,lnN,lnM,yO,wY]; omega)) only [↓yo,↓yb,↓ye,↓yh,↓yf]
  exact yQ a1 ⟨m,rfl,fin hm⟩
 refine JQ (QT _ _) ?_
 simp (disch := first | omega | (simp only [lnA,lnC,lnN,lnM,yO,wY]; omega)) only [↓yo,↓ye]
 refine yP (yX hb a1 _) fun v c2 a2 ⟨m,e,m0,m1⟩ => ?_
 subst e
 simp (disch := first | omega | (simp only [lnA,lnC,lnN,lnM,yO,wY]; omega)) only [↓yo,↓yb,↓ye,↓yh,↓yf]
 have hne : p.length ≠ 0 := by
  intro e
  rw [e] at h0
  exact absurd h0 (by decide)
 have hmn : m < mnI (ni p.length) 9 := m1 (by unfold mnI; simp only [ni]; split <;> omega)
 have hm9 : m < p.length /\ m < 9 := by
  unfold mnI at hmn
  simp only [ni] at hmn
  split at hmn <;> omega
 rw [w64 (n := ni p.length - 1) (by simp only [ni]; omega) (by simp only [ni]; omega),w64 (by simp only [ni]; omega) (by simp only [ni]; omega)]
 exact yQ a2 ⟨_,rfl,by simp only [ni]; omega,by simp only [ni]; omega⟩
end
theorem Ic {p : List Nd} (h : p.length <= 15 \/ (p.length <= 3001 /\ ∀ x ∈ p,x.kind = 1)) : p.length <= 3001 := by omega
end
end Go.Eng
/-! draws of programs: their texts -/
namespace Go.Eng
noncomputable section
open Go.Proofs Go.Proofs.Tryz
set_option maxHeartbeats 4000000
set_option maxRecDepth 10000

theorem zf (a b : ByteArray) : (a ++ b).size = a.size + b.size := ByteArray.size_append
theorem AM (a : Array UInt8) : ByteArray.size ⟨a⟩ = a.size := rfl
def Hd (s : ByteArray) : Prop := ∃ (x : UInt8) (r : List UInt8),s.data.toList = x :: r /\ x ≠ 32
theorem GR {a : ByteArray} (h : Hd a) (b : ByteArray) : Hd (a ++ b) := by
 obtain ⟨x,r,h1,h2⟩ := h
 exact ⟨x,r ++ b.data.toList,by simp [h1],h2⟩
theorem DV (x : UInt8) (r : List UInt8) (h : x ≠ 32) : Hd ⟨(x :: r).toArray⟩ := ⟨x,r,by simp,h⟩
def Vz (n : Nat) (v : D) : Prop := ∃ s : ByteArray,v = .str s /\ s.size <= n /\ Hd s
def SzE : Nat -> Nat
 | 0 => 9
 | d + 1 => 3 * SzE d + 30
section
variable {b : List Int}
theorem XN (hb : b.length < 4611686018427387904) {c : Int × Int} (h : zr b c) : Bz b (Vz 9) (V 75 [eC b c,.rs (1,0) [(.str ({ data := #[49] })),(.str ({ data := #[120] })),(.str ({ data := #[121] })),(.str ({ data := #[45,50] })),(.str ({ data := #[35,116] })),(.str ({ data := #[40,41] })),(.str ({ data := #[102] })),(.str ({ data := #[40,113,117,111,116,101,32,97,41] })),(.str ({ data := #[48] }))]]) := by
 refine Kr (Fc hb h [⟨#[49]⟩,⟨#[120]⟩,⟨#[121]⟩,⟨#[45,50]⟩,⟨#[35,116]⟩,⟨#[40,41]⟩,⟨#[102]⟩,⟨#[40,113,117,111,116,101,32,97,41]⟩,⟨#[48]⟩] (by simp)) ?_
 rintro v ⟨m,rfl,hm⟩
 refine ⟨m,rfl,?_⟩
 simp only [List.mem_cons,List.not_mem_nil,or_false] at hm
 rcases hm with rfl | rfl | rfl | rfl | rfl | rfl | rfl | rfl | rfl <;> exact ⟨by decide,DV _ _ (by decide)⟩
theorem XO (hb : b.length < 4611686018427387904) {c : Int × Int} (h : zr b c) : Bz b (Vz 4) (V 75 [eC b c,.rs (1,0) [(.str ({ data := #[43] })),(.str ({ data := #[45] })),(.str ({ data := #[42] })),(.str ({ data := #[60] })),(.str ({ data := #[61] })),(.str ({ data := #[99,111,110,115] })),(.str ({ data := #[101,113,63] }))]]) := by
 refine Kr (Fc hb h [⟨#[43]⟩,⟨#[45]⟩,⟨#[42]⟩,⟨#[60]⟩,⟨#[61]⟩,⟨#[99,111,110,115]⟩,⟨#[101,113,63]⟩] (by simp)) ?_
 rintro v ⟨m,rfl,hm⟩
 refine ⟨m,rfl,?_⟩
 simp only [List.mem_cons,List.not_mem_nil,or_false] at hm
 rcases hm with rfl | rfl | rfl | rfl | rfl | rfl | rfl <;> exact ⟨by decide,DV _ _ (by decide)⟩
theorem XP (hb : b.length < 4611686018427387904) {c : Int × Int} (h : zr b c) : Bz b (Vz 6) (V 75 [eC b c,.rs (1,0) [(.str ({ data := #[99,97,114] })),(.str ({ data := #[99,100,114] })),(.str ({ data := #[110,117,108,108,63] })),(.str ({ data := #[112,97,105,114,63] })),(.str ({ data := #[110,111,116] })),(.str ({ data := #[99,97,108,108,99,99] }))]]) := by
 refine Kr (Fc hb h [⟨#[99,97,114]⟩,⟨#[99,100,114]⟩,⟨#[110,117,108,108,63]⟩,⟨#[112,97,105,114,63]⟩,⟨#[110,111,116]⟩,⟨#[99,97,108,108,99,99]⟩] (by simp)) ?_
 rintro v ⟨m,rfl,hm⟩
 refine ⟨m,rfl,?_⟩
 simp only [List.mem_cons,List.not_mem_nil,or_false] at hm
 rcases hm with rfl | rfl | rfl | rfl | rfl | rfl <;> exact ⟨by decide,DV _ _ (by decide)⟩
theorem Xq : ∀ d,d <= 3 -> SzE d <= 633 := by decide
theorem Xh : ∀ d,9 <= SzE d
 | 0 => Nat.le_refl _
 | d + 1 => by have := Xh d; unfold SzE; omega
theorem VE : ∀ d,SzE (d - 1) <= SzE d
 | 0 => Nat.le_refl _
 | d + 1 => by simp only [Nat.add_sub_cancel]; rw [show SzE (d + 1) = 3 * SzE d + 30 from rfl]; omega
theorem PE (hb : b.length < 4611686018427387904) : ∀ (k : Nat) (n : Int),n <= k -> -5 <= n -> k <= 3 -> ∀ c,zr b c -> Bz b (Vz (SzE n.toNat)) (V 214 [eC b c,iN n])
 | k,n,hk,hn,h3,c,hc => by
  rw [KG]
  by_cases h0 : n <= 0
  ·rw [xK (decide_eq_true h0)]
   refine yP (XN hb hc) fun v c1 a1 ⟨s,e,hs,hh⟩ => ?_
   subst e
   simp (disch := first | omega | (simp only [lnA,lnC,lnN,lnM,yO,wY]; omega)) only [↓yo,↓yb,↓ye,↓yi,↓yh,↓yf]
   exact yQ a1 ⟨s,rfl,by have := Xh n.toNat; omega,hh⟩
  ·rw [xb (decide_eq_false h0)]
   obtain ⟨k,rfl⟩ : ∃ j,k = j + 1 := ⟨k - 1,by omega⟩
   have w1 : w6 (n - 1) = n - 1 := w64 (by omega) (by omega)
   have w2 : w6 (n - 2) = n - 2 := w64 (by omega) (by omega)
   obtain ⟨d,hd⟩ : ∃ d,n.toNat = d + 1 := ⟨n.toNat - 1,by omega⟩
   have e1 : (n - 1).toNat = d := by omega
   have e2 : (n - 2).toNat = d - 1 := by omega
   have hz : SzE n.toNat = 3 * SzE d + 30 := by rw [hd]; rfl
   have hp := VE d
   have hm := Xq d (by omega)
   have i1 := fun c a => PE hb k (n - 1) (by omega) (by omega) (by omega) c a
   have i2 := fun c a => PE hb k (n - 2) (by omega) (by omega) (by omega) c a
   rw [e1] at i1
   rw [e2] at i2
   rw [w1,w2,hz]
   refine yP (i1 c hc) fun v c1 a1 ⟨s,e,hs,hh⟩ => ?_
   subst e
   simp (disch := first | omega | (simp only [lnA,lnC,lnN,lnM,yO,wY]; omega)) only [↓yo,↓yb,↓ye,↓yi,↓yh,↓yf]
   refine yP (i1 c1 a1) fun v c2 a2 ⟨t,e,ht,hh2⟩ => ?_
   subst e
   simp (disch := first | omega | (simp only [lnA,lnC,lnN,lnM,yO,wY]; omega)) only [↓yo,↓yb,↓ye,↓yi,↓yh,↓yf]
   refine yP (yX hb a2 _) fun v c3 a3 ⟨m,e,m0,m1⟩ => ?_
   subst e
   simp (disch := first | omega | (simp only [lnA,lnC,lnN,lnM,yO,wY]; omega)) only [↓yo,↓yb,↓ye,↓yh,↓yf]
   refine yZ (fun _ => ?_) fun _ => yZ (fun _ => ?_) fun _ => yZ (fun _ => ?_) fun _ => yZ (fun _ => ?_) fun _ => yZ (fun _ => ?_) fun _ => yZ (fun _ => ?_) fun _ => yZ (fun _ => ?_) fun _ => yZ (fun _ => ?_) fun _ => ?_
   ·repeat refine Aq (decide_eq_true (by rw [pE]; simp only [ni,zf,AM,List.size_toArray,lnC,lnN]; omega)) ?_
    refine yP (i2 c3 a3) fun v c4 a4 ⟨u,e,hu,hh3⟩ => ?_
    subst e
    simp (disch := first | omega | (simp only [lnA,lnC,lnN,lnM,yO,wY]; omega)) only [↓yo,↓yb,↓ye,↓yi,↓yh,↓yf]
    repeat refine Aq (decide_eq_true (by rw [pE]; simp only [ni,zf,AM,List.size_toArray,lnC,lnN]; omega)) ?_
    exact yQ a4 ⟨_,rfl,by simp only [zf,AM,List.size_toArray,lnC,lnN]; omega,by repeat (first | exact DV _ _ (by decide) | refine GR ?_ _)⟩
   ·repeat refine Aq (decide_eq_true (by rw [pE]; simp only [ni,zf,AM,List.size_toArray,lnC,lnN]; omega)) ?_
    exact yQ a3 ⟨_,rfl,by simp only [zf,AM,List.size_toArray,lnC,lnN]; omega,by repeat (first | exact DV _ _ (by decide) | refine GR ?_ _)⟩
   ·repeat refine Aq (decide_eq_true (by rw [pE]; simp only [ni,zf,AM,List.size_toArray,lnC,lnN]; omega)) ?_
    exact yQ a3 ⟨_,rfl,by simp only [zf,AM,List.size_toArray,lnC,lnN]; omega,by repeat (first | exact DV _ _ (by decide) | refine GR ?_ _)⟩
   ·repeat refine Aq (decide_eq_true (by rw [pE]; simp only [ni,zf,AM,List.size_toArray,lnC,lnN]; omega)) ?_
    exact yQ a3 ⟨_,rfl,by simp only [zf,AM,List.size_toArray,lnC,lnN]; omega,by repeat (first | exact DV _ _ (by decide) | refine GR ?_ _)⟩
   ·repeat refine Aq (decide_eq_true (by rw [pE]; simp only [ni,zf,AM,List.size_toArray,lnC,lnN]; omega)) ?_
    exact yQ a3 ⟨_,rfl,by simp only [zf,AM,List.size_toArray,lnC,lnN]; omega,by repeat (first | exact DV _ _ (by decide) | refine GR ?_ _)⟩
   ·repeat refine Aq (decide_eq_true (by rw [pE]; simp only [ni,zf,AM,List.size_toArray,lnC,lnN]; omega)) ?_
    exact yQ a3 ⟨_,rfl,by simp only [zf,AM,List.size_toArray,lnC,lnN]; omega,by repeat (first | exact DV _ _ (by decide) | refine GR ?_ _)⟩
   ·refine yP (XO hb a3) fun v c4 a4 ⟨u,e,hu,hh3⟩ => ?_
    subst e
    simp (disch := first | omega | (simp only [lnA,lnC,lnN,lnM,yO,wY]; omega)) only [↓yo,↓yb,↓ye,↓yi,↓yh,↓yf]
    repeat refine Aq (decide_eq_true (by rw [pE]; simp only [ni,zf,AM,List.size_toArray,lnC,lnN]; omega)) ?_
    exact yQ a4 ⟨_,rfl,by simp only [zf,AM,List.size_toArray,lnC,lnN]; omega,by repeat (first | exact DV _ _ (by decide) | refine GR ?_ _)⟩
   ·refine yP (XP hb a3) fun v c4 a4 ⟨u,e,hu,hh3⟩ => ?_
    subst e
    simp (disch := first | omega | (simp only [lnA,lnC,lnN,lnM,yO,wY]; omega)) only [↓yo,↓yb,↓ye,↓yi,↓yh,↓yf]
    repeat refine Aq (decide_eq_true (by rw [pE]; simp only [ni,zf,AM,List.size_toArray,lnC,lnN]; omega)) ?_
    exact yQ a4 ⟨_,rfl,by simp only [zf,AM,List.size_toArray,lnC,lnN]; omega,by repeat (first | exact DV _ _ (by decide) | refine GR ?_ _)⟩
   ·exact yQ a3 ⟨s,rfl,by omega,hh⟩
def texts : List ByteArray := [(⟨#[40,100,101,102,105,110,101,32,40,102,32,110,41,32,40,105,102,32,40,60,32,110,32,50,41,32,110,32,40,43,32,40,102,32,40,45,32,110,32,49,41,41,32,40,102,32,40,45,32,110,32,50,41,41,41,41,41,32,40,102,32,54,41]⟩ : ByteArray),(⟨List.toArray (List.append [40,100,101,102,105,110,101,32,40,117,112,32,110,41,32,40,105,102,32,40,60,32,110,32,51,41,32,40,100,111,32,40] [112,114,105,110,116,32,110,41,32,40,117,112,32,40,43,32,110,32,49,41,41,41,32,110,41,41,32,40,117,112,32,48,41])⟩ : ByteArray),(⟨#[40,108,101,116,32,120,32,53,32,40,108,101,116,32,102,32,40,102,110,32,40,121,41,32,40,43,32,120,32,121,41,41,32,40,112,114,105,110,116,32,40,102,32,52,41,41,41,41]⟩ : ByteArray),(⟨#[40,112,114,105,110,116,32,40,99,97,108,108,99,99,32,40,102,110,32,40,107,41,32,40,100,111,32,40,107,32,55,41,32,56,41,41,41,41]⟩ : ByteArray),(⟨List.toArray (List.append [40,100,101,102,105,110,101,32,40,109,97,112,32,102,32,108,41,32,40,105,102,32,40,110,117,108,108,63,32,108,41,32,40,41,32,40,99,111,110,115,32,40,102,32,40,99,97,114,32,108,41,41,32,40,109,97,112,32,102] [32,40,99,100,114,32,108,41,41,41,41,41,32,40,112,114,105,110,116,32,40,109,97,112,32,40,102,110,32,40,120,41,32,40,42,32,120,32,120,41,41,32,40,113,117,111,116,101,32,40,49,32,50,32,51,41,41,41,41])⟩ : ByteArray),(⟨#[40,100,111,32,40,115,112,97,119,110,32,40,102,110,32,40,41,32,40,100,111,32,40,112,114,105,110,116,32,49,41,32,40,112,114,105,110,116,32,50,41,41,41,41,32,40,112,114,105,110,116,32,51,41,41]⟩ : ByteArray),(⟨List.toArray (List.append [40,108,101,116,32,112,32,40,115,112,97,119,110,32,40,102,110,32,40,41,32,40,112,114,105,110,116,32,40,114,101,99,118,41] [41,41,41,32,40,100,111,32,40,115,101,110,100,32,112,32,40,113,117,111,116,101,32,40,97,32,98,41,41,41,32,48,41,41])⟩ : ByteArray),(⟨List.toArray (List.append [40,108,101,116,32,112,32,40,115,112,97,119,110,32,40,102,110,32,40,41,32,40,108,101,116,32,102,32,40,114,101,99,118,41,32,40,112,114,105,110,116,32,40,102] [32,53,41,41,41,41,41,32,40,108,101,116,32,122,32,57,32,40,115,101,110,100,32,112,32,40,102,110,32,40,120,41,32,40,43,32,120,32,122,41,41,41,41,41])⟩ : ByteArray),(⟨#[40,100,111,32,40,112,114,105,110,116,32,49,41,32,40,103,111,32,49,41,32,40,112,114,105,110,116,32,50,41,32,40,103,111,32,48,41,32,40,112,114,105,110,116,32,51,41,41]⟩ : ByteArray),(⟨List.toArray (List.append [40,108,101,116,32,109,101,32,40,115,101,108,102,41,32,40,100,111,32,40,115,112,97,119,110,32,40,102,110,32,40,41,32,40,100,111,32,40] [103,111,32,49,41,32,40,115,101,110,100,32,109,101,32,52,50,41,41,41,41,32,40,112,114,105,110,116,32,40,114,101,99,118,41,41,41,41])⟩ : ByteArray),(⟨List.toArray (List.append [40,100,101,102,105,110,101,32,40,108,111,111,112,32,110,41,32,40,105,102,32,40,61,32,110,32,48,41,32,40,112,114,105,110,116,32,40] [113,117,111,116,101,32,101,110,100,41,41,32,40,108,111,111,112,32,40,45,32,110,32,49,41,41,41,41,32,40,108,111,111,112,32,57,41])⟩ : ByteArray),(⟨#[40,112,114,105,110,116,32,40,99,97,114,32,40,113,117,111,116,101,32,40,41,41,41,41]⟩ : ByteArray),(⟨#[40,112,114,105,110,116,32,40,102,32,49,41,41]⟩ : ByteArray),(⟨#[40,43,32,49,32,35,116,41]⟩ : ByteArray),(⟨#[40,112,114,105,110,116,32,40,99,111,110,115,32,49,32,40,99,111,110,115,32,50,32,40,41,41,41,41]⟩ : ByteArray),(⟨List.toArray (List.append (List.append [40,100,101,102,105,110,101,32,40,112,105,110,103,32,112,32,110,41,32,40,105,102,32,40,60,32,110,32,49,41,32,48,32,40,100,111,32,40,115,101,110,100,32,112,32] [110,41,32,40,112,114,105,110,116,32,40,114,101,99,118,41,41,32,40,112,105,110,103,32,112,32,40,45,32,110,32,49,41,41,41,41,41,32,40,108,101,116,32,109,101,32]) (List.append [40,115,101,108,102,41,32,40,112,105,110,103,32,40,115,112,97,119,110,32,40,102,110,32,40,41,32,40,100,111,32,40,103,111,32,49,41,32,40,115,101,110,100,32,109,101] [32,40,43,32,49,48,32,40,114,101,99,118,41,41,41,32,40,115,101,110,100,32,109,101,32,40,43,32,49,48,32,40,114,101,99,118,41,41,41,41,41,41,32,50,41,41]))⟩ : ByteArray),(⟨List.toArray (List.append [40,108,101,116,32,107,32,40,99,97,108,108,99,99,32,40,102,110,32,40,99,41,32,99,41,41,32,40,105,102,32,40,112,97,105,114,63] [32,107,41,32,40,112,114,105,110,116,32,40,99,97,114,32,107,41,41,32,40,107,32,40,113,117,111,116,101,32,40,53,41,41,41,41,41])⟩ : ByteArray),(⟨List.toArray (List.append [40,108,101,116,32,112,32,40,115,112,97,119,110,32,40,102,110,32,40,41,32,40,100,111,32,40,103,111,32,49,41,32,40,108,101,116,32,107,32,40,114,101,99,118,41,32,40,107,32,56] [41,41,41,41,41,32,40,112,114,105,110,116,32,40,99,97,108,108,99,99,32,40,102,110,32,40,107,41,32,40,100,111,32,40,115,101,110,100,32,112,32,107,41,32,51,41,41,41,41,41])⟩ : ByteArray)]
theorem Wj : ∀ s ∈ texts,s.size <= 633 /\ Hd s := by
 intro s hs
 simp only [texts,List.mem_cons,List.not_mem_nil,or_false] at hs
 rcases hs with rfl | rfl | rfl | rfl | rfl | rfl | rfl | rfl | rfl | rfl | rfl | rfl | rfl | rfl | rfl | rfl | rfl | rfl <;> exact ⟨by decide,⟨40,_,rfl,by decide⟩⟩
theorem WL (hb : b.length < 4611686018427387904) {c : Int × Int} (h : zr b c) : Bz b (Vz 633) (V 192 [eC b c]) := by
 have ht : V 213 [] = some (.os (1,0) (texts.map D.str),[]) := Oi
 rw [IW]
 refine yP (Gq hb h 4) fun v c1 a1 ⟨o,e⟩ => ?_
 subst e
 simp (disch := first | omega | (simp only [lnA,lnC,lnN,lnM,yO,wY]; omega)) only [↓yo,↓yb,↓ye,↓xI,↓yh,↓yf]
 refine yZ (fun _ => ?_) fun _ => ?_
 ·refine JQ ht ?_
  simp (disch := first | omega | (simp only [lnA,lnC,lnN,lnM,yO,wY]; omega)) only [↓yo,↓yg]
  refine yP (Fc hb a1 texts (by decide)) fun v c2 a2 ⟨m,e,hm⟩ => ?_
  subst e
  simp (disch := first | omega | (simp only [lnA,lnC,lnN,lnM,yO,wY]; omega)) only [↓yo,↓yb,↓ye,↓yi,↓yh,↓yf]
  exact yQ a2 ⟨m,rfl,Wj m hm⟩
 ·refine yP (PE hb 3 3 (by omega) (by omega) (by omega) c1 a1) fun v c2 a2 ⟨m,e,hm⟩ => ?_
  subst e
  simp (disch := first | omega | (simp only [lnA,lnC,lnN,lnM,yO,wY]; omega)) only [↓yo,↓yb,↓ye,↓yi,↓yh,↓yf]
  exact yQ a2 ⟨m,rfl,hm⟩
end
end
end Go.Eng
/-! draws of code -/
namespace Go.Eng
noncomputable section
open Go.Proofs Go.Proofs.Tryz
set_option maxHeartbeats 4000000
set_option maxRecDepth 10000

theorem DD {l : List UInt8} : ∀ (k i : Nat) (o : List RwF) (t : RwF) (q q' : List Nd) (row : List Int),(o ≠ [] \/ t.2 ≠ []) -> Ba l k i o t q = .ok q' row -> row ≠ []
 | 0,i,o,t,q,q',row,h,e => by rw [Ba] at e; cases e
 | k + 1,i,o,t,q,q',row,h,e => by
  rw [Gh] at e
  cases hx : l[i]? with
  | none =>
   rw [hx,J6] at e
   split at e
   ·rename_i ho
    cases e
    rcases h with h | h
    ·exact absurd ho h
    ·exact h
   ·cases e
  | some x =>
   rw [hx,IG] at e
   split at e
   ·exact DD k _ _ _ _ _ _ h e
   split at e
   ·exact DD k _ _ _ _ _ _ (.inl (by simp)) e
   split at e
   ·split at e
    ·cases e
    ·exact DD k _ _ _ _ _ _ (.inr (by simp)) e
   split at e
   ·split at e
    ·cases e
    ·exact DD k _ _ _ _ _ _ (.inr (by simp)) e
   ·cases e
theorem D7 {l : List UInt8} : ∀ (k i : Nat) (o : List RwF) (t : RwF) (q : List Nd) (c a : Int),Ba l k i o t q = .err c a -> c ≠ 0
 | 0,i,o,t,q,c,a,e => by rw [Ba] at e; cases e; decide
 | k + 1,i,o,t,q,c,a,e => by
  rw [Gh] at e
  cases hx : l[i]? with
  | none =>
   rw [hx,J6] at e
   split at e
   ·cases e
   ·cases e; decide
  | some x =>
   rw [hx,IG] at e
   split at e
   ·exact D7 k _ _ _ _ _ _ e
   split at e
   ·exact D7 k _ _ _ _ _ _ e
   split at e
   ·split at e
    ·cases e; decide
    ·exact D7 k _ _ _ _ _ _ e
   split at e
   ·split at e
    ·cases e; decide
    ·exact D7 k _ _ _ _ _ _ e
   ·cases e; decide
theorem D8 {l : List UInt8} : ∀ (k i : Nat) (o : List RwF) (t : RwF) (q : List Nd),i <= l.length -> ∀ q' row,Ba l k i o t q = .ok q' row -> q'.length + row.length <= phi o t q + 2 * (l.length - i)
 | 0,i,o,t,q,_,q',row,h => by rw [Ba] at h; cases h
 | k + 1,i,o,t,q,h2,q',row,h => by
  have hph : phi o t q = q.length + t.2.length + (o.map fun x => x.2.length).sum := rfl
  rw [Gh] at h
  by_cases hi : i = l.length
  ·have hx : l[i]? = none := List.getElem?_eq_none (by omega)
   rw [hx,J6] at h
   by_cases ho : o = []
   ·rw [if_pos ho] at h
    cases h
    omega
   ·rw [if_neg ho] at h; cases h
  obtain ⟨x,hx⟩ := xx (l := l) (i := i) (by omega)
  rw [hx,IG] at h
  by_cases h32 : x = 32
  ·rw [if_pos h32] at h
   have := D8 k (i + 1) o t q (by omega) q' row h
   omega
  rw [if_neg h32] at h
  by_cases h40 : x = 40
  ·rw [if_pos h40] at h
   have := D8 k (i + 1) (t :: o) ((i : Int),[]) q (by omega) q' row h
   simp only [phi,List.map_cons,List.sum_cons,lnN] at this
   omega
  rw [if_neg h40] at h
  by_cases h41 : x = 41
  ·rw [if_pos h41] at h
   cases o with
   | nil => cases h
   | cons u o =>
    simp only [List.map_cons,List.sum_cons] at hph
    have := D8 k (i + 1) o (u.1,u.2 ++ [((yV q t.2).2 : Int)]) (yV q t.2).1 (by omega) q' row h
    simp only [phi,DC,lnA,lnC,lnN] at this
    omega
  rw [if_neg h41] at h
  by_cases hw : GG x = true
  ·rw [if_pos hw] at h
   have hwe := Iz hx hw
   have hwl := QV (l := l) (j := i + 1) (by omega)
   cases hwd : Dr ((l.drop i).take (Dc l i - i)) with
   | none => rw [hwd] at h; cases h
   | some nd =>
    rw [hwd] at h
    have := D8 k (Dc l i) o (t.1,t.2 ++ [(q.length : Int)]) (q ++ [nd]) (by omega) q' row h
    simp only [phi,lnA,lnC,lnN] at this
    omega
  ·rw [if_neg hw] at h; cases h
theorem SB {p : List Nd} {s : ByteArray} (hs : Hd s) (h : (Bu p s.data.toList).2.2.1 = 0) : (Bu p s.data.toList).2.1 ≠ [] := by
 obtain ⟨x,r,hl,hx⟩ := hs
 unfold Bu at h ⊢
 split at h
 ·simp at h
 split at h
 ·simp at h
 rename_i h1 h2
 rw [if_neg h1,if_neg h2]
 generalize hg : Ba s.data.toList (s.data.toList.length + 1) 0 [] (0,[]) p = g at h ⊢
 cases g with
 | err c a =>
  simp only [Vo] at h
  exact absurd h (D7 _ _ _ _ _ _ _ hg)
 | ok q row =>
  simp only [Vo] at h ⊢
  split at h
  ·rename_i hq
   rw [if_pos hq]
   rw [Gh,hl] at hg
   simp only [List.getElem?_cons_zero] at hg
   rw [IG,if_neg hx] at hg
   split at hg
   ·exact DD _ _ _ _ _ _ _ (.inl (by simp)) hg
   split at hg
   ·cases hg
   split at hg
   ·split at hg
    ·cases hg
    ·exact DD _ _ _ _ _ _ _ (.inr (by simp)) hg
   ·cases hg
  ·simp at h
structure RightC (x : Cd) : Prop where
 ok : zw x = true
 ne : 0 < x.list.length
 fits : FitsC x
theorem OU {p : List Nd} (hf : Ac p) {n : Int} : ∀ (xs : List Int) (i : Int) (m : Ms) {x : Cd} {j : Int},DP p n xs i m = (x,0,j) -> m.list.length <= 400 -> Te m -> m.how = 0 -> (0 < m.list.length \/ xs ≠ []) -> RightC x
 | [],i,m,x,j,e,hm,hs,h0,hne => by
  unfold DP at e
  split at e
  ·rename_i hok
   cases e
   obtain ⟨c1,c2,c3⟩ := zn hok
   have := zh c1
   exact ⟨hok,by rcases hne with h | h; exact h; exact absurd rfl h,⟨hf,by omega,hs.1,by omega,hs.2,by omega⟩⟩
  ·cases e
 | y :: r,i,m,x,j,e,hm,hs,h0,hne => by
  unfold DP at e
  simp only at e
  have le := Wo (p := p) (v := y) hm
  split at e
  ·cases e
  split at e
  ·rename_i h; have := congrArg (fun r => r.2.1) e; exact absurd this h
  ·rename_i h
   have h : (NC p y m).how = 0 := by omega
   exact OU hf r (i + 1) _ e le.four (UM hf hm hs) h (.inl (by have := le.grew h; omega))
theorem Q8 {p : List Nd} (hf : Ac p) {xs : List Int} (hne : xs ≠ []) (h : (JH p xs).2.1 = 0) : RightC (JH p xs).1 := by
 unfold JH at h ⊢
 split at h
 ·rename_i hh
  rw [if_pos hh]
  generalize hg : DP p xs.length xs 0 ⟨[],[],0⟩ = g at h ⊢
  obtain ⟨x,a,j⟩ := g
  simp only at h
  subst h
  exact OU hf xs 0 ⟨[],[],0⟩ hg (by simp) ⟨fun x h => by simp at h,fun x h => by simp at h⟩ rfl (.inr hne)
 ·simp at h
def lastS : ByteArray := ⟨#[40,112,114,105,110,116,32,49,41]⟩
theorem WT : (Bu [] lastS.data.toList).2.2.1 = 0 /\ (JH (Bu [] lastS.data.toList).1 (Bu [] lastS.data.toList).2.1).2.1 = 0 := by decide +kernel
theorem DU : Ac [] := fun x h => by simp at h
theorem Pi (l : List UInt8) : Ac (Bu [] l).1 /\ (Bu [] l).1.length <= 800 /\ (Bu [] l).2.1.length <= 800 := by
 unfold Bu
 rw [if_neg (by decide)]
 by_cases h4 : 400 < l.length
 ·rw [if_pos h4]; exact ⟨DU,by simp,by simp⟩
 rw [if_neg h4]
 unfold Vo
 cases hr : Ba l (l.length + 1) 0 [] (0,[]) [] with
 | err c a => exact ⟨DU,by simp,by simp⟩
 | ok q row =>
  have h1 := Gi (l := l) (by omega) (l.length + 1) 0 [] (0,[]) [] (by omega) (by simp only [phi,List.map_nil,List.sum_nil,lnN]; omega) DU q row hr
  have h2 := D8 (l := l) (l.length + 1) 0 [] (0,[]) [] (by omega) q row hr
  simp only [phi,List.map_nil,List.sum_nil,lnN] at h2
  simp only
  split
  ·exact ⟨h1.1,by simp only; omega,by simp only; omega⟩
  ·exact ⟨DU,by simp,by simp⟩
def XJ (v : D) : Prop := ∃ x : Cd,v = oCd x /\ RightC x
section
variable {b : List Int}
theorem Vi (s : ByteArray) : ∃ R C,V 191 [.agg [.rs (5,0) []],.str s] = QM R /\ V 193 [eP R.1,.rs (1,0) (R.2.1.map eI)] = OT C /\ (Hd s -> R.2.2.1 = 0 -> C.2.1 = 0 -> RightC C.1) := by
 have h1 : V 191 [.agg [.rs (5,0) []],.str (mk s.data.toList)] = _ := Ln DU (by simp) s.data.toList
 rw [RN] at h1
 obtain ⟨r1,r2,r3⟩ := Pi s.data.toList
 exact ⟨Bu [] s.data.toList,JH (Bu [] s.data.toList).1 (Bu [] s.data.toList).2.1,h1,Iw r1 (by omega) (by omega),fun hh h h' => Q8 r1 (SB hh h) h'⟩
theorem WS : ∃ s : ByteArray,s = ⟨#[40,112,114,105,110,116,32,49,41]⟩ /\ Hd s /\ (Bu [] s.data.toList).2.2.1 = 0 /\ (JH (Bu [] s.data.toList).1 (Bu [] s.data.toList).2.1).2.1 = 0 := ⟨lastS,rfl,⟨40,_,rfl,by decide⟩,WT⟩
theorem Vj : ∃ R C,V 191 [.agg [.rs (5,0) []],.str ⟨#[40,112,114,105,110,116,32,49,41]⟩] = QM R /\ V 193 [eP R.1,.rs (1,0) (R.2.1.map eI)] = OT C /\ RightC C.1 := by
 obtain ⟨s,hs,hh,l1,l2⟩ := WS
 rw [<- hs]
 have h1 : V 191 [.agg [.rs (5,0) []],.str (mk s.data.toList)] = _ := Ln DU (by simp) s.data.toList
 rw [RN] at h1
 obtain ⟨r1,r2,r3⟩ := Pi s.data.toList
 exact ⟨Bu [] s.data.toList,JH (Bu [] s.data.toList).1 (Bu [] s.data.toList).2.1,h1,Iw r1 (by omega) (by omega),Q8 r1 (SB hh l1) l2⟩
theorem I9 (hb : b.length < 4611686018427387904) : ∀ (k i : Nat) (c : Int × Int),i + k = 4 -> zr b c -> Bz b XJ (zK (i : Int) (b.map eB) c.1 c.2)
 | 0,i,c,hi,hc => by
  obtain ⟨R,C,h1,h2,hok⟩ := Vj
  rw [B9,xb (decide_eq_false (by omega)),Pd h1,JY h2]
  exact yQ hc ⟨C.1,rfl,hok⟩
 | k + 1,i,c,hi,hc => by
  rw [B9,xK (decide_eq_true (by omega))]
  refine yP (WL hb hc) fun v c1 a1 ⟨s,e,hs,hh⟩ => ?_
  subst e
  obtain ⟨R,C,h1,h2,hok⟩ := Vi s
  have ih := I9 hb k (i + 1) c1 (by omega) a1
  rw [yi,yb,yf,yb,yh,yb,ye,yb,ye,yo,yo]
  rw [Pd h1,JY h2]
  by_cases hr : R.2.2.1 = 0
  ·rw [xK (yF hr)]
   by_cases hc0 : C.2.1 = 0
   ·rw [xK (yF hc0)]
    exact yQ a1 ⟨C.1,rfl,hok hh hr hc0⟩
   ·rw [xb (yE hc0),yM (by omega)]
    exact ih
  ·rw [xb (yE hr),yM (by omega)]
   exact ih
theorem Mf (hb : b.length < 4611686018427387904) {c : Int × Int} (h : zr b c) : Bz b XJ (V 142 [eC b c]) := by
 rw [JO]
 exact I9 hb 4 0 c (by omega) h
structure SomeC (x : Cd) : Prop where
 fits : FitsC x
 pool : x.pool.length <= 3001
 list : x.list.length <= 400
 defs : x.defs.length <= 21
def Ya (v : D) : Prop := ∃ x : Cd,v = oCd x /\ SomeC x
theorem Nu {x : Cd} (h : RightC x) : SomeC x := by
 obtain ⟨c1,c2,c3⟩ := zn h.ok
 have := zh c1
 exact ⟨h.fits,by omega,c2,by omega⟩
theorem J7 {x : Cd} (h : SomeC x) (k : Nat) {y : In} (hy : y.s.size < 4611686018427387904) : SomeC ⟨x.pool,x.list.set k y,x.defs⟩ := by
 obtain ⟨f,p,l,d⟩ := h
 refine ⟨⟨f.pool,f.plen,?_,by simpa using f.llen,f.defs,f.dlen⟩,p,by simpa using l,d⟩
 intro z hz
 rcases List.mem_or_eq_of_mem_set hz with hz | rfl
 ·exact f.list z hz
 ·exact hy
end
end
end Go.Eng
/-! draws of code,mostly right -/
namespace Go.Eng
open Go.Proofs Go.Proofs.Tryz
set_option maxHeartbeats 4000000

section
variable {b : List Int}
theorem UX (hb : b.length < 4611686018427387904) {c : Int × Int} (h : zr b c) : Bz b Ya (V 74 [eC b c]) := by
 rw [Qg]
 refine yP (Mf hb h) fun v c1 a1 ⟨x,e,hx⟩ => ?_
 subst e
 have hs := Nu hx
 have hne := hx.ne
 have hll := hs.list
 rw [xu,yb,yg,yb,yg,yb,yg,yo,yb,yf,yb,yh,yb,ye,yb,ye,yo,yo]
 rw [lnM]
 refine yP (yX hb a1 _) fun v c2 a2 ⟨m,e,m0,m1⟩ => ?_
 subst e
 have m1 := m1 (by simp only [ni]; omega)
 obtain ⟨y,hy⟩ := xx (l := x.list) (i := m.toNat) (by simp only [ni] at m1; omega)
 have hg : (decide (0 <= m) && decide (m < ni x.list.length)) = true := by simp only [Bool.and_eq_true,decide_eq_true_eq]; exact ⟨m0,m1⟩
 have hys := hx.fits.list y (List.mem_of_getElem? hy)
 have st : ∀ (z : In) ,List.set (x.list.map eIn) m.toNat (eIn z) = (x.list.set m.toNat z).map eIn := fun z => by rw [List.map_set]
 rw [ye,yb,yf,yb,yh,yb,ye,yb,ye,yo,yo]
 refine yP (yX hb a2 _) fun v c3 a3 ⟨n,e,n0,n1⟩ => ?_
 subst e
 rw [ye,yb,yf,yb,yh,yb,ye,yb,ye,yo,yo]
 refine yZ (fun _ => ?_) fun _ => yZ (fun _ => ?_) fun _ => yZ (fun _ => ?_) fun _ => yZ (fun _ => ?_) fun _ => yZ (fun _ => ?_) fun _ => yZ (fun _ => ?_) fun _ => ?_
 ·refine yP (yX hb a3 _) fun v c4 a4 ⟨u,e,u0,u1⟩ => ?_
  subst e
  rw [ye,yb,yf,yb,yh,yb,ye,yb,ye,yo,yo]
  refine Aq hg ?_
  rw [xW hy,xu,yA]
  exact yQ a4 ⟨⟨x.pool,x.list.set m.toNat ⟨u,y.n,y.i,y.s⟩,x.defs⟩,congrArg (fun l => D.agg [.os (5,0) (x.pool.map eN),.os (4,0) l,.os (3,0) (x.defs.map eDf)]) (st ⟨u,y.n,y.i,y.s⟩),J7 hs _ hys⟩
 ·refine yP (Gr hb a3 [-1,0,m,w6 (m + 1),ni x.list.length,w6 (ni x.list.length + 1)] (by simp)) fun v c4 a4 ⟨u,e,hu⟩ => ?_
  subst e
  rw [ye,yb,yf,yb,yh,yb,ye,yb,ye,yo,yo]
  refine Aq hg ?_
  rw [xW hy,xu,yA]
  exact yQ a4 ⟨⟨x.pool,x.list.set m.toNat ⟨y.op,u,y.i,y.s⟩,x.defs⟩,congrArg (fun l => D.agg [.os (5,0) (x.pool.map eN),.os (4,0) l,.os (3,0) (x.defs.map eDf)]) (st ⟨y.op,u,y.i,y.s⟩),J7 hs _ hys⟩
 ·refine yP (yX hb a3 _) fun v c4 a4 ⟨u,e,u0,u1⟩ => ?_
  subst e
  rw [ye,yb,yf,yb,yh,yb,ye,yb,ye,yo,yo]
  refine Aq hg ?_
  rw [xW hy,xu,yA]
  exact yQ a4 ⟨⟨x.pool,x.list.set m.toNat ⟨y.op,y.n,w6 (u - 1),y.s⟩,x.defs⟩,congrArg (fun l => D.agg [.os (5,0) (x.pool.map eN),.os (4,0) l,.os (3,0) (x.defs.map eDf)]) (st ⟨y.op,y.n,w6 (u - 1),y.s⟩),J7 hs _ hys⟩
 ·refine yP (Fc hb a3 [⟨#[]⟩,⟨#[97]⟩,⟨#[65]⟩] (by simp)) fun v c4 a4 ⟨u,e,hu⟩ => ?_
  subst e
  rw [yi,yb,yf,yb,yh,yb,ye,yb,ye,yo,yo]
  refine Aq hg ?_
  rw [xW hy,xu,yA]
  have hz : u.size < 4611686018427387904 := by
   simp only [List.mem_cons,List.not_mem_nil,or_false] at hu
   rcases hu with rfl | rfl | rfl <;> decide
  exact yQ a4 ⟨⟨x.pool,x.list.set m.toNat ⟨y.op,y.n,y.i,u⟩,x.defs⟩,congrArg (fun l => D.agg [.os (5,0) (x.pool.map eN),.os (4,0) l,.os (3,0) (x.defs.map eDf)]) (st ⟨y.op,y.n,y.i,u⟩),J7 hs _ hz⟩
 ·refine yP (Fc hb a3 [⟨#[102]⟩,⟨#[109,97,105,110]⟩,⟨#[122,122]⟩,⟨#[65]⟩] (by simp)) fun v c4 a4 ⟨u,e,hu⟩ => ?_
  subst e
  rw [yi,yb,yf,yb,yh,yb,ye,yb,ye,yo,yo]
  refine yP (yX hb a4 _) fun v c5 a5 ⟨w,e,w0,w1⟩ => ?_
  subst e
  rw [ye,yb,yf,yb,yh,yb,ye,yb,ye,yo,yo]
  refine yP (yX hb a5 _) fun v c6 a6 ⟨z,e,z0,z1⟩ => ?_
  subst e
  rw [ye,yb,yf,yb,yh,yb,ye,yb,ye,yo,yo]
  have hz : u.size < 4611686018427387904 := by
   simp only [List.mem_cons,List.not_mem_nil,or_false] at hu
   rcases hu with rfl | rfl | rfl | rfl <;> decide
  have ea : x.defs.map eDf ++ [D.agg [D.str u,iN w,iN z]] = (x.defs ++ [(⟨u,w,z⟩ : Df)]).map eDf := by simp
  obtain ⟨c1,c2,c3⟩ := zn hx.ok
  rw [ea]
  refine Aq (decide_eq_true (by rw [pE,lnM]; simp only [ni,lnA,lnC,lnN]; omega)) ?_
  obtain ⟨f,p,l,d⟩ := hs
  refine yQ a6 ⟨⟨x.pool,x.list,x.defs ++ [⟨u,w,z⟩]⟩,rfl,⟨⟨f.pool,f.plen,f.list,f.llen,?_,by simp only [lnA,lnC,lnN]; omega⟩,p,l,by simp only [lnA,lnC,lnN]; omega⟩⟩
  intro q hq
  rcases List.mem_append.1 hq with hq | hq
  ·exact f.defs q hq
  ·rw [List.mem_singleton.1 hq]; exact hz
 ·refine yP (JJ hb a3) fun v c4 a4 ⟨p,e,hp,hl⟩ => ?_
  subst e
  rw [xu,yb,yg,yo,yb,yf,yb,yh,yb,ye,yb,ye,yo,yo]
  obtain ⟨f,p',l,d⟩ := hs
  have hl := Ic hl
  exact yQ a4 ⟨⟨p,x.list,x.defs⟩,rfl,⟨⟨Gj hp,by show p.length < _; omega,f.list,f.llen,f.defs,f.dlen⟩,hl,l,d⟩⟩
 ·exact yQ a3 ⟨x,rfl,hs⟩
end
end Go.Eng
/-! a step of a machine: the reference's side: instructions,steps,runs,answers -/
namespace Go.Eng
open Go.Proofs Go.Proofs.Tryz
set_option maxHeartbeats 4000000

theorem Tk {q : List Nd} (hp : yR q = true) {v : Int} (hv : InP q v) (acc : List Nd) (d d' : Int) : zu d q v acc = zu d' q v acc := by
 have h := KJ hp (FC hp [v]) (CJ q [v]) d d' q.length [] [] acc rfl (Nat.zero_add _) (fun _ _ => rfl)
 unfold zu
 refine Prod.ext h.1 ?_
 have := h.2 v.toNat (Ij (IJ hv) v (by simp))
 simp only [List.getD_eq_getElem?_getD]
 exact congrArg (fun o => Option.getD o 0) this
theorem SN {q acc : List Nd} (hp : yR q = true) {v : Int} (hv : InP q v) (hc : acc.length + q.length < 4294967296) : V 96 [rP acc,eP q,iN v] = some (iN (zu (-1) q v acc).2,[rP (zu (-1) q v acc).1]) := by
 have h1 : V 149 [eP q,.rs (1,0) [iN v]] = _ := Vw hp (l := [v]) (by simp) (IJ hv)
 have h2 := Wu (acc := acc) hp (rs := [v]) hc
 have hl : (DW 0 q [v] acc).1.length = q.length := by unfold DW; rw [Fg]; simp
 rw [Tk hp hv acc (-1) 0,Qu,QF h1,Sn h2,RJ ⟨hv.1,by rw [hl]; exact hv.2⟩]
 rfl

theorem Yc {R : Type} (x : Df) (K : Int -> Option R) : (asAgg (eDf x) fun l => cT l 1 fun y => asI .i64 y fun n => K n) = K x.at' := rfl
theorem Yd {R : Type} (x : Df) (K : Int -> Option R) : (asAgg (eDf x) fun l => cT l 2 fun y => asI .i64 y fun n => K n) = K x.args := rfl
theorem Sr {c : Cd} {x : In} {k : Int} (h : Gz c x k = true) (h1 : ¬ x.op = 1) (h2 : ¬ x.op = 2) (h3 : ¬ x.op = 3) (h4 : ¬ x.op = 4) (h5 : ¬ x.op = 5) (h6 : ¬ x.op = 6) (h7 : ¬ x.op = 7) (h8 : ¬ x.op = 8) : x.op = 9 := by
 unfold Gz at h
 rw [if_neg h1,if_neg h2,if_neg h3,if_neg (by omega),if_neg h6,if_neg h7] at h
 split at h
 ·omega
 ·cases h
theorem Ul {c : Cd} (hf : FitsC c) (hc : zw c = true) {m : Mc} (hl : m.pool.length < 4294967200) (s : ByteArray) : Kj c (V 217 [eCd c,eMo m,.str s]) (KV c m s) := by
 have hd := DA hf s
 have c2 := (zn hc).2.1
 rw [Mu,Nb hd]
 unfold KV
 by_cases h0 : 0 <= Cg c s
 ·obtain ⟨d,hg⟩ := OZ h0
  have hok := Pf hc hg
  unfold TP at hok
  simp only [Bool.and_eq_true] at hok
  have a1 := wi_iff.1 hok.2.2.1
  have a2 := wi_iff.1 hok.2.2.2
  have hlt := aQ hg
  have h1 := y7 (p := m.pool) (by omega) ndN
  have h2 := y7 (p := m.pool ++ [ndN]) (by simp; omega) (ndF (8 * d.at' + d.args) m.pool.length)
  have h3 := Dz (m := ⟨m.pool ++ [ndN] ++ [ndF (8 * d.at' + d.args) m.pool.length],m.at',m.s,m.e,m.d,m.state,m.ask,m.arg⟩) (by simp; omega) (m.pool.length + 1)
  have e1 : w6 (w6 (8 * d.at') + d.args) = 8 * d.at' + d.args := by rw [w64 (n := 8 * d.at') (by omega) (by omega),w64 (by omega) (by omega)]
  have e2 : ((m.pool ++ [ndN]).length : Int) = m.pool.length + 1 := by simp
  rw [e2] at h2
  have hgr : (decide (0 <= Cg c s) && decide (Cg c s < ni (c.defs.map eDf).length)) = true := by rw [lnM]; simp only [ni,Bool.and_eq_true,decide_eq_true_eq]; omega
  rw [if_pos h0,xK (decide_eq_true h0),yU h1,yu hgr,xW hg,Yc,yu hgr,xW hg,Yd]
  simp only [List.getD_eq_getElem?_getD,hg,Option.getD_some]
  rw [e1,yU h2,zT h3]
  rfl
 ·rw [if_neg h0,xb (decide_eq_false h0)]
  have hp := OG s
  have hb := Nq s
  rw [Se hp]
  by_cases hz : D5 s = 0
  ·rw [if_pos hz,xK (yF hz)]
   exact zd m (by decide) rfl
  ·have h1 := y7 (p := m.pool) (by omega) (ndR (D5 s))
   have h3 := Dz (m := ⟨m.pool ++ [ndR (D5 s)],m.at',m.s,m.e,m.d,m.state,m.ask,m.arg⟩) (by simp; omega) m.pool.length
   rw [if_neg hz,xb (yE hz),yU h1,zT h3]
   rfl
theorem Wx {c : Cd} (_ : c.list.length <= 400) {m : Mc} (hr : RunM c m) (hl : m.pool.length <= 3000) : Kj c (V 220 [eMo m]) (KT c m) := by
 rw [Qm]
 unfold KT
 cases ht : Fk m with
 | none =>
  have h1 := Fp hr.gm.s ht
  rw [zN h1]
  exact zd m (by decide) rfl
 | some q =>
  obtain ⟨v,m1⟩ := q
  have h1 := Kf hr.gm.s ht
  obtain ⟨g1,g2,g3,g4,g5,g6,g7,g8⟩ := D9 hr.gm ht
  rw [zN h1,Bool.not_true,xJ,Fu g1.d]
  simp only
  by_cases k1 : (nod m1.pool m1.d).kind = 1
  ·rw [if_pos k1,xK (yF k1)]; rfl
  rw [if_neg k1,xb (yE k1)]
  by_cases k5 : (nod m1.pool m1.d).kind = 5
  ·rw [if_neg (fun h => h k5),xb (yG k5)]
   have ha := JX g1.ok g1.d (.inl k5)
   have hfr : V 234 [eP m1.pool,iN (nod m1.pool m1.d).a,iN 3] = _ := Pt g1.ok (by rw [g3]; omega) ha (many := 3) (by omega)
   rw [O8 (by omega)]
   cases hq : GQ m1.pool (nod m1.pool m1.d).a 3 with
   | none =>
    rw [hq] at hfr
    rw [AW hfr]
    exact zd m1 (by decide) rfl
   | some nr =>
    obtain ⟨n,r⟩ := nr
    rw [hq] at hfr
    have hlen := MC (by omega) hq
    obtain ⟨s,e,rfl⟩ : ∃ s e,r = [s,e] := by
     match r,hlen with
     | [s,e],_ => exact ⟨s,e,rfl⟩
     | [],h => simp at h
     | [_],h => simp at h
     | _ :: _ :: _ :: _,h => simp at h
    have a3 := Dz (m := ⟨m1.pool,n,s,e,(nod m1.pool m1.d).b,m1.state,m1.ask,m1.arg⟩) (by show m1.pool.length < _; rw [g3]; omega) v
    by_cases h5 : AA c n = true
    ·simp only [h5,if_true]
     rw [AW hfr,Bool.not_true,xJ,AY,Gu,zT a3]
     rfl
    ·have h5f : AA c n = false := by cases hz : AA c n with | true => exact absurd hz h5 | false => rfl
     simp only [h5f]
     refine .inr ⟨rfl,LG ⟨m1.pool,n,s,e,(nod m1.pool m1.d).b,m1.state,m1.ask,m1.arg⟩ v,h5f,?_⟩
     rw [AW hfr,Bool.not_true,xJ,AY,Gu,zT a3]
  ·rw [if_pos k5,xK (yH k5)]
   exact zd m1 (by decide) rfl
theorem RK {c : Cd} {n : Int} (h : AA c n = false) (h0 : 0 <= n) : (c.list.length : Int) <= n := by
 rcases Int.lt_or_le n c.list.length with h1 | h1
 ·have := isPl_iff.2 ⟨h0,(by omega : n <= (c.list.length : Int) - 1)⟩
  rw [h] at this; cases this
 ·exact h1
theorem Lj {c : Cd} (hc : c.list.length <= 400) : ∀ (k : Nat) {m : Mc} {acc : List Int},k + acc.length <= 4 -> RunM c m -> m.pool.length <= 3000 -> (∀ v ∈ acc,InP m.pool v) ->
  Kj c (Ce (m.at' + 1) ((k : Int) - 1) m.at' m.s m.e m.d m.state m.ask m.arg (c.pool.map eN) (c.list.map eIn) (c.defs.map eDf) ((List.replicate k 0 ++ acc).map eI) (m.pool.map eN)) (if AA c (m.at' + 1) = false then .error 7 else match FF (k + 1) m with
   | none => .error 7
   | some (l,m') => Ga c 3 m' (l.getD k 0) ((l.take k).reverse ++ acc))
 | 0,m,acc,hk,hr,hl,hv => by
  have hpl := isPl_iff.1 hr.pl
  rw [EW,xb (decide_eq_false (by omega))]
  simp only [FF]
  cases ht : Fk m with
  | none =>
   have h1 := Fp hr.gm.s ht
   rw [zN h1]
   simp only [ite_self]
   exact zd m (by decide) rfl
  | some q =>
   obtain ⟨v,m1⟩ := q
   have h1 := Kf hr.gm.s ht
   obtain ⟨g1,g2,g3,g4,g5,g6,g7,g8⟩ := D9 hr.gm ht
   rw [zN h1,Bool.not_true,xJ,lnM]
   simp only [List.getD_cons_zero,List.take_zero,List.reverse_nil,List.nil_append,List.replicate_zero]
   cases hp : AA c (m.at' + 1) with
   | false =>
    have := RK hp (by omega)
    rw [if_pos rfl,xK (decide_eq_true (by simp only [ni]; omega))]
    exact zd m1 (by decide) rfl
   | true =>
    have := isPl_iff.1 hp
    have hr1 : RunM c m1 := ⟨g1,g5.trans hr.st,g6.trans hr.ask,g7.trans hr.arg,by rw [g4]; exact hr.pl⟩
    have hva : ∀ u ∈ acc,InP m1.pool u := fun u hu => by rw [g3]; exact hv u hu
    have ha := Pq hc 3 hr1 (f := v) (l := acc) (by rw [g4]; exact hp) (by rw [g3]; omega) g2 hva (by omega) (LV 3 hva (.inl (Nat.le_refl _)))
    rw [g4] at ha
    rw [if_neg (by simp),xb (decide_eq_false (by simp only [ni]; omega))]
    exact Ib ha (fun q m' hx => by rw [J3 hx])
 | k + 1,m,acc,hk,hr,hl,hv => by
  have e1 : (((k + 1 : Nat) : Int) - 1) = (k : Int) := by omega
  rw [EW,e1,xK (decide_eq_true (by omega))]
  rw [FF]
  cases ht : Fk m with
  | none =>
   have h1 := Fp hr.gm.s ht
   rw [zN h1]
   simp only [ite_self]
   exact zd m (by decide) rfl
  | some q =>
   obtain ⟨v,m1⟩ := q
   have h1 := Kf hr.gm.s ht
   obtain ⟨g1,g2,g3,g4,g5,g6,g7,g8⟩ := D9 hr.gm ht
   have ih := Lj hc k (m := m1) (acc := v :: acc) (by simp only [lnC]; omega) ⟨g1,g5.trans hr.st,g6.trans hr.ask,g7.trans hr.arg,by rw [g4]; exact hr.pl⟩ (by rw [g3]; exact hl) (fun u hu => by
    rcases List.mem_cons.1 hu with rfl | hu
    ·exact g2
    ·rw [g3]; exact hv u hu)
   rw [g4] at ih
   have ae : (List.replicate (k + 1) (0 : Int) ++ acc)[k]? = some 0 := by
    rw [List.getElem?_append_left (by simp)]; simp
   have hset : List.set ((List.replicate (k + 1) (0 : Int) ++ acc).map eI) k (iN v) = (List.replicate k 0 ++ v :: acc).map eI := by
    rw [<- List.map_set (f := eI) (a := v),List.replicate_succ',List.append_assoc]
    simp
   rw [zN h1,Bool.not_true,xJ,yu (by rw [lnM]; exact yx (by simp only [lnA,List.length_replicate]; omega)),Int.toNat_natCast,xW ae,yA,hset,w64 (n := (k : Int) - 1) (by omega) (by omega)]
   simp only
   cases ht2 : FF (k + 1) m1 with
   | none => rw [ht2] at ih; rw [g4] ; exact ih
   | some q2 =>
    obtain ⟨l2,m2⟩ := q2
    rw [ht2] at ih
    simp only [List.getD_cons_succ,List.take_succ_cons,List.reverse_cons,List.append_assoc,List.singleton_append]
    rw [g4]
    exact ih
theorem SM {c : Cd} (hc : c.list.length <= 400) {m : Mc} (hr : RunM c m) (hl : m.pool.length <= 3000) {k : Int} (hk : 0 <= k /\ k <= 4) : Kj c (V 219 [eCd c,eMo m,iN k,iN (m.at' + 1)]) (CT c m k.toNat) := by
 have h := Lj hc k.toNat (m := m) (acc := []) (by simp only [lnN]; omega) hr hl (by simp)
 rw [Qn,yu (by rw [pE]; simp only [Bool.and_eq_true,decide_eq_true_eq]; omega),w64 (n := k - 1) (by omega) (by omega)]
 rw [Int.toNat_of_nonneg hk.1,List.append_nil,List.map_replicate] at h
 unfold CT
 cases ht : FF (k.toNat + 1) m with
 | none => rw [ht] at h; exact h
 | some q =>
  obtain ⟨l,m'⟩ := q
  obtain ⟨f1,f2,f3,f4,f5,f6,f7,f8,f9⟩ := IK hr.gm ht
  rw [ht] at h
  simp only [List.append_nil] at h ⊢
  obtain ⟨l0,f,rfl⟩ : ∃ l0 f,l = l0 ++ [f] := ⟨l.dropLast,l.getLast (by intro e; subst e; simp at f3),(List.dropLast_concat_getLast _).symm⟩
  have e3 : l0.length = k.toNat := by simpa using f3
  have e4 : (l0 ++ [f]).getD k.toNat 0 = f := by rw [<- e3]; simp
  have e5 : (l0 ++ [f]).take k.toNat = l0 := by rw [<- e3]; simp
  rw [e4,e5] at h
  simp only [List.reverse_append,List.reverse_cons,List.reverse_nil,List.nil_append,List.singleton_append,List.getD_cons_zero,List.drop_one,List.tail_cons]
  exact h
theorem Dv {c : Cd} {m : Mc} {n : Int} {X : Option Ret} (h : X = some (iN 0,[eMo ⟨m.pool,n,m.s,m.e,m.d,m.state,m.ask,m.arg⟩])) : Kj c X (goM c (.ok m) n) := by
 unfold goM
 cases hp : AA c n with
 | false => exact .inr ⟨rfl,_,hp,h⟩
 | true => exact h
theorem XF {c : Cd} (hf : FitsC c) (hok : zw c = true) {m : Mc} (hr : RunM c m) (hl : m.pool.length <= 3000) {x : In} {k : Nat} (hx : c.list[k]? = some x) : Kj c (V 196 [eCd c,eMo m,eIn x]) (if x.op = 7 then CT c m x.i.toNat else if x.op = 8 then KT c m else Jx c m x) := by
 obtain ⟨c1,c2,c3⟩ := zn hok
 have cl := zh c1
 have hin := KQ hok hx
 have hat := isPl_iff.1 hr.pl
 have w1 : w6 (m.at' + 1) = m.at' + 1 := w64 (by omega) (by omega)
 rw [Tz]
 by_cases h7 : x.op = 7
 ·rw [if_pos h7,xb (yE (by omega)),xb (yE (by omega)),xb (yE (by omega)),xb (yE (by omega)),xb (yE (by omega)),xb (yE (by omega)),xK (yF h7),w1]
  exact Ib (SM c2 hr hl (Ph hin h7)) (fun q m' hx => by rw [Sj hx])
 rw [if_neg h7]
 by_cases h8 : x.op = 8
 ·rw [if_pos h8,xb (yE (by omega)),xb (yE (by omega)),xb (yE (by omega)),xb (yE (by omega)),xb (yE (by omega)),xb (yE (by omega)),xb (yE (by omega)),xK (yF h8)]
  exact Ib (Wx c2 hr hl) (fun q m' hx => by rw [Si hx])
 rw [if_neg h8]
 unfold Jx
 by_cases h1 : x.op = 1
 ·have hlit := Sq hin h1
  have f := CU c1 hr.gm.ok hlit (-1)
  obtain ⟨f1,f2,t,f3,f4⟩ := f
  have hlen := congrArg List.length f3
  rw [lnA] at hlen
  have h2 := SN (acc := m.pool) c1 hlit (by omega)
  have h3 := Dz (m := ⟨(zu (-1) c.pool x.n m.pool).1,m.at',m.s,m.e,m.d,m.state,m.ask,m.arg⟩) (by show (zu (-1) c.pool x.n m.pool).1.length < _; omega) (zu (-1) c.pool x.n m.pool).2
  rw [if_pos h1,xK (yF h1),Li h2,zT h3,w1]
  exact Dv rfl
 rw [if_neg h1,xb (yE h1)]
 by_cases h2 : x.op = 2
 ·have hv := VY hin h2
  have hX := UN hr.gm.ok hr.gm.e (n := x.n) (by omega) (by omega)
  rw [if_pos h2,xK (yF h2)]
  unfold WA
  cases e1 : LD m.pool x.n.toNat m.e with
  | none =>
   rw [e1] at hX
   rw [Gx hX]
   exact zd m (by decide) rfl
  | some fr =>
   rw [e1] at hX
   have hY := UN hr.gm.ok (LK hr.gm.ok _ _ _ hr.gm.e e1) (n := x.i) (by omega) (by omega)
   rw [Gx hX,Bool.not_true,xJ]
   simp only
   cases e2 : LD m.pool x.i.toNat fr with
   | none =>
    rw [e2] at hY
    rw [Gx hY]
    exact zd m (by decide) rfl
   | some v =>
    rw [e2] at hY
    have h3 := Dz (m := m) (by omega) v
    rw [Gx hY,Bool.not_true,xJ,zT h3,w1]
    exact Dv rfl
 rw [if_neg h2,xb (yE h2)]
 by_cases h3 : x.op = 3
 ·have hX := Ul hf hok (m := m) (by omega) x.s
  rw [if_pos h3,xK (yF h3)]
  cases e : KV c m x.s with
  | ok m' =>
   rw [e] at hX
   rw [Jh (QJ hX),xb (yG rfl),w1]
   exact Dv rfl
  | error q =>
   rw [e] at hX
   rcases Nk hX with ⟨q0,m',hx'⟩ | ⟨q7,m',hp,hx'⟩
   ·rw [Jh hx',xK (yH q0)]
    exact zd m' q0 rfl
   ·exfalso
    unfold KV at e
    split at e
    ·cases e
    ·split at e
     ·cases e; omega
     ·cases e
 rw [if_neg h3,xb (yE h3)]
 by_cases h5 : x.op = 5
 ·rw [if_pos h5,xb (yE (by omega)),xK (yF h5)]
  exact Dv rfl
 rw [if_neg h5]
 by_cases h6 : x.op = 6
 ·have hfn := Sp hin h6
  have a7 := y7 (p := m.pool) (by omega) (ndF (8 * x.n + x.i) m.e)
  have a8 := Dz (m := ⟨m.pool ++ [ndF (8 * x.n + x.i) m.e],m.at',m.s,m.e,m.d,m.state,m.ask,m.arg⟩) (by simp; omega) m.pool.length
  rw [if_pos h6,xb (yE (by omega)),xb (yE (by omega)),xK (yF h6),w64 (n := 8 * x.n) (by omega) (by omega),w64 (n := 8 * x.n + x.i) (by omega) (by omega),yU a7,zT a8,w1]
  exact Dv rfl
 rw [if_neg h6]
 cases ht : Fk m with
 | none =>
  have t1 := Fp hr.gm.s ht
  by_cases h4 : x.op = 4
  ·rw [xK (yF h4),zN t1]
   exact zd m (by decide) rfl
  ·have h9 : x.op = 9 := Sr hin h1 h2 h3 h4 h5 h6 h7 h8
   rw [xb (yE h4),xb (yE h5),xb (yE h6),xb (yE h7),xb (yE h8),xK (yF h9),zN t1]
   exact zd m (by decide) rfl
 | some q =>
  obtain ⟨v,m1⟩ := q
  have hX := Kf hr.gm.s ht
  obtain ⟨g1,g2,g3,g4,g5,g6,g7,g8⟩ := D9 hr.gm ht
  simp only
  by_cases h4 : x.op = 4
  ·rw [xK (yF h4),zN hX,Bool.not_true,xJ,Fu g2]
   by_cases k2 : (nod m1.pool v).kind = 2
   ·rw [xK (yF k2)]
    by_cases k0 : (nod m1.pool v).n = 0
    ·rw [xK (yF k0),if_pos ⟨h4,k2,k0⟩]
     exact Dv rfl
    ·rw [xb (yE k0),if_neg (fun h => k0 h.2.2),w1]
     exact Dv rfl
   ·rw [xb (yE k2),if_neg (fun h => k2 h.2.1),w1]
    exact Dv rfl
  ·have h9 : x.op = 9 := Sr hin h1 h2 h3 h4 h5 h6 h7 h8
   rw [xb (yE h4),xb (yE h5),xb (yE h6),xb (yE h7),xb (yE h8),xK (yF h9),zN hX,if_neg (fun h => h4 h.1),Bool.not_true,xJ,w1]
   exact Dv rfl

theorem NJ {m : Mc} (hl : m.pool.length <= 4294967296) (q : Int) : V 97 [eMc m,iN q] = some (oMc (Gd m q),[]) := by
 rw [Qq,AK (Ke hl)]
 rfl
theorem TU {c : Cd} {m : Mc} (h : IZ c m = true) (hc : 0 < c.list.length) : AA c m.at' = true := by
 unfold IZ at h
 have z : AA c 0 = true := isPl_iff.2 ⟨Int.le_refl _,by omega⟩
 split at h
 ·simp only [Bool.and_eq_true] at h; exact h.1
 split at h
 ·simp only [Bool.and_eq_true] at h; exact h.1
 split at h
 ·simp only [Bool.and_eq_true,beq_iff_eq] at h; rw [h.1]; exact z
 split at h
 ·simp only [Bool.and_eq_true,beq_iff_eq] at h; rw [h.1]; exact z
 ·cases h
theorem Wy {c : Cd} (hf : FitsC c) (hok : zw c = true) {m : Mc} (hr : RunM c m) (hl : m.pool.length <= 3000) : V 153 [eCd c,eMc m] = some (oMc (SE c m),[]) := by
 obtain ⟨c1,c2,c3⟩ := zn hok
 have cl := zh c1
 obtain ⟨x,hx⟩ := UL hr
 have hlt := aQ hx
 have hat := isPl_iff.1 hr.pl
 have hgd : c.list.getD m.at'.toNat ⟨0,0,0,⟨#[]⟩⟩ = x := by rw [List.getD_eq_getElem?_getD,hx]; rfl
 have hfail := fun q => NJ (m := m) (by omega) q
 have hdo : doM c m = if x.op = 7 then CT c m x.i.toNat else if x.op = 8 then KT c m else Jx c m x := by unfold doM; rw [hgd]
 have hX := XF hf hok hr hl hx
 rw [<- hdo] at hX
 have hin : ∀ n : Int,V 62 [iN n,iN 0,iN (w6 (ni c.list.length - 1))] = some (.bool (AA c n),[]) := fun n => by
  rw [w64 (n := ni c.list.length - 1) (by simp only [ni]; omega) (by simp only [ni]; omega)]
  exact zU n 0 _
 rw [Qt,AK (Ke (by omega)),yu (by rw [lnM]; simp only [ni,Bool.and_eq_true,decide_eq_true_eq]; omega),xW hx,Xu,lnM]
 unfold SE
 cases e : doM c m with
 | ok m' =>
  rw [e] at hX
  obtain ⟨g1,⟨t,g2,g3⟩,g4⟩ := Rf hok hr e
  have hlen := congrArg List.length g2
  rw [lnA] at hlen
  rw [KO (QJ hX),xb (yG rfl),zB (hin m'.at'),TU g4 (by omega),Bool.not_true,xJ,lnM]
  simp only
  by_cases h3 : m'.pool.length <= 3000
  ·rw [xb (decide_eq_false (by simp only [ni]; omega)),if_pos h3]
  ·rw [xK (decide_eq_true (by simp only [ni]; omega)),C9 (hfail 6),if_neg h3]
 | error q =>
  rw [e] at hX
  simp only
  rcases Nk hX with ⟨q0,m',hx'⟩ | ⟨q7,m',hp,hx'⟩
  ·rw [KO hx',xK (yH q0),C9 (hfail q)]
  ·rw [KO hx',xb (yG rfl),zB (hin m'.at'),hp,Bool.not_false,yk,C9 (hfail 7),q7]

theorem Iy {c : Cd} (hf : FitsC c) {m : Mc} (hm : Ac m.pool) (hl : m.pool.length <= 4294967296) : V 89 [eCd c,eMc m] = some (oMc (NB c m),[]) := by
 have h1 := Cy hf hm (by omega)
 rw [Tt,D4 h1]
 unfold NB
 cases h : Db c m with
 | false => rw [Bool.not_false,yk,if_neg (by simp)]; rfl
 | true =>
  rw [Bool.not_true,xJ,if_pos rfl]
  by_cases h0 : m.state = 0
  ·obtain ⟨r1,r2,r3⟩ := Su h h0
   rw [xb (yG h0),Sm (Wy hf r2 r1 r3),if_pos h0]
  ·rw [xK (yH h0),AK (Ke hl),if_neg h0]
theorem Jo {c : Cd} (hf : FitsC c) {m : Mc} (hm : Ac m.pool) (hl : m.pool.length <= 4294967296) {p : List Nd} (hp : Ac p) (hpl : p.length < 4611686018427387904) (v : Int) : V 32 [eCd c,eMc m,eP p,iN v] = some (oMc (AR c m p v),[]) := by
 have h1 := Cy hf hm (by omega)
 have hcp := Ke hl
 rw [PQ,D4 h1]
 unfold AR
 cases h : Db c m with
 | false => rw [Bool.not_false,yk,if_neg (by simp)]; rfl
 | true =>
  obtain ⟨r1,r2,r3,r4,r5,r6,r7⟩ := AL h
  obtain ⟨c1,c2,c3⟩ := zn r1
  rw [Bool.not_true,xJ,if_pos rfl]
  by_cases hs : m.state = 1
  ·rw [xb (yG hs),BC (z8 hp hpl)]
   cases hpo : yR p with
   | false => rw [Bool.not_false,yk,AK hcp,if_neg (by simp)]
   | true =>
    rw [Bool.not_true,xJ,Jw (Fm hpl v)]
    cases hv : wi v 0 ((p.length : Int) - 1) with
    | false => rw [Bool.not_false,yk,AK hcp,if_neg (by simp)]
    | true =>
     have hat : 0 <= m.at' /\ m.at' <= 1000 := by
      unfold IZ at r7
      rw [if_neg (by omega),if_pos hs] at r7
      simp only [Bool.and_eq_true] at r7
      have := wi_iff.1 r7.1
      omega
     have hv' := wi_iff.1 hv
     have hin : InP p v := ⟨hv'.1,by omega⟩
     obtain ⟨f1,f2,t,f3,f4⟩ := CU hpo r2 hin (-1)
     have hlen := congrArg List.length f3
     have hpl' := zh hpo
     rw [lnA] at hlen
     have h2 := SN (acc := m.pool) hpo hin (by omega)
     have h3 := Dz (m := ⟨(zu (-1) p v m.pool).1,m.at',m.s,m.e,m.d,m.state,m.ask,m.arg⟩) (by show (zu (-1) p v m.pool).1.length < _; omega) (zu (-1) p v m.pool).2
     rw [Bool.not_true,xJ,if_pos ⟨hs,rfl,rfl⟩,AK hcp,Li h2,zT h3,w64 (n := m.at' + 1) (by omega) (by omega),lnM,lnM]
     rw [show (LG ⟨(zu (-1) p v m.pool).1,m.at',m.s,m.e,m.d,m.state,m.ask,m.arg⟩ (zu (-1) p v m.pool).2).pool.length = (Dw m p v).pool.length from rfl]
     cases hp1 : AA c (m.at' + 1) with
     | false =>
      have := RK hp1 (by omega)
      rw [xK (decide_eq_true (by simp only [ni]; omega)),C9 (NJ hl 7),if_neg (by simp)]
     | true =>
      have := isPl_iff.1 hp1
      rw [xb (decide_eq_false (by simp only [ni]; omega)),if_pos rfl]
      by_cases h3k : (Dw m p v).pool.length <= 3000
      ·rw [xb (decide_eq_false (by simp only [ni]; omega)),if_pos h3k]; rfl
      ·rw [xK (decide_eq_true (by simp only [ni]; omega)),C9 (NJ hl 6),if_neg h3k]
  ·rw [xK (yH hs),AK hcp,if_neg (fun h => hs h.1)]
end Go.Eng
/-! marks,equality,sizes and copies of nodes and numbers -/
namespace Go.Eng
open Go.Proofs Go.Proofs.Tryz
set_option maxHeartbeats 4000000

end Go.Eng
/-! sizes,copies and equality of what a law's arguments hold -/
namespace Go.Eng
open Go.Proofs Go.Proofs.Tryz
set_option maxHeartbeats 4000000

end Go.Eng
/-! a law's arguments: pools,code,machines,processes -/
namespace Go.Eng
open Go.Proofs Go.Proofs.Tryz
set_option maxHeartbeats 4000000
set_option maxRecDepth 100000

end Go.Eng
/-! machines as bytes,on both sides -/
namespace Go.Eng
open Go.Proofs Go.Proofs.Tryz
set_option maxHeartbeats 4000000

end Go.Eng
/-! nodes of bytes,on both sides -/
namespace Go.Eng
open Go.Proofs Go.Proofs.Tryz
set_option maxHeartbeats 4000000

section
variable {b : List UInt8} (hb : b.length < 4611686018427387904)
include hb
end
end Go.Eng
/-! nodes of bytes: the reference's side,and what both come to -/
namespace Go.Eng
open Go.Proofs Go.Proofs.Tryz
set_option maxHeartbeats 4000000

end Go.Eng
/-! a value read of bytes: both sides come to the same -/
namespace Go.Eng
open Go.Proofs Go.Proofs.Tryz
set_option maxHeartbeats 4000000

end Go.Eng
/-! a value read of bytes: both sides come to the same -/
namespace Go.Eng
open Go.Proofs Go.Proofs.Tryz
set_option maxHeartbeats 4000000

end Go.Eng
/-! processes: when they are right,on both sides -/
namespace Go.Eng
open Go.Proofs Go.Proofs.Tryz
set_option maxHeartbeats 4000000

structure Pr where
 pid : Int
 m : Mc
 box : List ByteArray
 out : List ByteArray
structure FitsR (p : Pr) : Prop where
 pool : Ac p.m.pool
 plen : p.m.pool.length <= 4294967296
 box : ∀ x ∈ p.box,x.size < 4294967296
 blen : p.box.length < 4294967296
 out : ∀ x ∈ p.out,x.size < 4294967296
 olen : p.out.length < 4294967296
end Go.Eng
/-! new machines and processes,on both sides -/
namespace Go.Eng
noncomputable section
open Go.Proofs Go.Proofs.Tryz
set_option maxHeartbeats 4000000

theorem TV {α : Type} (p : α -> Bool) (l : List α) : -1 <= ya p l /\ ya p l < l.length := by
 unfold ya
 cases h : l.findIdx? p with
 | none => simp only; omega
 | some k =>
  rw [List.findIdx?_eq_some_iff_getElem] at h
  obtain ⟨hk,_⟩ := h
  simp only; omega
def zMc : Mc := ⟨[],0,0,0,0,0,0,0⟩
def UE (d : Df) : Mc := ⟨[⟨1,0,⟨#[]⟩,0,0⟩,⟨5,0,⟨#[]⟩,0,0⟩],d.at',0,1,0,0,0,0⟩
def RT (c : Cd) (s : ByteArray) : Option Mc := if zw c = true /\ 0 <= Cg c s then
  (match c.defs[(Cg c s).toNat]? with | some d => if d.args = 0 then some (UE d) else none | none => none) else none
def Yk (r : Option Mc) : D := match r with | some m => .tup [oMc m,.bool true] | none => .tup [oMc zMc,.bool false]
theorem Cq {c : Cd} (hf : FitsC c) (s : ByteArray) : V 78 [eCd c,.str s] = some (Yk (RT c s),[]) := by
 have hd := DA hf s
 have hc := CM hf
 have hb := TV (fun d : Df => kc d.name s) c.defs
 rw [Ky]
 unfold RT
 cases e1 : zw c with
 | false => rw [e1] at hc; rw [if_neg (by simp)]; simp (disch := first | omega | (simp only [lnA,lnC,lnN,lnM,yO,wY]; omega)) only [↓wZ,xi,↓yk,↓yo,↓ye,↓xI,Bool.not_false,hd,hc]; rfl
 | true =>
  rw [e1] at hc
  by_cases e2 : 0 <= Cg c s
  ·rw [if_pos ⟨rfl,e2⟩]
   obtain ⟨k,hk⟩ := Int.eq_ofNat_of_zero_le e2
   have hkl : k < c.defs.length := by unfold Cg at hk; omega
   obtain ⟨d,hx⟩ := xx hkl
   rw [hk] at hd ⊢
   rw [Int.toNat_natCast,hx]
   by_cases e3 : d.args = 0
   ·simp only [e3,if_true]
    simp (disch := first | omega | (simp only [lnA,lnC,lnN,lnM,yO,wY]; omega)) only [↓wZ,xi,↓xJ,↓xP,↓yo,↓ye,↓xI,↓xu,↓xA,↓xB,xA,xB,↓xX,yJ,yI,yG,Bool.and_true,Bool.not_true,lnM,wY,hd,hc,↓xW hx]
    rfl
   ·simp only [e3,if_false]
    simp (disch := first | omega | (simp only [lnA,lnC,lnN,lnM,yO,wY]; omega)) only [↓wZ,xi,↓yk,↓xJ,↓xP,↓yo,↓ye,↓xI,↓xu,↓xB,xB,↓xX,yJ,yI,yH,Bool.and_true,Bool.not_true,lnM,wY,hd,hc,↓xW hx]
    rfl
  ·rw [if_neg (fun h => e2 h.2)]
   simp (disch := first | omega | (simp only [lnA,lnC,lnN,lnM,yO,wY]; omega)) only [↓wZ,xi,↓yk,↓xJ,↓yo,↓ye,↓xI,yJ,Bool.not_true,hd,hc]
   rfl
theorem Vf {c : Cd} {s : ByteArray} {m : Mc} (h : RT c s = some m) : ∃ d ∈ c.defs,d.args = 0 /\ m = UE d /\ zw c = true := by
 unfold RT at h
 split at h
 ·rename_i hc
  split at h
  ·rename_i d hx
   split at h
   ·rename_i ha
    cases h
    exact ⟨d,List.mem_of_getElem? hx,ha,rfl,hc.1⟩
   ·cases h
  ·cases h
 ·cases h
end
end Go.Eng
/-! draws of machines -/
namespace Go.Eng
noncomputable section
open Go.Proofs Go.Proofs.Tryz
set_option maxHeartbeats 4000000
set_option maxRecDepth 10000

structure SomeM (m : Mc) : Prop where
 fits : Ac m.pool
 len : m.pool.length <= 3001
theorem W8 {c : Cd} {m : Mc} (h : Db c m = true) : SomeM m := by
 obtain ⟨r1,r2,r3,_⟩ := AL h
 exact ⟨Gy r2,by omega⟩
theorem Px : SomeM SY := ⟨DU,by simp [SY]⟩
theorem KR {c : Cd} {m : Mc} (h : SomeM m) : SomeM (NB c m) := by
 unfold NB
 split
 ·split
  ·exact W8 (We ‹_› ‹_›)
  ·exact h
 ·exact Px
theorem LM {c : Cd} {m : Mc} (h : Db c m = true) {p : List Nd} (hp : yR p = true) {v : Int} (hv : InP p v) : y2 (Dw m p v).pool /\ InP (Dw m p v).pool (Dw m p v).s /\ ∃ t,(Dw m p v).pool = m.pool ++ t := by
 obtain ⟨r1,r2,r3,r4,r5,r6,r7⟩ := AL h
 obtain ⟨f1,f2,t,f3,f4⟩ := CU hp r2 hv (-1)
 have hs : InP (zu (-1) p v m.pool).1 m.s := by rw [f3]; exact yW _ r4
 exact ⟨za f1 (IE f2 hs),zR _ _,t ++ [ndP (zu (-1) p v m.pool).2 m.s],by unfold Dw; simp only; rw [f3,List.append_assoc]⟩
theorem QX {c : Cd} {m : Mc} (h : SomeM m) {p : List Nd} {v : Int} : SomeM (AR c m p v) := by
 unfold AR
 split
 ·rename_i hok
  split
  ·rename_i hc
   have hv := wi_iff.1 hc.2.2
   split
   ·split
    ·exact ⟨Gy (LM hok hc.2.1 ⟨hv.1,by omega⟩).1,by omega⟩
    ·exact ⟨h.fits,h.len⟩
   ·exact ⟨h.fits,h.len⟩
  ·exact h
 ·exact Px
def XH (v : D) : Prop := ∃ m : Mc,v = oMc m /\ SomeM m
section
variable {b : List Int}
theorem Tm (hb : b.length < 4611686018427387904) {x : Cd} (hx : FitsC x) {n : Int} (hn : n < 1000) : ∀ (k i : Nat) (c : Int × Int) (m : Mc),((i : Int) + k = n \/ (k = 0 /\ n <= i)) -> zr b c -> SomeM m ->
  Bz b XH (Bi n (i : Int) (b.map eB) c.1 c.2 (x.pool.map eN) (x.list.map eIn) (x.defs.map eDf) m.at' m.s m.e m.d m.state m.ask m.arg 0 0 0 0 0 0 0 (m.pool.map eN))
 | 0,i,c,m,hi,hc,hm => by
  rw [FW,xb (decide_eq_false (by omega))]
  exact yQ hc ⟨m,rfl,hm⟩
 | k + 1,i,c,m,hi,hc,hm => by
  have hl := hm.len
  rw [FW,xK (decide_eq_true (by omega))]
  by_cases h1 : m.state = 1
  ·rw [xK (yF h1)]
   refine yP (Uq hb hc) fun v c1 a1 ⟨y,e,hy⟩ => ?_
   subst e
   have ha : V 32 [eCd x,eMc m,.agg [.rs (5,0) [eN y]],iN 0] = _ := Jo hx hm.fits (by omega) (p := [y]) (fun z h => by rw [List.mem_singleton.1 h]; omega) (by simp) 0
   have ih := Tm hb hx hn k (i + 1) c1 (AR x m [y] 0) (by omega) a1 (QX hm)
   rw [xu,yb,ye,yb,ye,yb,yi,yb,ye,yb,ye,yo,yb,yf,yb,yh,yb,ye,yb,ye,yo,yo,Ld ha,yM (by omega)]
   exact ih
  ·have hs := Iy hx hm.fits (by omega)
   have ih := Tm hb hx hn k (i + 1) c (NB x m) (by omega) hc (KR hm)
   rw [xb (yE h1),KN hs,yM (by omega)]
   exact ih
theorem Gb (hb : b.length < 4611686018427387904) {x : Cd} (hx : FitsC x) {n : Int} (h0 : 0 <= n) (hn : n < 1000) {c : Int × Int} (hc : zr b c) {m : Mc} (hm : SomeM m) : Bz b XH (V 172 [eC b c,eCd x,oMc m,iN n]) := by
 rw [RE]
 exact Tm hb hx hn n.toNat 0 c m (by omega) hc hm
def Jt : Mc := ⟨[ndN,ndF 0 0,ndN,ndP 2 0],0,2,3,2,0,0,0⟩
theorem XD {x : Cd} (hx : RightC x) : V 171 [eCd x,.agg [.rs (5,0) [.agg [iN 1,iN 0,.str ⟨#[]⟩,iN 0,iN 0],.agg [iN 6,iN 0,.str ⟨#[]⟩,iN 0,iN 0]]],iN 1] = some (.tup [oMc Jt,.bool true],[]) := by
 have hf : Ac [ndN,ndF 0 0] := fun z h => by
  simp only [List.mem_cons,List.not_mem_nil,or_false] at h
  rcases h with rfl | rfl <;> exact Dd
 have h1 := CM hx.fits
 have h2 : V 60 [.agg [.rs (5,0) [.agg [iN 1,iN 0,.str ⟨#[]⟩,iN 0,iN 0],.agg [iN 6,iN 0,.str ⟨#[]⟩,iN 0,iN 0]]]] = some (.bool true,[]) := by
  have h := z8 (p := [ndN,ndF 0 0]) hf (by simp)
  rw [show yR [ndN,ndF 0 0] = true by decide +kernel] at h
  exact h
 have h3 : V 61 [.agg [.rs (5,0) [.agg [iN 1,iN 0,.str ⟨#[]⟩,iN 0,iN 0],.agg [iN 6,iN 0,.str ⟨#[]⟩,iN 0,iN 0]]],iN 1] = some (.bool true,[]) := Fm (p := [ndN,ndF 0 0]) (by simp) 1
 have h4 : V 147 [.agg [.rs (5,0) [.agg [iN 1,iN 0,.str ⟨#[]⟩,iN 0,iN 0],.agg [iN 6,iN 0,.str ⟨#[]⟩,iN 0,iN 0]]]] = _ := NG (p := [ndN,ndF 0 0]) (by simp)
 have h5 := y7 (p := [ndN,ndF 0 0]) (by simp) ndN
 have h6 := y7 (p := [ndN,ndF 0 0] ++ [ndN]) (by simp) (ndP ((([ndN,ndF 0 0] : List Nd).length : Nat) : Int) 0)
 have hne := hx.ne
 rw [hx.ok] at h1
 rw [Lu,Lf h1,Bool.not_true,xJ,BC h2,Bool.not_true,xJ,Jw h3,Bool.not_true,xJ,xb (by decide),yu (by decide)]
 show br (decide (w6 (Int.tdiv 0 8) >= ni (x.list.map eIn).length)) _ _ = _
 rw [lnM,xb (decide_eq_false (by rw [w64 (by decide) (by decide)]; simp only [ni]; have : Int.tdiv 0 8 = 0 := rfl; omega)),y8 h4,yU h5,yU h6]
 rfl
theorem Ju : SomeM Jt := ⟨fun z h => by
 simp only [Jt,List.mem_cons,List.not_mem_nil,or_false] at h
 rcases h with rfl | rfl | rfl | rfl <;> exact Dd,by simp [Jt]⟩
theorem M8 {x : Cd} {s : ByteArray} {m : Mc} (h : RT x s = some m) : SomeM m := by
 obtain ⟨d,_,_,rfl,_⟩ := Vf h
 exact ⟨fun z h => by
  simp only [UE,List.mem_cons,List.not_mem_nil,or_false] at h
  rcases h with rfl | rfl <;> exact Dd,by simp [UE]⟩
def Xp (v : D) : Prop := ∃ (x : Cd) (m : Mc),v = .tup [eCd x,oMc m] /\ RightC x /\ SomeM m
theorem WK (hb : b.length < 4611686018427387904) {c : Int × Int} (h : zr b c) : Bz b Xp (V 112 [eC b c]) := by
 rw [KI]
 refine yP (Mf hb h) fun v c1 a1 ⟨x,e,hx⟩ => ?_
 subst e
 rw [xu,yb,yg,yb,yg,yb,yg,yo,yb,yf,yb,yh,yb,ye,yb,ye,yo,yo,Nb (DA hx.fits _),lnM]
 refine yZ (fun _ => yZ (fun h0 => ?_) fun _ => ?_) fun _ => ?_
 ·have h0 := of_decide_eq_true h0
  obtain ⟨d,hd⟩ := xx (l := x.defs) (i := 0) (by simp only [ni] at h0; omega)
  refine Aq (by simp only [ni,Bool.and_eq_true,decide_eq_true_eq] at h0 ⊢; omega) ?_
  rw [xW hd,XM]
  have hm := Cq hx.fits d.name
  cases hq : RT x d.name with
  | none =>
   rw [hq] at hm
   rw [zY hm,Bool.not_false,yk,D0 (XD hx)]
   refine yP (yX hb a1 _) fun v c2 a2 ⟨n,e,n0,n1⟩ => ?_
   subst e
   have n1 := n1 (by omega)
   rw [ye,yb,yf,yb,yh,yb,ye,yb,ye,yo,yo]
   refine yP (Gb hb hx.fits n0 (by omega) a2 (m := Jt) Ju) fun v c3 a3 ⟨m,e,hm⟩ => ?_
   subst e
   rw [xu,yb,yg,yb,ye,yb,ye,yb,ye,yb,ye,yb,ye,yb,ye,yb,ye,yo,yb,yf,yb,yh,yb,ye,yb,ye,yo,yo]
   exact yQ a3 ⟨x,m,rfl,hx,hm⟩
  | some q =>
   have hqs := M8 hq
   rw [hq] at hm
   rw [zY hm,Bool.not_true,xJ]
   refine yP (yX hb a1 _) fun v c2 a2 ⟨n,e,n0,n1⟩ => ?_
   subst e
   have n1 := n1 (by omega)
   rw [ye,yb,yf,yb,yh,yb,ye,yb,ye,yo,yo]
   refine yP (Gb hb hx.fits n0 (by omega) a2 (m := q) hqs) fun v c3 a3 ⟨m,e,hm⟩ => ?_
   subst e
   rw [xu,yb,yg,yb,ye,yb,ye,yb,ye,yb,ye,yb,ye,yb,ye,yb,ye,yo,yb,yf,yb,yh,yb,ye,yb,ye,yo,yo]
   exact yQ a3 ⟨x,m,rfl,hx,hm⟩
 ·skip
  have hm := Cq hx.fits ⟨#[109,97,105,110]⟩
  cases hq : RT x ⟨#[109,97,105,110]⟩ with
  | none =>
   rw [hq] at hm
   rw [zY hm,Bool.not_false,yk,D0 (XD hx)]
   refine yP (yX hb a1 _) fun v c2 a2 ⟨n,e,n0,n1⟩ => ?_
   subst e
   have n1 := n1 (by omega)
   rw [ye,yb,yf,yb,yh,yb,ye,yb,ye,yo,yo]
   refine yP (Gb hb hx.fits n0 (by omega) a2 (m := Jt) Ju) fun v c3 a3 ⟨m,e,hm⟩ => ?_
   subst e
   rw [xu,yb,yg,yb,ye,yb,ye,yb,ye,yb,ye,yb,ye,yb,ye,yb,ye,yo,yb,yf,yb,yh,yb,ye,yb,ye,yo,yo]
   exact yQ a3 ⟨x,m,rfl,hx,hm⟩
  | some q =>
   have hqs := M8 hq
   rw [hq] at hm
   rw [zY hm,Bool.not_true,xJ]
   refine yP (yX hb a1 _) fun v c2 a2 ⟨n,e,n0,n1⟩ => ?_
   subst e
   have n1 := n1 (by omega)
   rw [ye,yb,yf,yb,yh,yb,ye,yb,ye,yo,yo]
   refine yP (Gb hb hx.fits n0 (by omega) a2 (m := q) hqs) fun v c3 a3 ⟨m,e,hm⟩ => ?_
   subst e
   rw [xu,yb,yg,yb,ye,yb,ye,yb,ye,yb,ye,yb,ye,yb,ye,yb,ye,yo,yb,yf,yb,yh,yb,ye,yb,ye,yo,yo]
   exact yQ a3 ⟨x,m,rfl,hx,hm⟩
 ·skip
  have hm := Cq hx.fits ⟨#[109,97,105,110]⟩
  cases hq : RT x ⟨#[109,97,105,110]⟩ with
  | none =>
   rw [hq] at hm
   rw [zY hm,Bool.not_false,yk,D0 (XD hx)]
   refine yP (yX hb a1 _) fun v c2 a2 ⟨n,e,n0,n1⟩ => ?_
   subst e
   have n1 := n1 (by omega)
   rw [ye,yb,yf,yb,yh,yb,ye,yb,ye,yo,yo]
   refine yP (Gb hb hx.fits n0 (by omega) a2 (m := Jt) Ju) fun v c3 a3 ⟨m,e,hm⟩ => ?_
   subst e
   rw [xu,yb,yg,yb,ye,yb,ye,yb,ye,yb,ye,yb,ye,yb,ye,yb,ye,yo,yb,yf,yb,yh,yb,ye,yb,ye,yo,yo]
   exact yQ a3 ⟨x,m,rfl,hx,hm⟩
  | some q =>
   have hqs := M8 hq
   rw [hq] at hm
   rw [zY hm,Bool.not_true,xJ]
   refine yP (yX hb a1 _) fun v c2 a2 ⟨n,e,n0,n1⟩ => ?_
   subst e
   have n1 := n1 (by omega)
   rw [ye,yb,yf,yb,yh,yb,ye,yb,ye,yo,yo]
   refine yP (Gb hb hx.fits n0 (by omega) a2 (m := q) hqs) fun v c3 a3 ⟨m,e,hm⟩ => ?_
   subst e
   rw [xu,yb,yg,yb,ye,yb,ye,yb,ye,yb,ye,yb,ye,yb,ye,yb,ye,yo,yb,yf,yb,yh,yb,ye,yb,ye,yo,yo]
   exact yQ a3 ⟨x,m,rfl,hx,hm⟩
end
end
end Go.Eng
/-! draws of machines,mostly right -/
namespace Go.Eng
open Go.Proofs Go.Proofs.Tryz
set_option maxHeartbeats 4000000
set_option maxRecDepth 10000

noncomputable def Any (n : Nat) (X : D) (l : List D) : Prop := X = .rs (n,0) l \/ X = .os (n,0) l
theorem GK {n : Nat} {X : D} {l : List D} (h : Any n X l) {R : Type} (K : List D -> Option R) : mc (n,0) X K = K l := by
 rcases h with rfl | rfl
 ·rw [yd]
 ·rw [yc]
noncomputable def WD (v : D) : Prop := ∃ (x : Cd) (m : Mc) (X1 X2 X3 Y : D),v = .tup [.agg [X1,X2,X3],.agg [Y,iN m.at',iN m.s,iN m.e,iN m.d,iN m.state,iN m.ask,iN m.arg]] /\ Any 5 X1 (x.pool.map eN) /\ Any 4 X2 (x.list.map eIn) /\ Any 3 X3 (x.defs.map eDf) /\ Any 5 Y (m.pool.map eN) /\ SomeC x /\ SomeM m
section
variable {b : List Int}
theorem UY (hb : b.length < 4611686018427387904) {c : Int × Int} (h : zr b c) : Bz b WD (V 52 [eC b c]) := by
 rw [Qp]
 refine yP (WK hb h) fun v c1 a1 ⟨x,m,e,hx,hm⟩ => ?_
 subst e
 have hs := Nu hx
 have hl := hm.len
 rw [xw,yb,xu,yb,yd,yb,yd,yb,yd,yo,yb,xu,yb,yc,yb,ye,yb,ye,yb,ye,yb,ye,yb,ye,yb,ye,yb,ye,yo,yo,yb,yf,yb,yh,yb,ye,yb,ye,yo,yo]
 refine yP (yX hb a1 _) fun v c2 a2 ⟨n,e,n0,n1⟩ => ?_
 subst e
 rw [ye,yb,yf,yb,yh,yb,ye,yb,ye,yo,yo]
 refine yZ (fun _ => ?_) fun _ => yZ (fun _ => ?_) fun _ => yZ (fun _ => ?_) fun _ => yZ (fun _ => ?_) fun _ => yZ (fun _ => ?_) fun _ => yZ (fun _ => ?_) fun _ => yZ (fun _ => ?_) fun _ => yZ (fun _ => ?_) fun _ => yZ (fun _ => ?_) fun _ => ?_
 ·refine yP (yX hb a2 _) fun v c3 a3 ⟨u,e,u0,u1⟩ => ?_
  subst e
  rw [ye,yb,yf,yb,yh,yb,ye,yb,ye,yo,yo]
  refine yP (Gr hb a3 [-1,0,w6 (ni (x.list.map eIn).length - 1),ni (x.list.map eIn).length,u] (by simp)) fun v c4 a4 ⟨w,e,_⟩ => ?_
  subst e
  rw [ye,yb,yf,yb,yh,yb,ye,yb,ye,yo,yo]
  exact yQ a4 ⟨x,⟨m.pool,w,m.s,m.e,m.d,m.state,m.ask,m.arg⟩,_,_,_,_,rfl,.inl rfl,.inl rfl,.inl rfl,.inl rfl,hs,⟨hm.fits,hm.len⟩⟩
 ·refine yP (yX hb a2 _) fun v c3 a3 ⟨w,e,u0,u1⟩ => ?_
  subst e
  rw [ye,yb,yf,yb,yh,yb,ye,yb,ye,yo,yo]
  exact yQ a3 ⟨x,⟨m.pool,m.at',m.s,m.e,m.d,w,m.ask,m.arg⟩,_,_,_,_,rfl,.inl rfl,.inl rfl,.inl rfl,.inl rfl,hs,⟨hm.fits,hm.len⟩⟩
 ·refine yP (yX hb a2 _) fun v c3 a3 ⟨w,e,u0,u1⟩ => ?_
  subst e
  rw [ye,yb,yf,yb,yh,yb,ye,yb,ye,yo,yo]
  exact yQ a3 ⟨x,⟨m.pool,m.at',m.s,m.e,m.d,m.state,w,m.arg⟩,_,_,_,_,rfl,.inl rfl,.inl rfl,.inl rfl,.inl rfl,hs,⟨hm.fits,hm.len⟩⟩
 ·refine yP (LZ hb a2 (p := m.pool) (by omega)) fun v c3 a3 ⟨w,e,u0,u1⟩ => ?_
  subst e
  rw [ye,yb,yf,yb,yh,yb,ye,yb,ye,yo,yo]
  exact yQ a3 ⟨x,⟨m.pool,m.at',m.s,m.e,m.d,m.state,m.ask,w⟩,_,_,_,_,rfl,.inl rfl,.inl rfl,.inl rfl,.inl rfl,hs,⟨hm.fits,hm.len⟩⟩
 ·refine yP (LZ hb a2 (p := m.pool) (by omega)) fun v c3 a3 ⟨w,e,u0,u1⟩ => ?_
  subst e
  rw [ye,yb,yf,yb,yh,yb,ye,yb,ye,yo,yo]
  exact yQ a3 ⟨x,⟨m.pool,m.at',w,m.e,m.d,m.state,m.ask,m.arg⟩,_,_,_,_,rfl,.inl rfl,.inl rfl,.inl rfl,.inl rfl,hs,⟨hm.fits,hm.len⟩⟩
 ·refine yP (LZ hb a2 (p := m.pool) (by omega)) fun v c3 a3 ⟨w,e,u0,u1⟩ => ?_
  subst e
  rw [ye,yb,yf,yb,yh,yb,ye,yb,ye,yo,yo]
  exact yQ a3 ⟨x,⟨m.pool,m.at',m.s,w,m.d,m.state,m.ask,m.arg⟩,_,_,_,_,rfl,.inl rfl,.inl rfl,.inl rfl,.inl rfl,hs,⟨hm.fits,hm.len⟩⟩
 ·refine yP (LZ hb a2 (p := m.pool) (by omega)) fun v c3 a3 ⟨w,e,u0,u1⟩ => ?_
  subst e
  rw [ye,yb,yf,yb,yh,yb,ye,yb,ye,yo,yo]
  exact yQ a3 ⟨x,⟨m.pool,m.at',m.s,m.e,w,m.state,m.ask,m.arg⟩,_,_,_,_,rfl,.inl rfl,.inl rfl,.inl rfl,.inl rfl,hs,⟨hm.fits,hm.len⟩⟩
 ·refine yP (UX hb a2) fun v c3 a3 ⟨y,e,hy⟩ => ?_
  subst e
  rw [xu,yb,yg,yb,yg,yb,yg,yo,yb,yf,yb,yh,yb,ye,yb,ye,yo,yo]
  exact yQ a3 ⟨y,m,_,_,_,_,rfl,.inr rfl,.inr rfl,.inr rfl,.inl rfl,hy,hm⟩
 ·refine yP (JJ hb a2) fun v c3 a3 ⟨p,e,hp,hpl⟩ => ?_
  subst e
  rw [xu,yb,yg,yo,yb,yf,yb,yh,yb,ye,yb,ye,yo,yo]
  exact yQ a3 ⟨x,⟨p,m.at',m.s,m.e,m.d,m.state,m.ask,m.arg⟩,_,_,_,_,rfl,.inl rfl,.inl rfl,.inl rfl,.inr rfl,hs,⟨Gj hp,Ic hpl⟩⟩
 ·exact yQ a2 ⟨x,m,_,_,_,_,rfl,.inl rfl,.inl rfl,.inl rfl,.inl rfl,hs,hm⟩
end
end Go.Eng
/-! an answer to a drawn machine: the law -/
namespace Go.Eng
open Go.Proofs Go.Proofs.Tryz
set_option maxHeartbeats 4000000

theorem U7 {q q' : List Nd} {m : List Bool} {to : List Int} (h : LP q q' m to) (r : List Nd) : LP q (q' ++ r) m to := by
 intro i x hx hm
 obtain ⟨j,h1,h2⟩ := h i x hx hm
 exact ⟨j,h1,by rw [List.getElem?_append_left (aQ h2)]; exact h2⟩
theorem TW {c : Cd} {m : Mc} (h : Db c m = true) {p : List Nd} (hp : yR p = true) {v : Int} (hv : InP p v) (hl : (Dw m p v).pool.length <= 3000) : JA (Dw m p v).pool (zu (-1) p v m.pool).2 = JA p v := by
 obtain ⟨o1,o2,o3⟩ := LM h hp hv
 obtain ⟨r1,r2,_⟩ := AL h
 obtain ⟨h1,h2⟩ := MR hp r2 [v] (-1)
 have hmv : LP p (Dw m p v).pool (Dk p [v]) (DW (-1) p [v] m.pool).1 := U7 h2 _
 exact SW hp (okPool_iff.2 ⟨o1,hl⟩) (FC hp [v]) hmv hv.1 hv.2 (Ij (IJ hv) v (by simp))
theorem W9 {c : Cd} {m : Mc} (h : Db c m = true) {p : List Nd} (hp : yR p = true) {v : Int} (hv : InP p v) (hl : (Dw m p v).pool.length <= 3000) (ha : AA c (m.at' + 1) = true) : Db c (Dw m p v) = true := by
 obtain ⟨o1,o2,t,o3⟩ := LM h hp hv
 obtain ⟨r1,r2,r3,r4,r5,r6,r7⟩ := AL h
 refine QG r1 o1 hl o2 ?_ ?_ (Gg rfl rfl rfl ha)
 ·show InP (Dw m p v).pool m.e
  rw [o3]; exact yW _ r5
 ·show InP (Dw m p v).pool m.d
  rw [o3]; exact yW _ r6
theorem PC (c : Cd) (m : Mc) (p : List Nd) (v : Int) (h : Db c m = true) : AR c m p v = m /\ (m.state = 1 -> True) \/ (∃ k,AR c m p v = Gd m k) \/ (m.state = 1 /\ yR p = true /\ InP p v /\ AA c (m.at' + 1) = true /\ (Dw m p v).pool.length <= 3000 /\ AR c m p v = Dw m p v) := by
 unfold AR
 rw [if_pos h]
 split
 ·rename_i hc
  have hv := wi_iff.1 hc.2.2
  split
  ·split
   ·exact .inr (.inr ⟨hc.1,hc.2.1,⟨hv.1,by omega⟩,‹_›,‹_›,rfl⟩)
   ·exact .inr (.inl ⟨6,rfl⟩)
  ·exact .inr (.inl ⟨7,rfl⟩)
 ·exact .inl ⟨rfl,fun _ => trivial⟩
section
variable {b : List Int}
noncomputable def PA (v : D) (l : List D) : Prop := l = [] /\ ∃ (x : Cd) (m : Mc) (M : D) (p : List Nd) (n : Int),v = .tup [eCd x,.agg [M,iN m.at',iN m.s,iN m.e,iN m.d,iN m.state,iN m.ask,iN m.arg],eP p,iN n] /\ Any 5 M (m.pool.map eN) /\ SomeC x /\ SomeM m /\ Ac p /\ p.length <= 3001
theorem KU (hb : b.length < 4611686018427387904) {x : Cd} (hx : SomeC x) : ∀ (k i : Nat) (c : Int × Int) (m : Mc),i + k = 40 -> zr b c -> SomeM m ->
  Got PA (z4 (i : Int) 0 0 0 0 0 0 0 (b.map eB) c.1 c.2 (x.pool.map eN) (x.list.map eIn) (x.defs.map eDf) m.at' m.s m.e m.d m.state m.ask m.arg (m.pool.map eN))
 | k,i,c,m,hi,hc,hm => by
  have hl := hm.len
  rw [FK]
  match k with
  | 0 =>
   rw [xb (decide_eq_false (by omega))]
   refine yP (JJ hb hc) fun v c2 a2 ⟨p,e,hp,hpl⟩ => ?_
   subst e
   have hpl := Ic hpl
   rw [xu,yb,yg,yo,yb,yf,yb,yh,yb,ye,yb,ye,yo,yo]
   refine yP (LZ hb a2 (p := p) (by omega)) fun v c3 a3 ⟨w,e,_,_⟩ => ?_
   subst e
   rw [ye,yb,yf,yb,yh,yb,ye,yb,ye,yo,yo]
   exact MF ⟨rfl,x,m,_,p,w,rfl,.inr rfl,hx,hm,Gj hp,hpl⟩
  | k + 1 =>
   rw [xK (decide_eq_true (by omega))]
   by_cases h0 : m.state = 0
   ·have hs := Iy hx.fits hm.fits (by omega)
    have ih := KU hb hx k (i + 1) c (NB x m) (by omega) hc (KR hm)
    rw [xK (yF h0),KN hs,yM (by omega)]
    exact ih
   ·rw [xb (yE h0)]
    refine yP (JJ hb hc) fun v c2 a2 ⟨p,e,hp,hpl⟩ => ?_
    subst e
    have hpl := Ic hpl
    rw [xu,yb,yg,yo,yb,yf,yb,yh,yb,ye,yb,ye,yo,yo]
    refine yP (LZ hb a2 (p := p) (by omega)) fun v c3 a3 ⟨w,e,_,_⟩ => ?_
    subst e
    rw [ye,yb,yf,yb,yh,yb,ye,yb,ye,yo,yo]
    exact MF ⟨rfl,x,m,_,p,w,rfl,.inr rfl,hx,hm,Gj hp,hpl⟩
 termination_by k => k
theorem UW (hb : b.length < 4611686018427387904) : Got PA (V 30 [.rs (1,0) (b.map eB)]) := by
 obtain ⟨c,e,hc⟩ := WH hb
 rw [Kx]
 refine JQ e ?_
 rw [yf,yb,yh,yb,ye,yb,ye,yo,yo]
 refine yP (UY hb hc) fun v c1 a1 ⟨x,m,X1,X2,X3,Y,e,h1,h2,h3,h4,hx,hm⟩ => ?_
 subst e
 have hl := hm.len
 rw [xw,yb,xu,yb,GK h1,yb,GK h2,yb,GK h3,yo,yb,xu,yb,GK h4,yb,ye,yb,ye,yb,ye,yb,ye,yb,ye,yb,ye,yb,ye,yo,yo,yb,yf,yb,yh,yb,ye,yb,ye,yo,yo]
 rw [GH,xK (by decide)]
 by_cases h0 : m.state = 0
 ·have hs := Iy hx.fits hm.fits (by omega)
  have ih := KU hb hx 39 1 c1 (NB x m) (by omega) a1 (KR hm)
  rw [xK (yF h0),KN hs,w64 (n := 0 + 1) (by omega) (by omega)]
  exact ih
 ·rw [xb (yE h0)]
  refine yP (JJ hb a1) fun v c2 a2 ⟨p,e,hp,hpl⟩ => ?_
  subst e
  have hpl := Ic hpl
  rw [xu,yb,yg,yo,yb,yf,yb,yh,yb,ye,yb,ye,yo,yo]
  refine yP (LZ hb a2 (p := p) (by omega)) fun v c3 a3 ⟨w,e,_,_⟩ => ?_
  subst e
  rw [ye,yb,yf,yb,yh,yb,ye,yb,ye,yo,yo]
  exact MF ⟨rfl,x,m,_,p,w,rfl,.inl rfl,hx,hm,Gj hp,hpl⟩
end
theorem Pz (s : ByteArray) : kc s s = true := by rw [Cm]; simp
theorem MJ {b : List Int} (hb : b.length < 4611686018427387904) : V 7 [.rs (1,0) (b.map eB)] = some (.bool true,[]) := by
 rw [Kv,VX (XW b)]
 cases hbig : decide ((b.length : Int) > 1048576) with
 | true => rfl
 | false =>
  obtain ⟨v,l,hd,rfl,x,m,M,p,n,rfl,hM,hx,hm,hpf,hpl⟩ := UW hb
  have hl := hm.len
  have k1 := Oz hx.fits hm.fits (by omega) hpf (by omega) n
  have k2 := Jo hx.fits hm.fits (by omega) hpf (by omega) n
  have k3 := Cy hx.fits hm.fits (by omega)
  have hne : ∀ z : Int,(z != z) = false := fun z => by simp
  rw [xJ]
  refine (xh hd _).trans ?_
  rw [xw,yb,xu,yb,yd,yb,yd,yb,yd,yo,yb,xu,yb,GK hM,yb,ye,yb,ye,yb,ye,yb,ye,yb,ye,yb,ye,yb,ye,yo,yb,xu,yb,yd,yo,yb,ye,yo,yo]
  rw [RZ k1,Ld k2,xb (hne _),xb (hne _),xb (hne _),D4 k3]
  cases hok : Db x m with
  | false =>
   have e : AR x m p n = SY := by unfold AR; rw [if_neg (by rw [hok]; decide)]
   rw [e,Bool.not_false,yk]
   rfl
  | true =>
   rw [Bool.not_true,xJ]
   obtain ⟨q1,q2,q3,q4,q5,q6,q7⟩ := AL hok
   have same : ∀ a : Mc,a = m \/ (∃ k,a = Gd m k) -> br (a.state == m.state) (br (a.at' == m.at') (some (D.bool true,([] : List D))) (some (.bool (a.state == 3),[]))) (some (.bool (a.state == 3),[])) = some (.bool true,[]) := by
    rintro a (rfl | ⟨k,rfl⟩)
    ·rw [xK (yF rfl),xK (yF rfl)]
    ·have e3 : ((Gd m k).state == 3) = true := rfl
     rw [e3]
     cases ((Gd m k).state == m.state) <;> cases ((Gd m k).at' == m.at') <;> rfl
   rcases PC x m p n hok with ⟨h,_⟩ | ⟨k,h⟩ | ⟨h1,h2,h3,h4,h5,h6⟩
   ·rw [h]
    by_cases s1 : m.state = 1
    ·rw [xb (yG s1),xK (yH (by omega))]
     exact same m (.inl rfl)
    ·rw [xK (yH s1)]
     exact same m (.inl rfl)
   ·rw [h]
    by_cases s1 : m.state = 1
    ·rw [xb (yG s1),xK (yH (by show (3 : Int) ≠ 0; decide))]
     exact same _ (.inr ⟨k,rfl⟩)
    ·rw [xK (yH s1)]
     exact same _ (.inr ⟨k,rfl⟩)
   ·obtain ⟨o1,o2,t,o3⟩ := LM hok h2 h3
    have hat := isPl_iff.1 h4
    obtain ⟨c1,c2,c3⟩ := zn q1
    have hnod : nod (Dw m p n).pool (Dw m p n).s = ndP (zu (-1) p n m.pool).2 m.s := RV _ _
    have w1 := J9 (Gy o1) (by omega) (zu (-1) p n m.pool).2
    have w2 := J9 hpf (by omega) n
    rw [TW hok h2 h3 h5] at w1
    have k4 := Gk hx.fits (Gy o1) (by omega)
    rw [W9 hok h2 h3 h5 h4] at k4
    rw [h6,xb (yG h1),xb (yG (show (Dw m p n).state = 0 from rfl)),yu (MH o2),xW (Fh o2),xu,yb,ye,yb,ye,yb,yi,yb,ye,yb,ye,yo,hnod,w64 (n := m.at' + 1) (by omega) (by omega),xK (yF (show (Dw m p n).at' = m.at' + 1 from rfl)),xK (yF (show (ndP (zu (-1) p n m.pool).2 m.s).kind = 5 from rfl)),xK (yF (show (ndP (zu (-1) p n m.pool).2 m.s).b = m.s from rfl)),Na w1,Na w2,xK (Pz _),Ia k4]
theorem Lq (xs : List D) (h : All2 (fun t x => ShapeV Tryz.prog t x) Tryz.f7.params.toList xs) : V 7 xs = some (.bool true,[]) := by
 rw [Tryz.params7] at h
 cases h with | cons h1 h =>
 cases h
 obtain ⟨b,rfl,hb⟩ := VF h1
 exact MJ hb
end Go.Eng
