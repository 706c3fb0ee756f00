/- the program and the reference on plain data, part 5 -/
import Derived.Test.YtkndfhaehnfnmaaGreatPart4
import Derived.Test.YtkndfhaehnfnmaaGreatPart1
import Derived.Test.YtkndfhaehnfnmaaGreatPart2
import Derived.Test.YtkndfhaehnfnmaaGreatEngC
import Derived.Test.YtkndfhaehnfnmaaGreatPart3
/-! compiling: the reference's side: expressions -/
namespace Go.Eng
noncomputable section
open Go.Proofs Go.Proofs.Tryz
set_option maxHeartbeats 4000000

theorem YO {p : List Nd} (hp : zh p) : ∀ (k : Nat) (v : Int),InP p v -> ∀ x ∈ (JQ p k v).1,x < v
 | 0,v,hv,x,hx => by simp [JQ] at hx
 | k + 1,v,hv,x,hx => by
  unfold JQ at hx
  split at hx
  ·rename_i h5
   have := Ay (JT hp hv) h5
   rcases List.mem_cons.1 hx with rfl | hx
   ·omega
   ·have := YO hp k _ (Ot hp hv h5) x hx; omega
  ·simp at hx
theorem abr {p : List Nd} (hp : zh p) {v : Int} (hv : InP p v) : ∀ x ∈ (Ac p v).1,x < v := YO hp _ v hv
theorem MF {p : List Nd} (v : Int) : (Ac p v).1.length <= v.toNat + 1 := Wg _ _
def Jo (E : List (List ByteArray) -> Int -> Ms -> Ms) : Prop := ∀ env v (m : Ms),m.list.length <= 400 -> Le m (E env v m)
theorem GQ {m : Ms} (h : m.list.length <= 400) {k : Int} (hk : k = 0 -> m.how = 0) : Le m (D6 m k) := ⟨Nat.le_refl _,h,hk,rfl⟩
theorem GC {E} (hE : Jo E) (env : List (List ByteArray)) : ∀ (xs : List Int) (f : Bool) (m : Ms),m.list.length <= 400 -> Le m (FH E env xs f m)
 | [],f,m,h => Le.refl h
 | x :: r,f,m,h => by
  unfold FH
  split
  ·have h1 : Le m (if f = true then m else z8 m (inO 9)) := by
    split
    ·exact Le.refl h
    ·exact z4 h _
   have h2 := hE env x _ h1.four
   exact (h1.trans h2).trans (GC hE env r false _ h2.four)
  ·exact Le.refl h
theorem XL {E} (hE : Jo E) (names : List ByteArray) (body : List Int) (env : List (List ByteArray)) {m : Ms} (h : m.list.length <= 400) : Le m (XK E names body env m) := by
 unfold XK
 simp only
 have a1 := z4 h ⟨6,0,names.length,⟨#[]⟩⟩
 have a2 := z4 a1.four (inO 5)
 have a3 := SI a2.four (Dz m)
 have a4 := GC hE (names :: env) body true _ a3.four
 have a5 := z4 a4.four (inO 8)
 have a6 := SI a5.four (Dz (z8 m ⟨6,0,names.length,⟨#[]⟩⟩))
 exact ((((a1.trans a2).trans a3).trans a4).trans a5).trans a6
theorem abn (out : List ByteArray) : ∀ (k i : Nat) (h : Int),PJ out k i h = 0 -> h = 0
 | 0,i,h,e => e
 | k + 1,i,h,e => by
  unfold PJ at e
  split at e
  ·assumption
  ·exact e
theorem abY (p : List Nd) : ∀ (xs : List Int) (h : Int) (out : List ByteArray),(KO p xs h out).2 = 0 -> h = 0
 | [],h,out,e => e
 | x :: r,h,out,e => by
  unfold KO at e
  split at e
  ·assumption
  ·exact e
theorem Ku {p : List Nd} {xs : List Int} {h : Int} (e : (AE p xs h).2 = 0) : h = 0 := by
 unfold AE at e
 have := abY p xs _ _ (abn _ _ _ _ e)
 split at this
 ·omega
 ·exact this
theorem abo {E} (hE : Jo E) (p : List Nd) (s : ByteArray) (xs : List Int) (env : List (List ByteArray)) {m : Ms} (h : m.list.length <= 400) : Le m (Qb E p s xs env m) := by
 unfold Qb
 simp only
 split
 ·exact z4 h _
 split
 ·have a1 := hE env (xs.getD 1 0) m h
  have a2 := z4 a1.four (inO 4)
  have a3 := hE env (xs.getD 2 0) _ a2.four
  have a4 := z4 a3.four (inO 5)
  have a5 := SI a4.four (Dz (E env (xs.getD 1 0) m))
  have a6 := hE env (xs.getD 3 0) _ a5.four
  exact (((((a1.trans a2).trans a3).trans a4).trans a5).trans a6).trans (SI a6.four _)
 split
 ·exact GC hE env _ true m h
 split
 ·split
  ·exact GQ h (by omega)
  ·have a1 : Le m (D6 m (AE p (Ac p (xs.getD 1 0)).1 m.how).2) := GQ h Ku
   exact a1.trans (XL hE _ _ env a1.four)
 split
 ·have a1 : Le m (D6 m (AE p [xs.getD 1 0] m.how).2) := GQ h Ku
  have a2 := XL hE (AE p [xs.getD 1 0] m.how).1 (xs.drop 3) env a1.four
  have a3 := hE env (xs.getD 2 0) _ a2.four
  exact ((a1.trans a2).trans a3).trans (z4 a3.four _)
 ·exact GQ h (by omega)
theorem YC {E} (hE : Jo E) (env : List (List ByteArray)) : ∀ (xs : List Int) (m : Ms),m.list.length <= 400 -> Le m (xs.foldl (fun m x => E env x m) m)
 | [],m,h => Le.refl h
 | x :: r,m,h => by
  have a1 := hE env x m h
  exact a1.trans (YC hE env r _ a1.four)
theorem IY (p : List Nd) : ∀ k,Jo (KU p k)
 | 0,env,v,m,h => Le.refl h
 | k + 1,env,v,m,h => by
  unfold KU
  split
  ·exact Le.refl h
  simp only
  split
  ·exact z4 h _
  split
  ·split
   ·exact GQ h (by omega)
   ·split <;> exact z4 h _
  split
  ·exact GQ h (by omega)
  split
  ·exact GQ h (by omega)
  split
  ·exact abo (IY p k) p _ _ env h
  split
  ·exact GQ h (by omega)
  ·have a1 := YC (IY p k) env (Ac p v).1 m h
   exact a1.trans (z4 a1.four _)

def LM (env : List (List ByteArray)) (n : Nat) : Prop := env.length + n <= 10000 /\ ∀ e ∈ env,e.length <= 10000
def Px (p : List Nd) (k : Nat) (E : List (List ByteArray) -> Int -> Ms -> Ms) : Prop := ∀ env v (m : Ms),InP p v -> v < (k : Int) -> LM env k -> m.list.length <= 400 -> V 244 [eMs p m,iN v,.rs (1,1) (eEs env)] = some (.tup [],[eMs p (E env v m)])
section
variable {p : List Nd} {k : Nat} {E : List (List ByteArray) -> Int -> Ms -> Ms}
theorem Nt (hG : Jo E) (hS : Px p k E) {env : List (List ByteArray)} (he : LM env k) {xs : List Int} (hl : xs.length <= 100000) (hx : ∀ x ∈ xs,InP p x /\ x < (k : Int)) : ∀ (j i : Nat) (m : Ms),i + j = xs.length -> m.list.length <= 400 ->
  BM (xs.map eI) (eEs env) (i : Int) m.how (p.map eN) (m.list.map eIn) (m.defs.map eDf) = some (.tup [],[eMs p (FH E env (xs.drop i) (decide (i = 0)) m)])
 | 0,i,m,hi,hm => by
  rw [Gx,xb (by rw [lnM]; exact yr (by omega)),List.drop_of_length_le (by omega)]
  rfl
 | j + 1,i,m,hi,hm => by
  obtain ⟨x,hg⟩ := xx (l := xs) (i := i) (by omega)
  obtain ⟨x1,x2⟩ := hx x (List.mem_of_getElem? hg)
  rw [Gx,xK (by rw [lnM]; exact yz (by omega)),tU hg,FH]
  by_cases h0 : m.how = 0
  ·rw [xK (yF h0),if_pos h0]
   by_cases hi0 : i = 0
   ·have a1 := hS env x m x1 x2 he hm
    have ih := Nt hG hS he hl hx j (i + 1) (E env x m) (by omega) (hG env x m hm).four
    rw [xb (decide_eq_false (by omega)),yu (by rw [lnM]; exact yx (by omega)),Int.toNat_natCast,xW hg,ye,BW a1,yM (by omega),ih,decide_eq_true hi0,if_pos rfl,decide_eq_false (by omega)]
   ·have a0 : V 237 [eMs p m,.agg [iN 9,iN 0,iN 0,.str ⟨#[]⟩]] = _ := Yl (p := p) hm (inO 9)
    have le := z4 hm (inO 9)
    have a1 := hS env x _ x1 x2 he le.four
    have ih := Nt hG hS he hl hx j (i + 1) (E env x (z8 m (inO 9))) (by omega) (hG env x _ le.four).four
    rw [xK (decide_eq_true (by omega)),zq a0,yu (by rw [lnM]; exact yx (by omega)),Int.toNat_natCast,xW hg,ye,BW a1,yM (by omega),ih,decide_eq_false hi0,if_neg (by simp),decide_eq_false (by omega)]
  ·rw [xb (yE h0),if_neg h0]
theorem Yi (hG : Jo E) (hS : Px p k E) {env : List (List ByteArray)} (he : LM env k) {xs : List Int} (hl : xs.length <= 100000) (hx : ∀ x ∈ xs,InP p x /\ x < (k : Int)) {m : Ms} (hm : m.list.length <= 400) : V 236 [eMs p m,.rs (1,0) (xs.map eI),.rs (1,1) (eEs env)] = some (.tup [],[eMs p (FH E env xs true m)]) := by
 have h := Nt hG hS he hl hx xs.length 0 m (by omega) hm
 rw [TU]
 simpa using h
theorem DC {p : List Nd} {m : Ms} (h : m.list.length <= 400) (op n i : Int) : V 237 [eMs p m,.agg [iN op,iN n,iN i,.str ⟨#[]⟩]] = some (iN (Dz m),[eMs p (z8 m ⟨op,n,i,⟨#[]⟩⟩)]) := Yl h ⟨op,n,i,⟨#[]⟩⟩
theorem abP (hG : Jo E) (hS : Px p k E) {names : List ByteArray} (hn : names.length <= 10000) {env : List (List ByteArray)} (he : LM env (k + 1)) {xs : List Int} (hl : xs.length <= 100000) (hx : ∀ x ∈ xs,InP p x /\ x < (k : Int)) {m : Ms} (hm : m.list.length <= 400) : V 254 [eMs p m,.rs (1,0) (names.map D.str),.rs (1,0) (xs.map eI),.rs (1,1) (eEs env)] = some (.tup [],[eMs p (XK E names xs env m)]) := by
 have he1 := he.1
 have e1 : [D.rs (1,0) (names.map D.str)] ++ eEs env = eEs (names :: env) := rfl
 have hlim : decide (ni (eEs (names :: env)).length <= LIM) = true := decide_eq_true (by rw [pE]; simp only [ni,lnM,lnC]; omega)
 have he2 : LM (names :: env) k := ⟨by simp only [lnC]; omega,fun e h => by
  rcases List.mem_cons.1 h with rfl | h
  ·exact hn
  ·exact he.2 e h⟩
 have a1 := z4 hm ⟨6,0,names.length,⟨#[]⟩⟩
 have i1 := Pj hm ⟨6,0,names.length,⟨#[]⟩⟩
 have a2 := z4 a1.four (inO 5)
 have i2 := Pj a1.four (inO 5)
 have a3 := SI a2.four (Dz m)
 have a4 := GC hG (names :: env) xs true _ a3.four
 have a5 := z4 a4.four (inO 8)
 have e0 : ni (names.map D.str).length = (names.length : Int) := by rw [lnM]
 have b1 := DC (p := p) hm 6 0 names.length
 have b2 := DC (p := p) a1.four 5 0 0
 have b3 := abD (p := p) a2.four (k := Dz m) (fun h => by have := i1 (a2.how h); have := a2.len; omega)
 have b4 := Yi hG hS he2 hl hx a3.four
 have b5 := DC (p := p) a4.four 8 0 0
 have b6 := abD (p := p) a5.four (k := Dz (z8 m ⟨6,0,names.length,⟨#[]⟩⟩)) (fun h => by have := i2 (a3.how (a4.how (a5.how h))); have := a5.len; have := a4.len; have := a3.len; omega)
 rw [VK,e0,zq b1,zq b2,Kv b3,e1,yu hlim,yA,GJ b4,zq b5,Kv b6]
 rfl
theorem AX {s : ByteArray} {a b : List UInt8} (h : kc s (mk a) = true) (hn : a ≠ b) : kc s (mk b) = false := by
 rw [Bv] at h ⊢
 simp only [decide_eq_true_eq,decide_eq_false_iff_not] at h ⊢
 intro e
 exact hn (mk_inj.1 (h.symm.trans e))
theorem ab5 (hp : zh p) (hl : p.length < 100000) (hG : Jo E) (hS : Px p k E) {env : List (List ByteArray)} (he : LM env (k + 1)) {xs : List Int} (hn : xs ≠ []) (hxl : xs.length <= 100000) (hx : ∀ x ∈ xs,InP p x /\ x < (k : Int)) {m : Ms} (hm : m.list.length <= 400) (s : ByteArray) : V 249 [eMs p m,.str s,.rs (1,0) (xs.map eI),.rs (1,1) (eEs env)] = some (.tup [],[eMs p (Qb E p s xs env m)]) := by
 have he1 := he.1
 have he2 : LM env k := ⟨by omega,he.2⟩
 have get : ∀ i : Nat,i < xs.length -> InP p (xs.getD i 0) /\ xs.getD i 0 < (k : Int) /\ xs[i]? = some (xs.getD i 0) := fun i hi => by
  obtain ⟨x,hg⟩ := xx (l := xs) (i := i) hi
  have e : xs.getD i 0 = x := by rw [List.getD_eq_getElem?_getD,hg]; rfl
  obtain ⟨g1,g2⟩ := hx x (List.mem_of_getElem? hg)
  rw [e]
  exact ⟨g1,g2,hg⟩
 have hdrop : ∀ n,∀ x ∈ xs.drop n,InP p x /\ x < (k : Int) := fun n x h => hx x (List.mem_of_mem_drop h)
 have hdl : ∀ n,(xs.drop n).length <= 100000 := fun n => by rw [List.length_drop]; omega
 have cut : ∀ n : Int,0 <= n -> n <= (xs.length : Int) -> cW (xs.map eI).length (some n) none = true := fun n h0 h1 => by simp [cW]; omega
 have cutd1 : wu (xs.map eI) 1 = (xs.drop 1).map eI := by unfold wu; rw [List.map_drop]; rfl
 have cutd2 : wu (xs.map eI) 2 = (xs.drop 2).map eI := by unfold wu; rw [List.map_drop]; rfl
 have cutd3 : wu (xs.map eI) 3 = (xs.drop 3).map eI := by unfold wu; rw [List.map_drop]; rfl
 have other : ∀ {a b : List UInt8},kc s (mk a) = true -> a ≠ b -> ¬ kc s (mk b) = true := fun h hn e => by rw [AX h hn] at e; cases e
 rw [Ua]
 repeat rw [shd_eq]
 unfold Qb
 by_cases hq : kc s (mk [113,117,111,116,101]) = true
 ·have tq : kc s ⟨#[113,117,111,116,101]⟩ = true := hq
  have ti : kc s ⟨#[105,102]⟩ = false := AX hq (by decide)
  have td : kc s ⟨#[100,111]⟩ = false := AX hq (by decide)
  have tf : kc s ⟨#[102,110]⟩ = false := AX hq (by decide)
  have tl : kc s ⟨#[108,101,116]⟩ = false := AX hq (by decide)
  by_cases h2 : xs.length = 2
  ·obtain ⟨g1,g2,g3⟩ := get 1 (by omega)
   have b1 := DC (p := p) hm 1 (xs.getD 1 0) 0
   rw [if_pos ⟨hq,h2⟩,xK tq,xK (yF (Oq (by omega))),yu (by rw [lnM]; simp only [ni,Bool.and_eq_true,decide_eq_true_eq]; omega),xW g3,ye,zq b1]
  ·rw [if_neg (fun h => h2 h.2),if_neg (fun h => other hq (by decide) h.1),if_neg (fun h => other hq (by decide) h.1),if_neg (fun h => other hq (by decide) h.1),if_neg (fun h => other hq (by decide) h.1),xK tq,xb (yE (Sg (by omega))),xb ti,xb td,xb tf,xb tl]
   rfl
 have tq : kc s ⟨#[113,117,111,116,101]⟩ = false := by cases e : kc s ⟨#[113,117,111,116,101]⟩ with | true => exact absurd e hq | false => rfl
 rw [if_neg (fun h => hq h.1),xb tq]
 by_cases hi : kc s (mk [105,102]) = true
 ·have ti : kc s ⟨#[105,102]⟩ = true := hi
  have td : kc s ⟨#[100,111]⟩ = false := AX hi (by decide)
  have tf : kc s ⟨#[102,110]⟩ = false := AX hi (by decide)
  have tl : kc s ⟨#[108,101,116]⟩ = false := AX hi (by decide)
  by_cases h4 : xs.length = 4
  ·obtain ⟨g1,g2,g3⟩ := get 1 (by omega)
   obtain ⟨g4,g5,g6⟩ := get 2 (by omega)
   obtain ⟨g7,g8,g9⟩ := get 3 (by omega)
   have l1 := hG env (xs.getD 1 0) m hm
   have l2 := z4 l1.four (inO 4)
   have i2 := Pj l1.four (inO 4)
   have l3 := hG env (xs.getD 2 0) _ l2.four
   have l4 := z4 l3.four (inO 5)
   have i4 := Pj l3.four (inO 5)
   have l5 := SI l4.four (Dz (E env (xs.getD 1 0) m))
   have l6 := hG env (xs.getD 3 0) _ l5.four
   have b1 := hS env (xs.getD 1 0) m g1 g2 he2 hm
   have b2 := DC (p := p) l1.four 4 0 0
   have b3 := hS env (xs.getD 2 0) _ g4 g5 he2 l2.four
   have b4 := DC (p := p) l3.four 5 0 0
   have b5 := abD (p := p) l4.four (k := Dz (E env (xs.getD 1 0) m)) (fun h => by have := i2 (l3.how (l4.how h)); have := l4.len; have := l3.len; omega)
   have b6 := hS env (xs.getD 3 0) _ g7 g8 he2 l5.four
   have b7 := abD (p := p) l6.four (k := Dz (E env (xs.getD 2 0) (z8 (E env (xs.getD 1 0) m) (inO 4)))) (fun h => by have := i4 (l5.how (l6.how h)); have := l6.len; have := l5.len; omega)
   rw [if_pos ⟨hi,h4⟩,xK ti,xK (yF (Oq (by omega))),yu (by rw [lnM]; simp only [ni,Bool.and_eq_true,decide_eq_true_eq]; omega),xW g3,ye,BW b1,zq b2,yu (by rw [lnM]; simp only [ni,Bool.and_eq_true,decide_eq_true_eq]; omega),xW g6,ye,BW b3,zq b4,Kv b5,yu (by rw [lnM]; simp only [ni,Bool.and_eq_true,decide_eq_true_eq]; omega),xW g9,ye,BW b6,Kv b7]
  ·rw [if_neg (fun h => h4 h.2),if_neg (fun h => other hi (by decide) h.1),if_neg (fun h => other hi (by decide) h.1),if_neg (fun h => other hi (by decide) h.1),xK ti,xb (yE (Sg (by omega))),xb td,xb tf,xb tl]
   rfl
 have ti : kc s ⟨#[105,102]⟩ = false := by cases e : kc s ⟨#[105,102]⟩ with | true => exact absurd e hi | false => rfl
 rw [if_neg (fun h => hi h.1),xb ti]
 by_cases hd : kc s (mk [100,111]) = true
 ·have td : kc s ⟨#[100,111]⟩ = true := hd
  have tf : kc s ⟨#[102,110]⟩ = false := AX hd (by decide)
  have tl : kc s ⟨#[108,101,116]⟩ = false := AX hd (by decide)
  by_cases h2 : 2 <= xs.length
  ·have b1 := Yi hG hS he2 (hdl 1) (hdrop 1) hm
   rw [if_pos ⟨hd,h2⟩,xK td,lnM,xK (decide_eq_true (by simp only [ni]; omega)),<- lnM (f := eI),yu (cut 1 (by omega) (by omega)),cutd1,GJ b1]
  ·rw [if_neg (fun h => h2 h.2),if_neg (fun h => other hd (by decide) h.1),if_neg (fun h => other hd (by decide) h.1),xK td,xb (decide_eq_false (by rw [lnM]; simp only [ni]; omega)),xb tf,xb tl]
   rfl
 have td : kc s ⟨#[100,111]⟩ = false := by cases e : kc s ⟨#[100,111]⟩ with | true => exact absurd e hd | false => rfl
 rw [if_neg (fun h => hd h.1),xb td]
 by_cases hf : kc s (mk [102,110]) = true
 ·have tf : kc s ⟨#[102,110]⟩ = true := hf
  have tl : kc s ⟨#[108,101,116]⟩ = false := AX hf (by decide)
  by_cases h3 : 3 <= xs.length
  ·obtain ⟨g1,g2,g3⟩ := get 1 (by omega)
   have b1 := Gg hp (by omega) g1
   rw [if_pos ⟨hf,h3⟩,xK tf,xK (decide_eq_true (by rw [lnM]; simp only [ni]; omega)),yu (by rw [lnM]; simp only [ni,Bool.and_eq_true,decide_eq_true_eq]; omega),xW g3,ye,CG b1]
   simp only
   cases hb : (Ac p (xs.getD 1 0)).2 with
   | false => rw [if_pos rfl,Bool.not_false,yk]; rfl
   | true =>
    have ll := MF (p := p) (xs.getD 1 0)
    obtain ⟨b2,b3⟩ := U7 (p := p) m (xs := (Ac p (xs.getD 1 0)).1) (by have := g1.2; omega) (Kq hp g1)
    have l1 : Le m (D6 m (AE p (Ac p (xs.getD 1 0)).1 m.how).2) := GQ hm Ku
    have b4 := abP hG hS (names := (AE p (Ac p (xs.getD 1 0)).1 m.how).1) (by have := g1.2; omega) he (hdl 2) (hdrop 2) l1.four
    rw [if_pos (rfl : true = true),if_neg (by decide : ¬ true = false),Bool.not_true,xJ,Jd b2,yu (cut 2 (by omega) (by omega)),cutd2,Qw b4]
  ·rw [if_neg (fun h => h3 h.2),if_neg (fun h => other hf (by decide) h.1),xK tf,xb (decide_eq_false (by rw [lnM]; simp only [ni]; omega)),xb tl]
   rfl
 have tf : kc s ⟨#[102,110]⟩ = false := by cases e : kc s ⟨#[102,110]⟩ with | true => exact absurd e hf | false => rfl
 rw [if_neg (fun h => hf h.1),xb tf]
 by_cases hl : kc s (mk [108,101,116]) = true
 ·have tl : kc s ⟨#[108,101,116]⟩ = true := hl
  by_cases h4 : 4 <= xs.length
  ·obtain ⟨g1,g2,g3⟩ := get 1 (by omega)
   obtain ⟨g4,g5,g6⟩ := get 2 (by omega)
   have ec : wu (wt (xs.map eI) 2) 1 = [xs.getD 1 0].map eI := by
    obtain ⟨g7,g8,g9⟩ := get 0 (by omega)
    match xs,h4 with
    | a :: b :: r,_ => rfl
   obtain ⟨b2,b3⟩ := U7 (p := p) m (xs := [xs.getD 1 0]) (by simp) (fun x h => by rw [List.mem_singleton.1 h]; exact g1)
   have l1 : Le m (D6 m (AE p [xs.getD 1 0] m.how).2) := GQ hm Ku
   have b4 := abP hG hS (names := (AE p [xs.getD 1 0] m.how).1) (by have : [xs.getD 1 0].length = 1 := rfl; omega) he (hdl 3) (hdrop 3) l1.four
   have l2 := XL hG (AE p [xs.getD 1 0] m.how).1 (xs.drop 3) env l1.four
   have b5 := hS env (xs.getD 2 0) _ g4 g5 he2 l2.four
   have l3 := hG env (xs.getD 2 0) _ l2.four
   have b6 := DC (p := p) l3.four 7 0 1
   rw [if_pos ⟨hl,h4⟩,xK tl,xK (decide_eq_true (by rw [List.length_map]; simp only [ni]; omega)),yu (by simp [cW]; omega),ec,Jd b2,yu (cut 3 (by omega) (by omega)),cutd3,Qw b4,yu (by rw [List.length_map]; simp only [ni,Bool.and_eq_true,decide_eq_true_eq]; omega),xW g6,ye,BW b5,zq b6]
  ·rw [if_neg (fun h => h4 h.2),xK tl,xb (decide_eq_false (by rw [lnM]; simp only [ni]; omega))]
   rfl
 have tl : kc s ⟨#[108,101,116]⟩ = false := by cases e : kc s ⟨#[108,101,116]⟩ with | true => exact absurd e hl | false => rfl
 rw [if_neg (fun h => hl h.1),xb tl]
 rfl
end
theorem UB {p : List Nd} {v : Int} (h : (nod p v).kind = 5) : (Ac p v).1 ≠ [] := by
 unfold Ac JQ
 rw [if_pos h]
 simp
theorem RN {p : List Nd} {k : Nat} {E : List (List ByteArray) -> Int -> Ms -> Ms} (hG : Jo E) (hS : Px p k E) {env : List (List ByteArray)} (he : LM env k) {xs : List Int} (hl : xs.length <= 100000) (hx : ∀ x ∈ xs,InP p x /\ x < (k : Int)) : ∀ (j i : Nat) (m : Ms),i + j = xs.length -> m.list.length <= 400 ->
  Aq (eEs env) (i : Int) m.how (xs.map eI) (p.map eN) (m.list.map eIn) (m.defs.map eDf) = some (.tup [],[eMs p (z8 ((xs.drop i).foldl (fun m x => E env x m) m) ⟨7,0,(xs.length : Int) - 1,⟨#[]⟩⟩)])
 | 0,i,m,hi,hm => by
  have b : V 237 [eMs p m,.agg [iN 7,iN 0,iN (ni xs.length - 1),.str ⟨#[]⟩]] = _ := DC (p := p) hm 7 0 ((xs.length : Int) - 1)
  rw [Fx,lnM,xb (yr (by omega)),List.drop_of_length_le (by omega),w64 (n := ni xs.length - 1) (by simp only [ni]; omega) (by simp only [ni]; omega),zq b]
  rfl
 | j + 1,i,m,hi,hm => by
  obtain ⟨x,hg⟩ := xx (l := xs) (i := i) (by omega)
  obtain ⟨x1,x2⟩ := hx x (List.mem_of_getElem? hg)
  have a1 := hS env x m x1 x2 he hm
  have ih := RN hG hS he hl hx j (i + 1) (E env x m) (by omega) (hG env x m hm).four
  rw [Fx,xK (by rw [lnM]; exact yz (by omega)),yu (by rw [lnM]; exact yx (by omega)),Int.toNat_natCast,xW hg,ye,BW a1,yM (by omega),ih,tU hg,List.foldl_cons]
theorem aa0 {p : List Nd} (hp : zh p) (hl : p.length < 100000) : ∀ k,k <= 100000 -> Px p k (KU p k)
 | 0,hk,env,v,m,hv,hlt,he,hm => by have := hv.1; omega
 | k + 1,hk,env,v,m,hv,hlt,he,hm => by
  have ih := aa0 hp hl k (by omega)
  have hG := IY p k
  have he2 : LM env k := ⟨by have := he.1; omega,he.2⟩
  rw [TZ]
  repeat rw [shd_eq]
  unfold KU
  by_cases h0 : m.how = 0
  ·rw [xb (yG h0),if_neg (fun h => h h0),GP hv]
   simp only
   have bl := DC (p := p) hm 1 v 0
   by_cases k1 : (nod p v).kind = 1
   ·rw [xK (yF k1),xK (yF k1),zq bl,if_pos (.inl k1)]
   rw [xb (yE k1)]
   by_cases k2 : (nod p v).kind = 2
   ·rw [xK (yF k2),xK (yF k2),zq bl,if_pos (.inr (.inl k2))]
   rw [xb (yE k2)]
   by_cases k3 : (nod p v).kind = 3
   ·rw [xK (yF k3),zq bl,if_pos (.inr (.inr k3))]
   rw [xb (yE k3),if_neg (by omega)]
   by_cases k4 : (nod p v).kind = 4
   ·rw [xK (yF k4),if_pos k4,EO (Yn _)]
    cases hr : Yg (nod p v).s with
    | true => rw [yk,if_pos rfl]; rfl
    | false =>
     have hw := acs (nod p v).s (env := env) (by have := he.1; omega) (fun e h => by have := he.2 e h; omega)
     rw [xJ,if_neg (by decide)]
     cases hvn : Z6 (nod p v).s env 0 with
     | none =>
      rw [hvn] at hw
      have b := Yl (p := p) hm ⟨3,0,0,(nod p v).s⟩
      rw [Qx hw,xb (decide_eq_false (by omega)),zq b]
     | some ni =>
      obtain ⟨n,i⟩ := ni
      rw [hvn] at hw
      have b := DC (p := p) hm 2 n i
      rw [Qx hw,xK (decide_eq_true (by omega)),zq b]
   rw [xb (yE k4),if_neg k4]
   by_cases k5 : (nod p v).kind = 5
   ·have b1 := Gg hp (by omega) hv
    rw [xb (yG k5),if_neg (fun h => h k5),CG b1]
    cases hb : (Ac p v).2 with
    | false => rw [if_pos rfl,Bool.not_false,yk]; rfl
    | true =>
     have ll := MF (p := p) v
     have hne := UB k5
     have hin := Kq hp hv
     have hlt2 := abr hp hv
     rw [if_pos (rfl : true = true),if_neg (by decide : ¬ true = false),Bool.not_true,xJ]
     generalize hxs : (Ac p v).1 = xs at ll hne hin hlt2 ⊢
     have hx : ∀ x ∈ xs,InP p x /\ x < (k : Int) := fun x h => ⟨hin x h,by have := hlt2 x h; omega⟩
     obtain ⟨a,r,rfl⟩ : ∃ a r,xs = a :: r := by
      cases xs with
      | nil => exact absurd rfl hne
      | cons a r => exact ⟨a,r,rfl⟩
     have ha := hin a (by simp)
     have hcl := RN hG ih he2 (xs := a :: r) (by have := hv.2; omega) hx (a :: r).length 0 m (by omega) hm
     rw [Int.natCast_zero,List.drop_zero] at hcl
     rw [Cq,GP ha]
     simp only [List.getD_cons_zero]
     have fin : (br (decide (ni ((a :: r).map eI).length > 5)) (some (.tup [],[.op [.os (5,0) (p.map eN),.os (4,0) (m.list.map eIn),.os (3,0) (m.defs.map eDf),iN 1]])) (Aq (eEs env) 0 m.how ((a :: r).map eI) (p.map eN) (m.list.map eIn) (m.defs.map eDf))) = some (.tup [],[eMs p (if (a :: r).length > 5 then D6 m 1 else z8 ((a :: r).foldl (fun m x => KU p k env x m) m) ⟨7,0,((a :: r).length : Int) - 1,⟨#[]⟩⟩)]) := by
      rw [lnM]
      by_cases h5 : (a :: r).length > 5
      ·rw [xK (decide_eq_true (by simp only [ni]; omega)),if_pos h5]; rfl
      ·rw [xb (decide_eq_false (by simp only [ni]; omega)),if_neg h5,hcl]
     by_cases ka : (nod p a).kind = 4
     ·rw [xK (yF ka),EO (Yn _)]
      cases hr : Yg (nod p a).s with
      | true =>
       have bf := ab5 hp hl hG ih he (xs := a :: r) (by simp) (by have := hv.2; omega) hx hm (nod p a).s
       rw [yk,WC bf,if_pos ⟨ka,rfl⟩]
      | false => rw [xJ,if_neg (fun h => by simp at h)]; exact fin
     ·rw [xb (yE ka),if_neg (fun h => ka h.1)]; exact fin
   ·rw [xK (yH k5),if_pos k5]; rfl
  ·rw [xK (yH h0),if_pos h0]
end
end Go.Eng
/-! compiling: the reference's side: definitions,programs -/
namespace Go.Eng
open Go.Proofs Go.Proofs.Tryz
set_option maxHeartbeats 4000000

theorem aci {R : Type} (x : Df) (K : ByteArray -> Option R) : (asAgg (eDf x) fun l => cT l 0 fun y => asS y fun n => K n) = K x.name := rfl
theorem abV {p : List Nd} (s : ByteArray) (names : List ByteArray) (body : List Int) {m : Ms} (h : m.list.length <= 400) : (Nw p s names body m).list.length <= 400 /\ m.list.length <= (Nw p s names body m).list.length /\ ((Nw p s names body m).how = 0 -> m.list.length < (Nw p s names body m).list.length) := by
 unfold Nw
 have a1 := GC (E := Jq p) (fun env v m h => IY p _ env v m h) [names] body true ⟨m.list,m.defs ++ [⟨s,m.list.length,names.length⟩],KQ s m.defs m.how⟩ h
 have a2 := z4 a1.four (inO 8)
 have a3 := a1.len
 have a4 := a2.len
 refine ⟨a2.four,by simp only at a3; omega,fun h0 => ?_⟩
 have h1 := a2.how h0
 have : (z8 (FH (Jq p) [names] body true ⟨m.list,m.defs ++ [⟨s,m.list.length,names.length⟩],KQ s m.defs m.how⟩) (inO 8)).list.length = (FH (Jq p) [names] body true ⟨m.list,m.defs ++ [⟨s,m.list.length,names.length⟩],KQ s m.defs m.how⟩).list.length + 1 := by
  unfold z8 at h0 ⊢
  rw [if_pos h1] at h0 ⊢
  split at h0
  ·simp at h0
  ·rename_i e; rw [if_neg e]; simp
 simp only at a3
 omega
theorem acp {p : List Nd} (hp : zh p) (hl : p.length <= 5000) : Px p p.length (Jq p) := fun env v m hv hlt he hm => by
 unfold Jq
 exact aa0 hp (by omega) (v.toNat + 1) (by omega) env v m hv (by have := hv.1; omega) ⟨by have := he.1; omega,he.2⟩ hm
theorem RY {p : List Nd} (hp : zh p) (hl : p.length <= 5000) {s : ByteArray} {names : List ByteArray} (hn : names.length <= 10000) {body : List Int} (hbl : body.length <= 100000) (hb : ∀ x ∈ body,InP p x) {m : Ms} (hm : m.list.length <= 400) (hd : m.defs.length <= 1000000) : ∀ (k i : Nat) (h : Int),i + k = m.defs.length ->
  AM s (names.map D.str) (body.map eI) (i : Int) h (p.map eN) (m.list.map eIn) (m.defs.map eDf) = some (.tup [],[eMs p (z8 (FH (Jq p) [names] body true ⟨m.list,m.defs ++ [⟨s,m.list.length,names.length⟩],KQ s (m.defs.drop i) h⟩) (inO 8))])
 | k,i,h,hi => by
  have ea : m.defs.map eDf ++ [D.agg [D.str s,iN (ni (m.list.map eIn).length),iN (ni (names.map D.str).length)]] = (m.defs ++ [(⟨s,m.list.length,names.length⟩ : Df)]).map eDf := by
   rw [List.map_append,lnM,lnM]; rfl
  have hlim : decide (ni ((m.defs ++ [(⟨s,m.list.length,names.length⟩ : Df)]).map eDf).length <= LIM) = true := decide_eq_true (by rw [pE]; simp only [ni,lnM,lnA,lnC,lnN]; omega)
  have hG : Jo (Jq p) := fun env v m h => IY p _ env v m h
  have b1 : ∀ h' : Int,V 236 [eMs p ⟨m.list,m.defs ++ [(⟨s,m.list.length,names.length⟩ : Df)],h'⟩,.rs (1,0) (body.map eI),.rs (1,1) [.rs (1,0) (names.map D.str)]] = some (.tup [],[eMs p (FH (Jq p) [names] body true ⟨m.list,m.defs ++ [(⟨s,m.list.length,names.length⟩ : Df)],h'⟩)]) := fun h' => Yi (m := ⟨m.list,m.defs ++ [(⟨s,m.list.length,names.length⟩ : Df)],h'⟩) hG (acp hp hl) (env := [names]) ⟨by simp; omega,fun e he => by rw [List.mem_singleton.1 he]; exact hn⟩ hbl (fun x h => ⟨hb x h,(hb x h).2⟩) hm
  have b2 := fun h' : Int => DC (p := p) (GC hG [names] body true ⟨m.list,m.defs ++ [(⟨s,m.list.length,names.length⟩ : Df)],h'⟩ hm).four 8 0 0
  rw [KH,ea]
  match k with
  | 0 =>
   rw [xb (by rw [lnM]; exact yr (by omega)),List.drop_of_length_le (by omega),KQ,yu hlim,yA,GJ (b1 h),zq (b2 h)]
  | k + 1 =>
   obtain ⟨d,hg⟩ := xx (l := m.defs) (i := i) (by omega)
   rw [xK (by rw [lnM]; exact yz (by omega)),tU hg,KQ]
   by_cases h0 : h = 0
   ·have ih := fun h' => RY hp hl (s := s) hn hbl hb hm hd k (i + 1) h' (by omega)
    rw [xK (yF h0),if_pos h0,yu (by rw [lnM]; exact yx (by omega)),Int.toNat_natCast,xW hg,aci,yM (by omega),ih,ih,h0]
    cases kc d.name s with
    | true => rw [yk,if_pos rfl]
    | false => rw [xJ,if_neg (by decide)]
   ·rw [xb (yE h0),if_neg h0,yu hlim,yA,GJ (b1 h),zq (b2 h)]
 termination_by k => k
theorem abO {p : List Nd} (hp : zh p) (hl : p.length <= 5000) (s : ByteArray) {names : List ByteArray} (hn : names.length <= 10000) {body : List Int} (hbl : body.length <= 100000) (hb : ∀ x ∈ body,InP p x) {m : Ms} (hm : m.list.length <= 400) (hd : m.defs.length <= 1000000) : V 229 [eMs p m,.str s,.rs (1,0) (names.map D.str),.rs (1,0) (body.map eI)] = some (.tup [],[eMs p (Nw p s names body m)]) := by
 have h := RY hp hl (s := s) hn hbl hb hm hd m.defs.length 0 m.how (by omega)
 rw [PR]
 rw [Int.natCast_zero,List.drop_zero] at h
 exact h
theorem aaK (l : List Int) (k : Nat) (K : Int) (hK : K.toNat = k) : part (l.map eI) (some (K.toNat,(l.map eI).length - K.toNat)) = (l.drop k).map eI := by
 rw [hK]
 simp only [part]
 rw [<- List.map_drop]
 exact List.take_of_length_le (by simp)
theorem acr {p : List Nd} (hp : zh p) (hl : p.length <= 5000) {v : Int} (hv : InP p v) {m : Ms} (hm : m.list.length <= 400) (hd : m.defs.length <= 1000000) : V 215 [eMs p m,iN v] = some (.tup [],[eMs p (QL p v m)]) := by
 have dm : V 229 [eMs p m,.str ⟨#[109,97,105,110]⟩,.rs (1,0) [],.rs (1,0) [iN v]] = some (.tup [],[eMs p (Nw p aaB [] [v] m)]) := abO hp hl aaB (names := []) (by simp) (body := [v]) (by simp) (fun x h => by rw [List.mem_singleton.1 h]; exact hv) hm hd
 rw [VL,SY hv]
 unfold QL
 simp only
 by_cases k5 : (nod p v).kind = 5
 ·have b1 := Gg hp (by omega) hv
  rw [xK (yF k5),CG b1]
  cases hb : (Ac p v).2 with
  | false => rw [if_neg (by decide : ¬ false = true),Bool.not_false,yk,CH dm,if_neg (fun h => by simp at h)]
  | true =>
   have ll := MF (p := p) v
   have hne := UB k5
   have hin := Kq hp hv
   rw [if_pos (rfl : true = true),Bool.not_true,xJ]
   generalize hxs : (Ac p v).1 = xs at ll hne hin ⊢
   obtain ⟨a,r,rfl⟩ : ∃ a r,xs = a :: r := by
    cases xs with
    | nil => exact absurd rfl hne
    | cons a r => exact ⟨a,r,rfl⟩
   have ha := hin a (by simp)
   have e2 := adc (R := Ret) (nod p a)
   rw [Cq,SY ha]
   simp only [List.getD_cons_zero]
   by_cases k4 : (nod p a).kind = 4
   ·rw [xb (yG k4),Cq,yu (Sb ha),xW (I9 ha),e2]
    by_cases hs : kc (nod p a).s (mk [100,101,102,105,110,101]) = true
    ·have hs' : kc (nod p a).s ⟨#[100,101,102,105,110,101]⟩ = true := hs
     rw [hs',Bool.not_true,xJ,if_pos ⟨k5,trivial,k4,hs⟩]
     by_cases h3 : (a :: r).length < 3
     ·rw [xK (decide_eq_true (by rw [lnM]; simp only [ni]; omega)),if_pos (.inl h3)]; rfl
     ·rw [xb (decide_eq_false (by rw [lnM]; simp only [ni]; omega))]
      obtain ⟨b,c,r,rfl⟩ : ∃ b c r',r = b :: c :: r' := by
       match r,h3 with
       | b :: c :: r',_ => exact ⟨b,c,r',rfl⟩
       | [],h => simp at h
       | [_],h => simp at h
      have hb1 := hin b (by simp)
      rw [I8,SY hb1]
      simp only [List.getD_cons_succ,List.getD_cons_zero]
      by_cases kb : (nod p b).kind = 5
      ·have b2 := Gg hp (by omega) hb1
       rw [xb (yG kb),I8,if_neg (fun h => h.elim h3 (fun h => h kb)),CG b2]
       cases hbb : (Ac p b).2 with
       | false => rw [if_neg (by decide : ¬ false = true),Bool.not_false,yk,if_pos rfl]; rfl
       | true =>
        have l2 := MF (p := p) b
        have n2 := UB kb
        have i2 := Kq hp hb1
        rw [if_pos (rfl : true = true),Bool.not_true,xJ,if_neg (by decide : ¬ true = false)]
        generalize hys : (Ac p b).1 = ys at l2 n2 i2 ⊢
        obtain ⟨f,q,rfl⟩ : ∃ f q,ys = f :: q := by
         cases ys with
         | nil => exact absurd rfl n2
         | cons f q => exact ⟨f,q,rfl⟩
        have hf := i2 f (by simp)
        have bn := aa5 (p := p) m hf
        rw [Cq,OC bn]
        simp only [List.getD_cons_zero]
        cases hnm : nmC p f with
        | false => rw [Bool.not_false,yk,if_pos rfl]; rfl
        | true =>
         have hq : ∀ x ∈ (f :: q).drop 1,InP p x := fun x h => i2 x (List.mem_of_mem_drop h)
         have hql : ((f :: q).drop 1).length <= 5001 := by have := hb1.2; rw [List.length_drop]; omega
         obtain ⟨b3,b4⟩ := U7 (p := p) m (xs := (f :: q).drop 1) (by omega) hq
         have bd := abO hp hl (nod p f).s (names := (AE p ((f :: q).drop 1) m.how).1) (by omega) (body := (a :: b :: c :: r).drop 2) (by have := hv.2; rw [List.length_drop]; omega) (fun x h => hin x (List.mem_of_mem_drop h)) (m := D6 m (AE p ((f :: q).drop 1) m.how).2) hm hd
         rw [Bool.not_true,xJ,if_neg (by decide : ¬ true = false),yu (by simp [cW]; omega),aaK _ 1 1 rfl,Jd b3,yu (by simp [cW]; omega),aaK _ 2 2 rfl,CH bd]
      ·rw [xK (yH kb),if_pos (.inr kb)]; rfl
    ·have hs' : kc (nod p a).s ⟨#[100,101,102,105,110,101]⟩ = false := by cases e : kc (nod p a).s ⟨#[100,101,102,105,110,101]⟩ with | true => exact absurd e hs | false => rfl
     rw [hs',Bool.not_false,yk,CH dm,if_neg (fun h => hs h.2.2.2)]
   ·rw [xK (yH k4),CH dm,if_neg (fun h => k4 h.2.2.1)]
 ·rw [xb (yE k5),CH dm,if_neg (fun h => k5 h.1)]
end Go.Eng
/-! compiling: the reference's side: whole programs -/
namespace Go.Eng
noncomputable section
open Go.Proofs Go.Proofs.Tryz
set_option maxHeartbeats 4000000

structure LeD (m m' : Ms) : Prop where
 len : m.list.length <= m'.list.length
 four : m'.list.length <= 400
 grew : m'.how = 0 -> m.list.length < m'.list.length
 defs : m'.defs.length <= m.defs.length + 1
theorem Yr {p : List Nd} (s : ByteArray) (names : List ByteArray) (body : List Int) {m : Ms} (h : m.list.length <= 400) : LeD m (Nw p s names body m) := by
 obtain ⟨h1,h2,h3⟩ := abV (p := p) s names body h
 refine ⟨h2,h1,h3,?_⟩
 unfold Nw
 have a1 := GC (E := Jq p) (fun env v m h => IY p _ env v m h) [names] body true ⟨m.list,m.defs ++ [⟨s,m.list.length,names.length⟩],KQ s m.defs m.how⟩ h
 rw [(z4 a1.four (inO 8)).defs,a1.defs]
 simp
theorem aaT {p : List Nd} {v : Int} {m : Ms} (h : m.list.length <= 400) : LeD m (QL p v m) := by
 unfold QL
 simp only
 split
 ·split
  ·exact ⟨Nat.le_refl _,h,fun h => by simp [D6] at h,Nat.le_succ _⟩
  ·split
   ·exact ⟨Nat.le_refl _,h,fun h => by simp [D6] at h,Nat.le_succ _⟩
   ·split
    ·exact ⟨Nat.le_refl _,h,fun h => by simp [D6] at h,Nat.le_succ _⟩
    ·have h2 : (D6 m (AE p (List.drop 1 (Ac p ((Ac p v).1.getD 1 0)).1) m.how).2).list.length <= 400 := h
     have := Yr (p := p) (nod p ((Ac p ((Ac p v).1.getD 1 0)).1.getD 0 0)).s (AE p (List.drop 1 (Ac p ((Ac p v).1.getD 1 0)).1) m.how).1 (List.drop 2 (Ac p v).1) h2
     exact ⟨this.len,this.four,this.grew,this.defs⟩
 ·exact Yr _ _ _ h
def Lt (l : List In) : Prop := ∀ x ∈ l,x.s.size < 4611686018427387904
def Zh (E : List (List ByteArray) -> Int -> Ms -> Ms) : Prop := ∀ env v (m : Ms),Lt m.list -> Lt (E env v m).list
theorem AR {m : Ms} (h : Lt m.list) {x : In} (hx : x.s.size < 4611686018427387904) : Lt (z8 m x).list := by
 unfold z8
 split
 ·split
  ·exact h
  ·intro y hy
   rcases List.mem_append.1 hy with hy | hy
   ·exact h y hy
   ·rw [List.mem_singleton.1 hy]; exact hx
 ·exact h
theorem EE : (⟨#[]⟩ : ByteArray).size < 4611686018427387904 := by decide
theorem UZ {m : Ms} (h : Lt m.list) (k : Int) : Lt (toC m k).list := by
 unfold toC
 split
 ·intro y hy
  rcases List.mem_or_eq_of_mem_set hy with hy | rfl
  ·exact h y hy
  ·simp only
   rw [List.getD_eq_getElem?_getD]
   cases hg : m.list[k.toNat]? with
   | none => exact EE
   | some x => exact h x (List.mem_of_getElem? hg)
 ·exact h
theorem LU {E} (hE : Zh E) (env : List (List ByteArray)) : ∀ (xs : List Int) (f : Bool) (m : Ms),Lt m.list -> Lt (FH E env xs f m).list
 | [],f,m,h => h
 | x :: r,f,m,h => by
  unfold FH
  split
  ·refine LU hE env r false _ (hE env x _ ?_)
   split
   ·exact h
   ·exact AR h EE
  ·exact h
theorem YD {E} (hE : Zh E) (names : List ByteArray) (body : List Int) (env : List (List ByteArray)) {m : Ms} (h : Lt m.list) : Lt (XK E names body env m).list := by
 unfold XK
 exact UZ (AR (LU hE _ _ _ _ (UZ (AR (AR h EE) EE) _)) EE) _
theorem aat {E} (hE : Zh E) (p : List Nd) (s : ByteArray) (xs : List Int) (env : List (List ByteArray)) {m : Ms} (h : Lt m.list) : Lt (Qb E p s xs env m).list := by
 unfold Qb
 simp only
 split
 ·exact AR h EE
 split
 ·exact UZ (hE _ _ _ (UZ (AR (hE _ _ _ (AR (hE _ _ _ h) EE)) EE) _)) _
 split
 ·exact LU hE _ _ _ _ h
 split
 ·split
  ·exact h
  ·exact YD hE _ _ _ h
 split
 ·refine AR (hE _ _ _ (YD hE _ _ _ ?_)) ?_
  ·exact h
  ·exact EE
 ·exact h
theorem VV {E} (hE : Zh E) (env : List (List ByteArray)) : ∀ (xs : List Int) (m : Ms),Lt m.list -> Lt (xs.foldl (fun m x => E env x m) m).list
 | [],_,h => h
 | x :: r,m,h => VV hE env r _ (hE env x m h)
theorem YR {p : List Nd} (hf : zZ p) (v : Int) : (nod p v).s.size < 4611686018427387904 := by
 unfold nod
 rw [List.getD_eq_getElem?_getD]
 cases hg : p[v.toNat]? with
 | none => exact EE
 | some x => exact hf x (List.mem_of_getElem? hg)
theorem PW {p : List Nd} (hf : zZ p) : ∀ k,Zh (KU p k)
 | 0,env,v,m,h => h
 | k + 1,env,v,m,h => by
  unfold KU
  split
  ·exact h
  simp only
  split
  ·exact AR h EE
  split
  ·split
   ·exact h
   ·split
    ·exact AR h EE
    ·exact AR h (YR hf v)
  split
  ·exact h
  split
  ·exact h
  split
  ·exact aat (PW hf k) p _ _ env h
  split
  ·exact h
  ·exact AR (VV (PW hf k) env _ m h) EE
def Xo (m : Ms) : Prop := Lt m.list /\ ∀ x ∈ m.defs,x.name.size < 4611686018427387904
theorem Yu {p : List Nd} (hf : zZ p) {s : ByteArray} (hs : s.size < 4611686018427387904) (names : List ByteArray) (body : List Int) {m : Ms} (hm : m.list.length <= 400) (h : Xo m) : Xo (Nw p s names body m) := by
 have hE : Zh (Jq p) := fun env v m h => PW hf _ env v m h
 have hG : Jo (Jq p) := fun env v m h => IY p _ env v m h
 unfold Nw
 refine ⟨?_,?_⟩
 ·refine AR (LU hE _ _ _ _ ?_) ?_
  ·exact h.1
  ·exact EE
 have a1 := GC hG [names] body true ⟨m.list,m.defs ++ [⟨s,m.list.length,names.length⟩],KQ s m.defs m.how⟩ hm
 rw [(z4 a1.four (inO 8)).defs,a1.defs]
 intro x hx
 rcases List.mem_append.1 hx with hx | hx
 ·exact h.2 x hx
 ·rw [List.mem_singleton.1 hx]; exact hs
theorem Y8 {p : List Nd} (hf : zZ p) {v : Int} {m : Ms} (hm : m.list.length <= 400) (h : Xo m) : Xo (QL p v m) := by
 unfold QL
 simp only
 split
 ·split
  ·exact h
  ·split
   ·exact h
   ·split
    ·exact h
    ·exact Yu hf (YR hf _) _ _ hm h
 ·exact Yu hf (by decide) _ _ hm h
abbrev RT (r : Cd × Int × Int) : Option Ret := some (.tup [oCd r.1,iN r.2.1,iN r.2.2],[])
theorem RV {p : List Nd} (hp : zh p) (hf : zZ p) (hl : p.length <= 5000) {xs : List Int} (hxl : xs.length <= 1000000) (hx : ∀ x ∈ xs,InP p x) : ∀ (k i : Nat) (m : Ms),i + k = xs.length -> m.list.length <= 400 -> m.defs.length <= i -> Xo m ->
  Ba (xs.map eI) (i : Int) m.how (p.map eN) (m.list.map eIn) (m.defs.map eDf) = RT (FI p xs.length (xs.drop i) i m)
 | 0,i,m,hi,hm,hd,hs => by
  have hfc : FitsC ⟨p,m.list,m.defs⟩ := ⟨hf,by show p.length < _; omega,hs.1,by show m.list.length < _; omega,hs.2,by show m.defs.length < _; omega⟩
  have hok := DZ hfc
  rw [Bx,xb (by rw [lnM]; exact yr (by omega)),Ox hok,List.drop_of_length_le (by omega),FI,lnM]
  cases zI ⟨p,m.list,m.defs⟩ with
  | false => rw [Bool.not_false,yk,if_neg (by decide)]; rfl
  | true => rw [Bool.not_true,xJ,if_pos rfl]
 | k + 1,i,m,hi,hm,hd,hs => by
  obtain ⟨x,hg⟩ := xx (l := xs) (i := i) (by omega)
  have ht := acr hp hl (hx x (List.mem_of_getElem? hg)) hm (by omega)
  have le := aaT (p := p) (v := x) hm
  have ih := RV hp hf hl hxl hx k (i + 1) (QL p x m) (by omega) le.four (by have := le.defs; omega) (Y8 hf hm hs)
  rw [Bx,xK (by rw [lnM]; exact yz (by omega)),yu (by rw [lnM]; exact yx (by omega)),Int.toNat_natCast,xW hg,ye,XX ht,tU hg,FI,yM (by omega),ih]
  by_cases h3 : (QL p x m).how = 3
  ·rw [xK (yF h3),if_pos h3]; rfl
  ·rw [xb (yE h3),if_neg h3]
   by_cases h0 : (QL p x m).how = 0
   ·rw [xb (yG h0),if_neg (fun h => h h0)]; rfl
   ·rw [xK (yH h0),if_pos h0]; rfl
theorem Xu {p : List Nd} (hp : zh p) (hf : zZ p) (hl : p.length <= 5000) {xs : List Int} (hxl : xs.length <= 1000000) (hx : ∀ x ∈ xs,InP p x) : DH (xs.map eI) 0 0 (p.map eN) = RT (FI p xs.length xs 0 ⟨[],[],0⟩) := by
 have hs : Xo ⟨[],[],0⟩ := ⟨fun x h => by simp at h,fun x h => by simp at h⟩
 have h := RV hp hf hl hxl hx xs.length 0 ⟨[],[],0⟩ (by omega) (by simp) (by simp) hs
 rw [Int.natCast_zero,List.drop_zero] at h
 rw [<- h,KF,Bx]
 rfl
theorem Wb {p : List Nd} (hp : zh p) (hf : zZ p) (hl : p.length <= 4999) {xs : List Int} (hxl : xs.length <= 1000000) : ∀ (k i : Nat),i + k = xs.length -> (∀ x ∈ xs.take i,wi x 0 ((p.length : Int) - 1) = true) ->
  CN (xs.map eI) (i : Int) (p.map eN) = RT (if y5 p (xs.drop i) = true then FI p xs.length xs 0 ⟨[],[],0⟩ else (⟨[],[],[]⟩,3,0))
 | 0,i,hi,ht => by
  have hx : ∀ x ∈ xs,InP p x := fun x h => by
   have := wi_iff.1 (ht x (by rw [List.take_of_length_le (by omega)]; exact h))
   exact ⟨this.1,by omega⟩
  have hcp := QQ (p := p) (by omega)
  rw [Fw,xb (by rw [lnM]; exact yr (by omega)),zp hcp,Xu hp hf (by omega) hxl hx,List.drop_of_length_le (by omega),if_pos (by rfl)]
 | k + 1,i,hi,ht => by
  obtain ⟨x,hg⟩ := xx (l := xs) (i := i) (by omega)
  rw [Fw,xK (by rw [lnM]; exact yz (by omega)),yu (by rw [lnM]; exact yx (by omega)),Int.toNat_natCast,xW hg,ye,Jb (Fk (by omega) x),tU hg,yM (by omega)]
  have er : y5 p (x :: xs.drop (i + 1)) = (wi x 0 ((p.length : Int) - 1) && y5 p (xs.drop (i + 1))) := rfl
  rw [er]
  cases hw : wi x 0 ((p.length : Int) - 1) with
  | false => rw [Bool.not_false,yk,Bool.false_and,if_neg (by decide)]; rfl
  | true =>
   have ih := Wb hp hf hl hxl k (i + 1) (by omega) (fun y hy => by
    rw [List.take_add_one,hg] at hy
    rcases List.mem_append.1 hy with hy | hy
    ·exact ht y hy
    ·simp at hy; rw [hy]; exact hw)
   rw [Bool.not_true,xJ,Bool.true_and,ih]
theorem Kh {p : List Nd} (hf : zZ p) (hl : p.length < 4611686018427387904) {xs : List Int} (hxl : xs.length <= 1000000) : V 193 [eP p,.rs (1,0) (xs.map eI)] = RT (LX p xs) := by
 rw [Rb,BV (zK hf hl)]
 unfold LX
 cases h : yV p with
 | false => rw [Bool.not_false,yk,if_neg (by simp)]; rfl
 | true =>
  obtain ⟨h1,h2⟩ := okPool_iff.1 h
  have hh := Wb h1 hf (by omega) hxl xs.length 0 (by omega) (by simp)
  rw [Int.natCast_zero,List.drop_zero] at hh
  rw [Bool.not_true,xJ,hh]
  by_cases hr : y5 p xs = true
  ·rw [if_pos hr,if_pos ⟨rfl,hr⟩]
  ·rw [if_neg hr,if_neg (fun h => hr h.2)]
end
end Go.Eng
/-! the functions as the interpreter has them -/
/-! what is drawn: the cursor -/
namespace Go.Eng
noncomputable section
open Go.Proofs Go.Proofs.Tryz

def eB (x : Int) : D := .int .u8 x
abbrev eC (b : List Int) (c : Int × Int) : D := .op [.rs (1,0) (b.map eB),iN c.1,iN c.2]
def zJ (b : List Int) (c : Int × Int) : Prop := 0 <= c.1 /\ c.1 <= b.length
theorem SW (x : Int) : 0 <= w6 (ni (BitVec.toNat (BitVec.ofInt (IntKind.bits IntKind.i64) x &&& BitVec.ofInt (IntKind.bits IntKind.i64) 255))) /\ w6 (ni (BitVec.toNat (BitVec.ofInt (IntKind.bits IntKind.i64) x &&& BitVec.ofInt (IntKind.bits IntKind.i64) 255))) <= 255 := by
 have h : BitVec.toNat (BitVec.ofInt (IntKind.bits IntKind.i64) x &&& BitVec.ofInt (IntKind.bits IntKind.i64) 255) <= 255 := by
  rw [BitVec.toNat_and]
  exact Nat.le_trans Nat.and_le_right (by decide)
 rw [w64 (by simp only [ni]; omega) (by simp only [ni]; omega)]
 simp only [ni]; omega

section
variable {b : List Int} {c : Int × Int}
theorem JD (hb : b.length < 4611686018427387904) (h : zJ b c) : ∃ v c',V 143 [eC b c] = some (iN v,[eC b c']) /\ zJ b c' /\ 0 <= v /\ v <= 255 := by
 obtain ⟨h1,h2⟩ := h
 rw [TH,yu (by decide),yu (by decide)]
 by_cases hi : c.1 < b.length
 ·obtain ⟨k,hk⟩ := Int.eq_ofNat_of_zero_le h1
  obtain ⟨x,hx⟩ := xx (l := b) (i := k) (by omega)
  rw [hk]
  rw [xK (by rw [lnM]; exact yz (by omega)),yu (by rw [lnM]; exact yx (by omega)),Int.toNat_natCast,xW hx]
  unfold eB
  rw [ye]
  refine ⟨_,(_,_),rfl,⟨?_,?_⟩,(SW _).1,(SW _).2⟩
  ·show 0 <= w6 ((k : Int) + 1)
   rw [w64 (by omega) (by omega)]; omega
  ·show w6 ((k : Int) + 1) <= _
   rw [w64 (by omega) (by omega)]; omega
 ·rw [xb (decide_eq_false (by simp only [ni,lnM]; omega))]
  exact ⟨_,(c.1,w6 (w6 (c.2 * 6364136223846793005) + 1442695040888963407)),rfl,⟨h1,h2⟩,(SW _).1,(SW _).2⟩

theorem Nv (hb : b.length < 4611686018427387904) (h : zJ b c) (n : Int) : ∃ v c',V 76 [eC b c,iN n] = some (iN v,[eC b c']) /\ zJ b c' /\ 0 <= v /\ (0 < n -> v < n) := by
 rw [Rf]
 by_cases hn : n <= 0
 ·rw [xK (by simpa using hn)]
  exact ⟨_,c,rfl,h,by omega,by omega⟩
 rw [xb (by simpa using hn)]
 by_cases h256 : n <= 256
 ·rw [xK (by simpa using h256)]
  obtain ⟨v,c1,hv,h1,hv1,hv2⟩ := JD hb h
  rw [Ef hv]
  try simp only [ye,xI,yi,yg,yh,xu,xw,yf,yb,yo,yA]
  rw [yu (by simp; omega)]
  exact ⟨_,c1,rfl,h1,Int.tmod_nonneg _ hv1,fun _ => Int.tmod_lt_of_pos _ (by omega)⟩
 ·rw [xb (by simpa using h256)]
  obtain ⟨v1,c1,hv1,a1,b1⟩ := JD hb h
  obtain ⟨v2,c2,hv2,a2,b2⟩ := JD hb a1
  obtain ⟨v3,c3,hv3,a3,b3⟩ := JD hb a2
  obtain ⟨v4,c4,hv4,a4,b4⟩ := JD hb a3
  rw [Ef hv1,Ef hv2,Ef hv3,Ef hv4]
  try simp only [ye,xI,yi,yg,yh,xu,xw,yf,yb,yo,yA]
  rw [yu (by simp; omega)]
  refine ⟨_,c4,rfl,a4,Int.tmod_nonneg _ ?_,fun _ => Int.tmod_lt_of_pos _ (by omega)⟩
  rw [w64 (n := v1 * 16777216) (by omega) (by omega),w64 (n := v2 * 65536) (by omega) (by omega),w64 (n := v3 * 256) (by omega) (by omega)]
  rw [w64 (n := v1 * 16777216 + v2 * 65536) (by omega) (by omega),w64 (n := v1 * 16777216 + v2 * 65536 + v3 * 256) (by omega) (by omega),w64 (by omega) (by omega)]
  omega

theorem Vo (hb : b.length < 4611686018427387904) (h : zJ b c) {l : List Int} (hl : 0 < l.length) : ∃ v c',V 122 [eC b c,.rs (1,0) (l.map (D.int .i64))] = some (iN v,[eC b c']) /\ zJ b c' /\ v ∈ l := by
 obtain ⟨v,c1,hv,a1,b1,b2⟩ := Nv hb h (ni (l.map (D.int .i64)).length)
 rw [O9,MR hv]
 try simp only [ye,xI,yi,yg,yh,xu,xw,yf,yb,yo,yA]
 simp only [ni,lnM] at b2
 obtain ⟨k,rfl⟩ := Int.eq_ofNat_of_zero_le b1
 have hk : k < l.length := by have := b2 (by omega); omega
 obtain ⟨x,hx⟩ := xx hk
 rw [yu (by rw [lnM]; exact yx hk),Int.toNat_natCast,xW hx,ye]
 exact ⟨_,c1,rfl,a1,List.mem_of_getElem? hx⟩

theorem aam (hb : b.length < 4611686018427387904) (h : zJ b c) {l : List ByteArray} (hl : 0 < l.length) : ∃ v c',V 75 [eC b c,.rs (1,0) (l.map D.str)] = some (.str v,[eC b c']) /\ zJ b c' /\ v ∈ l := by
 obtain ⟨v,c1,hv,a1,b1,b2⟩ := Nv hb h (ni (l.map D.str).length)
 rw [TK,MR hv]
 try simp only [ye,xI,yi,yg,yh,xu,xw,yf,yb,yo,yA]
 simp only [ni,lnM] at b2
 obtain ⟨k,rfl⟩ := Int.eq_ofNat_of_zero_le b1
 have hk : k < l.length := by have := b2 (by omega); omega
 obtain ⟨x,hx⟩ := xx hk
 rw [yu (by rw [lnM]; exact yx hk),Int.toNat_natCast,xW hx,yi]
 exact ⟨_,c1,rfl,a1,List.mem_of_getElem? hx⟩

theorem Wl (hb : b.length < 4611686018427387904) : ∀ (k i : Nat) (h : Int),i + k = b.length -> ∃ h',DR (b.map eB) h (i : Int) = some (eC b (0,h'),[])
 | 0,i,h,hi => by
  rw [Ie,xb (by rw [lnM]; exact yr (by omega))]
  exact ⟨_,rfl⟩
 | k + 1,i,h,hi => by
  obtain ⟨x,hx⟩ := xx (l := b) (i := i) (by omega)
  rw [Ie,xK (by rw [lnM]; exact yz (by omega)),yu (by rw [lnM]; exact yx (by omega)),Int.toNat_natCast,xW hx]
  cases h4 : decide ((i : Int) < 4000) with
  | false => exact ⟨_,rfl⟩
  | true =>
   unfold eB
   rw [yk,ye,yM (by omega)]
   exact Wl hb k (i + 1) _ (by omega)
theorem Yq (hb : b.length < 4611686018427387904) : ∃ c,V 51 [.rs (1,0) (b.map eB)] = some (eC b c,[]) /\ zJ b c := by
 rw [VG]
 obtain ⟨h',he⟩ := Wl hb b.length 0 (w6 (17000 + ni (List.length (b.map eB)))) (by omega)
 exact ⟨(0,h'),he,Int.le_refl _,Int.natCast_nonneg _⟩
end
theorem acq (b : List Int) : V 12 [.rs (1,0) (b.map eB)] = some (.bool (decide ((b.length : Int) > 1048576)),[]) := by
 rw [Zo,lnM]
set_option maxRecDepth 100000 in
theorem aab {x : D} (h : ShapeV prog 22 x) : ∃ b : List Int,x = .rs (1,0) (b.map eB) /\ b.length < 4611686018427387904 := by
 obtain ⟨ys,hs,rfl⟩ := h
 obtain ⟨bs,rfl,h1,h2⟩ := hs.slice Tryz.underlying22 (show zOf prog 5 = some (1,0) by kernel_rfl)
 obtain ⟨l,rfl,-⟩ := sw (enc := eB) (p := fun _ => True) (ys := bs) (fun x hx => by
  obtain ⟨ps,hs,rfl⟩ := h2 x hx
  obtain ⟨n,rfl,_⟩ := hs.int Tryz.underlying5
  exact ⟨n,sn Tryz.underlying5,trivial⟩)
 have hby : prog.bytesOf 5 = 1 := by kernel_rfl
 have hr : reachBytes = 140737488351232 := rfl
 rw [hby,lnM] at h1
 exact ⟨l,by rw [wv Tryz.underlying22],by omega⟩
end
end Go.Eng
/-! draws: what is drawn fits,and the cursor goes on -/
namespace Go.Eng
noncomputable section
open Go.Proofs Go.Proofs.Tryz

def Got (P : D -> List D -> Prop) (r : Option Ret) : Prop := ∃ v l,r = some (v,l) /\ P v l
theorem Zp {r s : Option Ret} (h : r = s) (P : D -> List D -> Prop) : Got P r = Got P s := by rw [h]
attribute [congr] Zp
section
variable {P Q : D -> List D -> Prop}
theorem Qf {v : D} {l : List D} (h : P v l) : Got P (some (v,l)) := ⟨v,l,rfl,h⟩
theorem y6 {b : Bool} {x y : Option Ret} (h1 : b = true -> Got P x) (h2 : b = false -> Got P y) : Got P (br b x y) := by
 cases b with
 | true => exact h1 rfl
 | false => exact h2 rfl
theorem Bc {b : Bool} {x : Option Ret} (h : b = true) (h1 : Got P x) : Got P (grd b x) := by rw [yu h]; exact h1
theorem Ko {v : D} {l : List D} {f : Nat} {ds : List D} {K : D -> List D -> Option Ret} (h : V f ds = some (v,l)) (h2 : Got P (K v l)) : Got P (jb V f ds K) := by
 rw [xh h]; exact h2
end
abbrev Cu (b : List Int) (Q : D -> Prop) : Option Ret -> Prop := Got (fun v l => ∃ c',l = [eC b c'] /\ zJ b c' /\ Q v)
section
variable {b : List Int} {Q : D -> Prop} {P : D -> List D -> Prop}
theorem yQ {f : Nat} {ds : List D} {K : D -> List D -> Option Ret} (h : Cu b Q (V f ds)) (h2 : ∀ v c',zJ b c' -> Q v -> Got P (K v [eC b c'])) : Got P (jb V f ds K) := by
 obtain ⟨v,l,e,c',rfl,hc,hq⟩ := h
 rw [xh e]; exact h2 v c' hc hq
theorem yR {v : D} {c' : Int × Int} (h : zJ b c') (hq : Q v) : Cu b Q (some (v,[eC b c'])) := ⟨v,_,rfl,c',rfl,h,hq⟩
theorem Ny {Q' : D -> Prop} {r : Option Ret} (h : Cu b Q r) (h2 : ∀ v,Q v -> Q' v) : Cu b Q' r := by
 obtain ⟨v,l,e,c',e2,hc,hq⟩ := h
 exact ⟨v,l,e,c',e2,hc,h2 v hq⟩
end
theorem FT : (⟨#[]⟩ : ByteArray).size <= 100 := by decide
def acd (n : Int) (v : D) : Prop := ∃ m : Int,v = iN m /\ 0 <= m /\ (0 < n -> m < n)
def IsB (v : D) : Prop := ∃ m : Bool,v = .bool m
section
variable {b : List Int} {c : Int × Int}
theorem y3 (hb : b.length < 4611686018427387904) (h : zJ b c) (n : Int) : Cu b (acd n) (V 76 [eC b c,iN n]) := by
 obtain ⟨v,c',e,h1,h2,h3⟩ := Nv hb h n
 exact ⟨_,_,e,c',rfl,h1,v,rfl,h2,h3⟩
theorem IW (hb : b.length < 4611686018427387904) (h : zJ b c) (n : Int) : Cu b IsB (V 155 [eC b c,iN n]) := by
 rw [TJ]
 refine yQ (y3 hb h n) fun v c1 a1 ⟨m,e,_⟩ => ?_
 subst e
 simp (disch := first | omega | (simp only [lnA,lnC,lnN,lnM,yO,wY]; omega)) only [↓yo,↓yb,↓ye,↓yh,↓yf]
 exact yR a1 ⟨_,rfl⟩
theorem FJ (hb : b.length < 4611686018427387904) (h : zJ b c) (l : List Int) (hl : 0 < l.length) : Cu b (fun v => ∃ m : Int,v = iN m /\ m ∈ l) (V 122 [eC b c,.rs (1,0) (l.map (D.int .i64))]) := by
 obtain ⟨v,c',e,h1,h2⟩ := Vo hb h hl
 exact ⟨_,_,e,c',rfl,h1,v,rfl,h2⟩
theorem GE (hb : b.length < 4611686018427387904) (h : zJ b c) (l : List ByteArray) (hl : 0 < l.length) : Cu b (fun v => ∃ m : ByteArray,v = .str m /\ m ∈ l) (V 75 [eC b c,.rs (1,0) (l.map D.str)]) := by
 obtain ⟨v,c',e,h1,h2⟩ := aam hb h hl
 exact ⟨_,_,e,c',rfl,h1,v,rfl,h2⟩

def abe (v : D) : Prop := ∃ x : Nd,v = eN x /\ x.s.size <= 100
theorem Yw (hb : b.length < 4611686018427387904) (h : zJ b c) : Cu b abe (V 201 [eC b c]) := by
 rw [NH]
 refine yQ (y3 hb h _) fun v c1 a1 ⟨m,e,m0,m1⟩ => ?_
 subst e
 simp (disch := first | omega | (simp only [lnA,lnC,lnN,lnM,yO,wY]; omega)) only [↓yo,↓yb,↓ye,↓yh,↓yf]
 refine y6 (fun _ => yR a1 ⟨⟨_,_,_,_,_⟩,rfl,FT⟩) fun _ => y6 (fun _ => ?_) fun _ => y6 (fun _ => ?_) fun _ => y6 (fun _ => ?_) fun _ => y6 (fun _ => ?_) fun _ => ?_
 ·refine yQ (y3 hb a1 _) fun v c2 a2 ⟨m,e,m0,m1⟩ => ?_
  subst e
  simp (disch := first | omega | (simp only [lnA,lnC,lnN,lnM,yO,wY]; omega)) only [↓yo,↓yb,↓ye,↓yh,↓yf]
  exact yR a2 ⟨⟨_,_,_,_,_⟩,rfl,FT⟩
 ·refine yQ (GE hb a1 [⟨#[97]⟩,⟨#[98,99]⟩,⟨#[120]⟩,⟨#[102]⟩,⟨#[43]⟩,⟨#[108,105,115,116]⟩] (by simp)) fun v c2 a2 ⟨m,e,hm⟩ => ?_
  subst e
  simp (disch := first | omega | (simp only [lnA,lnC,lnN,lnM,yO,wY]; omega)) only [↓yo,↓yb,↓ye,↓yi,↓yh,↓yf]
  refine yR a2 ⟨⟨_,_,m,_,_⟩,rfl,?_⟩
  simp only [List.mem_cons,List.not_mem_nil,or_false] at hm
  rcases hm with rfl | rfl | rfl | rfl | rfl | rfl <;> decide
 all_goals
  refine yQ (y3 hb a1 _) fun v c2 a2 ⟨m,e,m0,m1⟩ => ?_
  subst e
  simp (disch := first | omega | (simp only [lnA,lnC,lnN,lnM,yO,wY]; omega)) only [↓yo,↓yb,↓ye,↓yh,↓yf]
  exact yR a2 ⟨⟨_,_,_,_,_⟩,rfl,FT⟩
theorem YB (hb : b.length < 4611686018427387904) (h : zJ b c) (n : Int) : Cu b abe (V 197 [eC b c,iN n]) := by
 have hat : ∀ {c : Int × Int},zJ b c -> Cu b abe (V 201 [eC b c]) := fun h => Yw hb h
 rw [NJ]
 refine y6 (fun _ => ?_) fun _ => ?_
 ·refine yQ (hat h) fun v c1 a1 ⟨x,e,hx⟩ => ?_
  subst e
  simp (disch := first | omega | (simp only [lnA,lnC,lnN,lnM,yO,wY]; omega)) only [↓yo,↓yb,↓ye,↓yi,↓yh,↓xu,↓yf]
  exact yR a1 ⟨x,rfl,hx⟩
 refine yQ (IW hb h 2) fun v c1 a1 ⟨o,e⟩ => ?_
 subst e
 simp (disch := first | omega | (simp only [lnA,lnC,lnN,lnM,yO,wY]; omega)) only [↓yo,↓yb,↓ye,↓xI,↓yh,↓yf]
 refine y6 (fun _ => ?_) fun _ => ?_
 ·refine yQ (hat a1) fun v c1 a1 ⟨x,e,hx⟩ => ?_
  subst e
  simp (disch := first | omega | (simp only [lnA,lnC,lnN,lnM,yO,wY]; omega)) only [↓yo,↓yb,↓ye,↓yi,↓yh,↓xu,↓yf]
  exact yR a1 ⟨x,rfl,hx⟩
 refine Ko (U6 _ _) ?_
 simp (disch := first | omega | (simp only [lnA,lnC,lnN,lnM,yO,wY]; omega)) only [↓yo,↓ye]
 refine yQ (y3 hb a1 _) fun v c2 a2 ⟨m,e,m0,m1⟩ => ?_
 subst e
 simp (disch := first | omega | (simp only [lnA,lnC,lnN,lnM,yO,wY]; omega)) only [↓yo,↓yb,↓ye,↓yh,↓yf]
 refine yQ (y3 hb a2 _) fun v c3 a3 ⟨m3,e,_,_⟩ => ?_
 subst e
 simp (disch := first | omega | (simp only [lnA,lnC,lnN,lnM,yO,wY]; omega)) only [↓yo,↓yb,↓ye,↓yh,↓yf]
 refine y6 (fun _ => ?_) fun _ => y6 (fun _ => yR a3 ⟨⟨_,_,_,_,_⟩,rfl,FT⟩) fun _ => ?_
 ·refine yQ (y3 hb a3 _) fun v c4 a4 ⟨m4,e,_,_⟩ => ?_
  subst e
  simp (disch := first | omega | (simp only [lnA,lnC,lnN,lnM,yO,wY]; omega)) only [↓yo,↓yb,↓ye,↓yh,↓yf]
  exact yR a4 ⟨⟨_,_,_,_,_⟩,rfl,FT⟩
 refine Ko (U6 _ _) ?_
 simp (disch := first | omega | (simp only [lnA,lnC,lnN,lnM,yO,wY]; omega)) only [↓yo,↓ye]
 refine yQ (y3 hb a3 _) fun v c4 a4 ⟨m4,e,_,_⟩ => ?_
 subst e
 simp (disch := first | omega | (simp only [lnA,lnC,lnN,lnM,yO,wY]; omega)) only [↓yo,↓yb,↓ye,↓yh,↓yf]
 exact yR a4 ⟨⟨_,_,_,_,_⟩,rfl,FT⟩
def Xn (p : List Nd) : Prop := ∀ x ∈ p,x.s.size <= 100
theorem SF {p : List Nd} (h : Xn p) : zZ p := fun x hx => by have := h x hx; omega
def Xm (v : D) : Prop := ∃ p : List Nd,v = oP p /\ Xn p /\ (p.length <= 15 \/ (p.length <= 3001 /\ ∀ x ∈ p,x.kind = 1))
theorem KT (hb : b.length < 4611686018427387904) {n : Int} (hn : n < 16) : ∀ (k i : Nat) (c : Int × Int) (p : List Nd),(i : Int) + k = n -> zJ b c -> Xn p -> p.length <= i -> 0 < i -> Cu b (fun v => ∃ p : List Nd,v = oP p /\ Xn p /\ p.length <= 15) (Am n (i : Int) (b.map eB) c.1 c.2 (p.map eN))
 | 0,i,c,p,hi,hc,hp,hl,h0 => by
  rw [Cx]
  simp (disch := first | omega | (simp only [lnA,lnC,lnN,lnM,yO,wY]; omega)) only [↓xJ,yI]
  exact yR hc ⟨p,rfl,hp,by omega⟩
 | k + 1,i,c,p,hi,hc,hp,hl,h0 => by
  rw [Cx,xK (decide_eq_true (by omega))]
  refine yQ (YB hb hc _) fun v c1 a1 ⟨x,e,hx⟩ => ?_
  subst e
  simp (disch := first | omega | (simp only [lnA,lnC,lnN,lnM,yO,wY]; omega)) only [↓wZ,xi,↓yo,↓yb,↓ye,↓yi,↓yg,↓yh,↓xu,↓yf,wS,zo (p := p) (by omega) x]
  refine KT hb hn k (i + 1) c1 (p ++ [x]) (by omega) a1 ?_ (by simp; omega) (by omega)
  intro y hy
  rcases List.mem_append.1 hy with hy | hy
  ·exact hp y hy
  ·simp at hy; subst hy; exact hx
theorem aaq (hb : b.length < 4611686018427387904) (h : zJ b c) : Cu b (fun v => ∃ p : List Nd,v = oP p /\ Xn p /\ p.length <= 15) (V 154 [eC b c]) := by
 rw [Mq]
 refine yQ (y3 hb h _) fun v c1 a1 ⟨m,e,m0,m1⟩ => ?_
 subst e
 have := m1 (by omega)
 simp (disch := first | omega | (simp only [lnA,lnC,lnN,lnM,yO,wY]; omega)) only [↓yo,↓yb,↓ye,↓yh,↓yf]
 rw [IU]
 refine y6 (fun h0 => ?_) fun _ => yR a1 ⟨[],rfl,fun x hx => by simp at hx,by simp⟩
 have h0 := of_decide_eq_true h0
 refine yQ (YB hb a1 _) fun v c2 a2 ⟨x,e,hx⟩ => ?_
 subst e
 have ha : V 158 [.op [.os (5,0) []],eN x] = some (iN 0,[rP [x]]) := zo (p := []) (by simp) x
 simp (disch := first | omega | (simp only [lnA,lnC,lnN,lnM,yO,wY]; omega)) only [↓wZ,xi,↓yo,↓yb,↓ye,↓yi,↓yg,↓yh,↓xu,↓yf,Int.reduceAdd,wS,ha]
 obtain ⟨k,hk⟩ := Int.eq_ofNat_of_zero_le (show 0 <= m - 1 by omega)
 exact KT hb (by omega) k 1 c2 [x] (by simp; omega) a2 (by simpa [Xn] using hx) (by simp) (by omega)
theorem aar (hb : b.length < 4611686018427387904) (h : zJ b c) {x : Nd} (hx : x.s.size <= 100) : Cu b abe (V 156 [eC b c,eN x]) := by
 rw [Rh]
 refine yQ (y3 hb h _) fun v c1 a1 ⟨m,e,m0,m1⟩ => ?_
 subst e
 simp (disch := first | omega | (simp only [lnA,lnC,lnN,lnM,yO,wY]; omega)) only [↓yo,↓yb,↓ye,↓yh,↓yf]
 refine y6 (fun _ => ?_) fun _ => y6 (fun _ => ?_) fun _ => y6 (fun _ => ?_) fun _ => y6 (fun _ => ?_) fun _ => y6 (fun _ => ?_) fun _ => yR a1 ⟨x,rfl,hx⟩
 ·refine yQ (y3 hb a1 _) fun v c2 a2 ⟨m2,e,_,_⟩ => ?_
  subst e
  simp (disch := first | omega | (simp only [lnA,lnC,lnN,lnM,yO,wY]; omega)) only [↓yo,↓yb,↓ye,↓yh,↓yf]
  exact yR a2 ⟨⟨m2,x.n,x.s,x.a,x.b⟩,rfl,hx⟩
 ·refine yQ (y3 hb a1 _) fun v c2 a2 ⟨m2,e,_,h2⟩ => ?_
  subst e
  have := h2 (by omega)
  simp (disch := first | omega | (simp only [lnA,lnC,lnN,lnM,yO,wY]; omega)) only [↓yo,↓yb,↓ye,↓yh,↓yf]
  exact yR a2 ⟨⟨x.kind,x.n,x.s,w6 (m2 - 1),x.b⟩,rfl,hx⟩
 ·refine yQ (y3 hb a1 _) fun v c2 a2 ⟨m2,e,_,h2⟩ => ?_
  subst e
  have := h2 (by omega)
  simp (disch := first | omega | (simp only [lnA,lnC,lnN,lnM,yO,wY]; omega)) only [↓yo,↓yb,↓ye,↓yh,↓yf]
  exact yR a2 ⟨⟨x.kind,x.n,x.s,x.a,w6 (m2 - 1)⟩,rfl,hx⟩
 ·refine yQ (FJ hb a1 [-1,2,99,100,1000000000,1000000001,-1000000000,-1000000001] (by simp)) fun v c2 a2 ⟨m2,e,_⟩ => ?_
  subst e
  simp (disch := first | omega | (simp only [lnA,lnC,lnN,lnM,yO,wY]; omega)) only [↓yo,↓yb,↓ye,↓yh,↓yf]
  exact yR a2 ⟨⟨x.kind,m2,x.s,x.a,x.b⟩,rfl,hx⟩
 ·refine yQ (GE hb a1 [⟨#[]⟩,⟨#[97]⟩,⟨#[65,98]⟩,⟨#[97,98,99,100,101,102,103,104,105,106,107,108]⟩,⟨#[97,98,99,100,101,102,103,104,105,106,107,108,109]⟩,⟨#[97,49]⟩] (by simp)) fun v c2 a2 ⟨m2,e,hm⟩ => ?_
  subst e
  simp (disch := first | omega | (simp only [lnA,lnC,lnN,lnM,yO,wY]; omega)) only [↓yo,↓yb,↓ye,↓yi,↓yh,↓yf]
  refine yR a2 ⟨⟨x.kind,x.n,m2,x.a,x.b⟩,rfl,?_⟩
  show m2.size <= 100
  simp only [List.mem_cons,List.not_mem_nil,or_false] at hm
  rcases hm with rfl | rfl | rfl | rfl | rfl | rfl <;> decide
theorem YA (hb : b.length < 4611686018427387904) (h : zJ b c) {N : Nat} (hN : N <= 3001) : ∀ (k i : Nat) (q : List Nd),i + k = N -> q.length = N -> Xn q -> (∀ (j : Nat) (x : Nd),j < i -> q[j]? = some x -> x.kind = 1) -> Cu b Xm (Ah (i : Int) (b.map eB) c.1 c.2 (q.map eN))
 | 0,i,q,hi,hq,hs,hk => by
  rw [Gv]
  simp (disch := first | omega | (simp only [lnA,lnC,lnN,lnM,yO,wY]; omega)) only [↓xJ,yI,lnM,wY]
  refine yR h ⟨q,rfl,hs,.inr ⟨by omega,fun x hx => ?_⟩⟩
  obtain ⟨j,hj⟩ := List.getElem?_of_mem hx
  exact hk j x (by have := aQ hj; omega) hj
 | k + 1,i,q,hi,hq,hs,hk => by
  obtain ⟨x,hx⟩ := xx (l := q) (i := i) (by omega)
  have e : (D.agg (List.take 0 [iN x.kind,iN x.n,.str x.s,iN x.a,iN x.b] ++ [iN 1] ++ List.drop 1 [iN x.kind,iN x.n,.str x.s,iN x.a,iN x.b])) = eN ⟨1,x.n,x.s,x.a,x.b⟩ := rfl
  rw [Gv,xK (decide_eq_true (by rw [lnM]; simp only [ni]; omega)),yu (by rw [lnM]; exact yx (by omega)),Int.toNat_natCast,xW hx,xu,yA,yM (by omega),e,<- List.map_set]
  refine YA hb h hN k (i + 1) _ (by omega) (by simp; omega) ?_ ?_
  ·intro y hy
   rcases List.mem_or_eq_of_mem_set hy with hy | hy
   ·exact hs y hy
   ·rw [hy]; exact hs x (List.mem_of_getElem? hx)
  ·intro j y hj hy
   by_cases e : i = j
   ·subst e
    rw [List.getElem?_set_self (by omega)] at hy
    cases hy; rfl
   ·rw [List.getElem?_set_ne e] at hy
    exact hk j y (by omega) hy
theorem Yz (hb : b.length < 4611686018427387904) (h : zJ b c) : Cu b Xm (V 90 [eC b c]) := by
 have fin : ∀ {c : Int × Int} {k : Nat},zJ b c -> k < 2 -> Cu b Xm (grd (decide (0 <= w6 (3000 + (k : Int))) && decide (w6 (3000 + (k : Int)) <= LIM)) (Ah 0 (b.map eB) c.1 c.2 (List.replicate (Int.toNat (w6 (3000 + (k : Int)))) (D.agg [iN 0,iN 0,D.str ⟨#[]⟩,iN 0,iN 0])))) := by
  intro c k h hk
  rw [w64 (by omega) (by omega),yu (by rw [pE]; simp only [Bool.and_eq_true,decide_eq_true_eq]; omega)]
  have e2 : (3000 + (k : Int)).toNat = 3000 + k := by omega
  have e3 : List.replicate (3000 + k) (D.agg [iN 0,iN 0,D.str ⟨#[]⟩,iN 0,iN 0]) = (List.replicate (3000 + k) (⟨0,0,⟨#[]⟩,0,0⟩ : Nd)).map eN := by rw [List.map_replicate]
  rw [e2,e3]
  refine YA hb h (N := 3000 + k) (by omega) (3000 + k) 0 _ (by omega) (by simp) ?_ (fun j x h _ => by omega)
  intro x hx
  rw [(List.mem_replicate.1 hx).2]
  exact FT
 rw [TM]
 refine yQ (aaq hb h) fun v c1 a1 ⟨p,e,hp,hl⟩ => ?_
 subst e
 simp (disch := first | omega | (simp only [lnA,lnC,lnN,lnM,yO,wY]; omega)) only [↓yo,↓yb,↓ye,↓yg,↓yh,↓xu,↓yf,↓yA]
 refine y6 (fun h0 => ?_) fun _ => ?_
 ·have h0 := of_decide_eq_true h0
  rw [lnM] at h0
  refine yQ (IW hb a1 12) fun v c2 a2 ⟨o,e⟩ => ?_
  subst e
  simp (disch := first | omega | (simp only [lnA,lnC,lnN,lnM,yO,wY]; omega)) only [↓yo,↓yb,↓ye,↓xI,↓yh,↓yf]
  refine y6 (fun _ => ?_) fun _ => ?_
  ·refine yQ (y3 hb a2 _) fun v c3 a3 ⟨m,e,m0,m1⟩ => ?_
   subst e
   have hm := m1 (by rw [lnM]; exact h0)
   rw [lnM] at hm
   obtain ⟨k,hk⟩ := Int.eq_ofNat_of_zero_le m0
   subst hk
   obtain ⟨x,hx⟩ := xx (l := p) (i := k) (by simp only [ni] at hm; omega)
   simp (disch := first | omega | (simp only [lnA,lnC,lnN,lnM,yO,wY]; omega)) only [↓yo,↓yb,↓ye,↓yh,↓yf]
   rw [yu (by rw [lnM]; exact yx (by simp only [ni] at hm; omega)),Int.toNat_natCast,xW hx,xu,yb,ye,yb,ye,yb,yi,yb,ye,yb,ye,yo]
   refine yQ (aar hb a3 (hp x (List.mem_of_getElem? hx))) fun v c4 a4 ⟨y,e,hy⟩ => ?_
   subst e
   simp (disch := first | omega | (simp only [lnA,lnC,lnN,lnM,yO,wY]; omega)) only [↓yo,↓yb,↓ye,↓yi,↓yh,↓xu,↓yf]
   rw [yu (by rw [lnM]; exact yx (by simp only [ni] at hm; omega)),xW hx]
   have e : List.set (p.map eN) k (D.agg [iN y.kind,iN y.n,.str y.s,iN y.a,iN y.b]) = (p.set k y).map eN := by rw [List.map_set]
   rw [e]
   refine yQ (IW hb a4 60) fun v c5 a5 ⟨o,e⟩ => ?_
   subst e
   simp (disch := first | omega | (simp only [lnA,lnC,lnN,lnM,yO,wY]; omega)) only [↓yo,↓yb,↓ye,↓xI,↓yh,↓yf]
   refine y6 (fun _ => ?_) fun _ => yR a5 ⟨p.set k y,rfl,?_,.inl (by simpa using hl)⟩
   ·refine yQ (y3 hb a5 _) fun v c6 a6 ⟨m,e,m0,m1⟩ => ?_
    subst e
    have := m1 (by omega)
    obtain ⟨k,hk⟩ := Int.eq_ofNat_of_zero_le m0
    subst hk
    simp (disch := first | omega | (simp only [lnA,lnC,lnN,lnM,yO,wY]; omega)) only [↓yo,↓yb,↓ye,↓yh,↓yf]
    exact fin a6 (by omega)
   ·intro z hz
    rcases List.mem_or_eq_of_mem_set hz with hz | hz
    ·exact hp z hz
    ·rw [hz]; exact hy
  ·refine yQ (IW hb a2 60) fun v c5 a5 ⟨o,e⟩ => ?_
   subst e
   simp (disch := first | omega | (simp only [lnA,lnC,lnN,lnM,yO,wY]; omega)) only [↓yo,↓yb,↓ye,↓xI,↓yh,↓yf]
   refine y6 (fun _ => ?_) fun _ => yR a5 ⟨p,rfl,hp,.inl hl⟩
   refine yQ (y3 hb a5 _) fun v c6 a6 ⟨m,e,m0,m1⟩ => ?_
   subst e
   have := m1 (by omega)
   obtain ⟨k,hk⟩ := Int.eq_ofNat_of_zero_le m0
   subst hk
   simp (disch := first | omega | (simp only [lnA,lnC,lnN,lnM,yO,wY]; omega)) only [↓yo,↓yb,↓ye,↓yh,↓yf]
   exact fin a6 (by omega)
 ·refine yQ (IW hb a1 60) fun v c5 a5 ⟨o,e⟩ => ?_
  subst e
  simp (disch := first | omega | (simp only [lnA,lnC,lnN,lnM,yO,wY]; omega)) only [↓yo,↓yb,↓ye,↓xI,↓yh,↓yf]
  refine y6 (fun _ => ?_) fun _ => yR a5 ⟨p,rfl,hp,.inl hl⟩
  refine yQ (y3 hb a5 _) fun v c6 a6 ⟨m,e,m0,m1⟩ => ?_
  subst e
  have := m1 (by omega)
  obtain ⟨k,hk⟩ := Int.eq_ofNat_of_zero_le m0
  subst hk
  simp (disch := first | omega | (simp only [lnA,lnC,lnN,lnM,yO,wY]; omega)) only [↓yo,↓yb,↓ye,↓yh,↓yf]
  exact fin a6 (by omega)
theorem Yv (hb : b.length < 4611686018427387904) (h : zJ b c) {p : List Nd} (hp : p.length <= 4000) : Cu b (fun v => ∃ m : Int,v = iN m /\ -1 <= m /\ m <= 4000) (V 91 [eC b c,eP p]) := by
 have pk : ∀ {c : Int × Int},zJ b c -> Cu b (fun v => ∃ m : Int,v = iN m /\ m ∈ [-1,0,(p.length : Int)]) (V 122 [eC b c,.rs (1,0) [iN (-1),iN 0,iN (p.length : Int)]]) := fun h => FJ hb h [-1,0,(p.length : Int)] (by simp)
 have fin : ∀ {m : Int},m ∈ [-1,0,(p.length : Int)] -> -1 <= m /\ m <= 4000 := by
  intro m hm
  simp only [List.mem_cons,List.not_mem_nil,or_false] at hm
  omega
 rw [PP,lnM]
 refine y6 (fun _ => ?_) fun h0 => ?_
 ·refine yQ (pk h) fun v c1 a1 ⟨m,e,hm⟩ => ?_
  subst e
  simp (disch := first | omega | (simp only [lnA,lnC,lnN,lnM,yO,wY]; omega)) only [↓yo,↓yb,↓ye,↓yh,↓yf]
  exact yR a1 ⟨m,rfl,fin hm⟩
 refine yQ (IW hb h 20) fun v c1 a1 ⟨o,e⟩ => ?_
 subst e
 simp (disch := first | omega | (simp only [lnA,lnC,lnN,lnM,yO,wY]; omega)) only [↓yo,↓yb,↓ye,↓xI,↓yh,↓yf]
 refine y6 (fun _ => ?_) fun _ => ?_
 ·refine yQ (pk a1) fun v c1 a1 ⟨m,e,hm⟩ => ?_
  subst e
  simp (disch := first | omega | (simp only [lnA,lnC,lnN,lnM,yO,wY]; omega)) only [↓yo,↓yb,↓ye,↓yh,↓yf]
  exact yR a1 ⟨m,rfl,fin hm⟩
 refine Ko (U6 _ _) ?_
 simp (disch := first | omega | (simp only [lnA,lnC,lnN,lnM,yO,wY]; omega)) only [↓yo,↓ye]
 refine yQ (y3 hb a1 _) fun v c2 a2 ⟨m,e,m0,m1⟩ => ?_
 subst e
 simp (disch := first | omega | (simp only [lnA,lnC,lnN,lnM,yO,wY]; omega)) only [↓yo,↓yb,↓ye,↓yh,↓yf]
 have hne : p.length ≠ 0 := by
  intro e
  rw [e] at h0
  exact absurd h0 (by decide)
 have hmn : m < mnI (ni p.length) 9 := m1 (by unfold mnI; simp only [ni]; split <;> omega)
 have hm9 : m < p.length /\ m < 9 := by
  unfold mnI at hmn
  simp only [ni] at hmn
  split at hmn <;> omega
 rw [w64 (n := ni p.length - 1) (by simp only [ni]; omega) (by simp only [ni]; omega),w64 (by simp only [ni]; omega) (by simp only [ni]; omega)]
 exact yR a2 ⟨_,rfl,by simp only [ni]; omega,by simp only [ni]; omega⟩
end
theorem WT {p : List Nd} (h : p.length <= 15 \/ (p.length <= 3001 /\ ∀ x ∈ p,x.kind = 1)) : p.length <= 3001 := by omega
end
end Go.Eng
/-! draws of programs: their texts -/
namespace Go.Eng
noncomputable section
open Go.Proofs Go.Proofs.Tryz
set_option maxHeartbeats 4000000
set_option maxRecDepth 10000

theorem zw (a b : ByteArray) : (a ++ b).size = a.size + b.size := ByteArray.size_append
theorem Ce (a : Array UInt8) : ByteArray.size ⟨a⟩ = a.size := rfl
def Hd (s : ByteArray) : Prop := ∃ (x : UInt8) (r : List UInt8),s.data.toList = x :: r /\ x ≠ 32
theorem JJ {a : ByteArray} (h : Hd a) (b : ByteArray) : Hd (a ++ b) := by
 obtain ⟨x,r,h1,h2⟩ := h
 exact ⟨x,r ++ b.data.toList,by simp [h1],h2⟩
theorem FQ (x : UInt8) (r : List UInt8) (h : x ≠ 32) : Hd ⟨(x :: r).toArray⟩ := ⟨x,r,by simp,h⟩
def Z7 (n : Nat) (v : D) : Prop := ∃ s : ByteArray,v = .str s /\ s.size <= n /\ Hd s
def SzE : Nat -> Nat
 | 0 => 9
 | d + 1 => 3 * SzE d + 30
section
variable {b : List Int}
theorem acj (hb : b.length < 4611686018427387904) {c : Int × Int} (h : zJ b c) : Cu b (Z7 9) (V 75 [eC b c,.rs (1,0) [(.str ({ data := #[49] })),(.str ({ data := #[120] })),(.str ({ data := #[121] })),(.str ({ data := #[45,50] })),(.str ({ data := #[35,116] })),(.str ({ data := #[40,41] })),(.str ({ data := #[102] })),(.str ({ data := #[40,113,117,111,116,101,32,97,41] })),(.str ({ data := #[48] }))]]) := by
 refine Ny (GE hb h [⟨#[49]⟩,⟨#[120]⟩,⟨#[121]⟩,⟨#[45,50]⟩,⟨#[35,116]⟩,⟨#[40,41]⟩,⟨#[102]⟩,⟨#[40,113,117,111,116,101,32,97,41]⟩,⟨#[48]⟩] (by simp)) ?_
 rintro v ⟨m,rfl,hm⟩
 refine ⟨m,rfl,?_⟩
 simp only [List.mem_cons,List.not_mem_nil,or_false] at hm
 rcases hm with rfl | rfl | rfl | rfl | rfl | rfl | rfl | rfl | rfl <;> exact ⟨by decide,FQ _ _ (by decide)⟩
theorem ack (hb : b.length < 4611686018427387904) {c : Int × Int} (h : zJ b c) : Cu b (Z7 4) (V 75 [eC b c,.rs (1,0) [(.str ({ data := #[43] })),(.str ({ data := #[45] })),(.str ({ data := #[42] })),(.str ({ data := #[60] })),(.str ({ data := #[61] })),(.str ({ data := #[99,111,110,115] })),(.str ({ data := #[101,113,63] }))]]) := by
 refine Ny (GE hb h [⟨#[43]⟩,⟨#[45]⟩,⟨#[42]⟩,⟨#[60]⟩,⟨#[61]⟩,⟨#[99,111,110,115]⟩,⟨#[101,113,63]⟩] (by simp)) ?_
 rintro v ⟨m,rfl,hm⟩
 refine ⟨m,rfl,?_⟩
 simp only [List.mem_cons,List.not_mem_nil,or_false] at hm
 rcases hm with rfl | rfl | rfl | rfl | rfl | rfl | rfl <;> exact ⟨by decide,FQ _ _ (by decide)⟩
theorem acl (hb : b.length < 4611686018427387904) {c : Int × Int} (h : zJ b c) : Cu b (Z7 6) (V 75 [eC b c,.rs (1,0) [(.str ({ data := #[99,97,114] })),(.str ({ data := #[99,100,114] })),(.str ({ data := #[110,117,108,108,63] })),(.str ({ data := #[112,97,105,114,63] })),(.str ({ data := #[110,111,116] })),(.str ({ data := #[99,97,108,108,99,99] }))]]) := by
 refine Ny (GE hb h [⟨#[99,97,114]⟩,⟨#[99,100,114]⟩,⟨#[110,117,108,108,63]⟩,⟨#[112,97,105,114,63]⟩,⟨#[110,111,116]⟩,⟨#[99,97,108,108,99,99]⟩] (by simp)) ?_
 rintro v ⟨m,rfl,hm⟩
 refine ⟨m,rfl,?_⟩
 simp only [List.mem_cons,List.not_mem_nil,or_false] at hm
 rcases hm with rfl | rfl | rfl | rfl | rfl | rfl <;> exact ⟨by decide,FQ _ _ (by decide)⟩
theorem abS : ∀ d,d <= 3 -> SzE d <= 633 := by decide
theorem abG : ∀ d,9 <= SzE d
 | 0 => Nat.le_refl _
 | d + 1 => by have := abG d; unfold SzE; omega
theorem aaa : ∀ d,SzE (d - 1) <= SzE d
 | 0 => Nat.le_refl _
 | d + 1 => by simp only [Nat.add_sub_cancel]; rw [show SzE (d + 1) = 3 * SzE d + 30 from rfl]; omega
theorem Te (hb : b.length < 4611686018427387904) : ∀ (k : Nat) (n : Int),n <= k -> -5 <= n -> k <= 3 -> ∀ c,zJ b c -> Cu b (Z7 (SzE n.toNat)) (V 214 [eC b c,iN n])
 | k,n,hk,hn,h3,c,hc => by
  rw [NQ]
  by_cases h0 : n <= 0
  ·rw [xK (decide_eq_true h0)]
   refine yQ (acj hb hc) fun v c1 a1 ⟨s,e,hs,hh⟩ => ?_
   subst e
   simp (disch := first | omega | (simp only [lnA,lnC,lnN,lnM,yO,wY]; omega)) only [↓yo,↓yb,↓ye,↓yi,↓yh,↓yf]
   exact yR a1 ⟨s,rfl,by have := abG n.toNat; omega,hh⟩
  ·rw [xb (decide_eq_false h0)]
   obtain ⟨k,rfl⟩ : ∃ j,k = j + 1 := ⟨k - 1,by omega⟩
   have w1 : w6 (n - 1) = n - 1 := w64 (by omega) (by omega)
   have w2 : w6 (n - 2) = n - 2 := w64 (by omega) (by omega)
   obtain ⟨d,hd⟩ : ∃ d,n.toNat = d + 1 := ⟨n.toNat - 1,by omega⟩
   have e1 : (n - 1).toNat = d := by omega
   have e2 : (n - 2).toNat = d - 1 := by omega
   have hz : SzE n.toNat = 3 * SzE d + 30 := by rw [hd]; rfl
   have hp := aaa d
   have hm := abS d (by omega)
   have i1 := fun c a => Te hb k (n - 1) (by omega) (by omega) (by omega) c a
   have i2 := fun c a => Te hb k (n - 2) (by omega) (by omega) (by omega) c a
   rw [e1] at i1
   rw [e2] at i2
   rw [w1,w2,hz]
   refine yQ (i1 c hc) fun v c1 a1 ⟨s,e,hs,hh⟩ => ?_
   subst e
   simp (disch := first | omega | (simp only [lnA,lnC,lnN,lnM,yO,wY]; omega)) only [↓yo,↓yb,↓ye,↓yi,↓yh,↓yf]
   refine yQ (i1 c1 a1) fun v c2 a2 ⟨t,e,ht,hh2⟩ => ?_
   subst e
   simp (disch := first | omega | (simp only [lnA,lnC,lnN,lnM,yO,wY]; omega)) only [↓yo,↓yb,↓ye,↓yi,↓yh,↓yf]
   refine yQ (y3 hb a2 _) fun v c3 a3 ⟨m,e,m0,m1⟩ => ?_
   subst e
   simp (disch := first | omega | (simp only [lnA,lnC,lnN,lnM,yO,wY]; omega)) only [↓yo,↓yb,↓ye,↓yh,↓yf]
   refine y6 (fun _ => ?_) fun _ => y6 (fun _ => ?_) fun _ => y6 (fun _ => ?_) fun _ => y6 (fun _ => ?_) fun _ => y6 (fun _ => ?_) fun _ => y6 (fun _ => ?_) fun _ => y6 (fun _ => ?_) fun _ => y6 (fun _ => ?_) fun _ => ?_
   ·repeat refine Bc (decide_eq_true (by rw [pE]; simp only [ni,zw,Ce,List.size_toArray,lnC,lnN]; omega)) ?_
    refine yQ (i2 c3 a3) fun v c4 a4 ⟨u,e,hu,hh3⟩ => ?_
    subst e
    simp (disch := first | omega | (simp only [lnA,lnC,lnN,lnM,yO,wY]; omega)) only [↓yo,↓yb,↓ye,↓yi,↓yh,↓yf]
    repeat refine Bc (decide_eq_true (by rw [pE]; simp only [ni,zw,Ce,List.size_toArray,lnC,lnN]; omega)) ?_
    exact yR a4 ⟨_,rfl,by simp only [zw,Ce,List.size_toArray,lnC,lnN]; omega,by repeat (first | exact FQ _ _ (by decide) | refine JJ ?_ _)⟩
   ·repeat refine Bc (decide_eq_true (by rw [pE]; simp only [ni,zw,Ce,List.size_toArray,lnC,lnN]; omega)) ?_
    exact yR a3 ⟨_,rfl,by simp only [zw,Ce,List.size_toArray,lnC,lnN]; omega,by repeat (first | exact FQ _ _ (by decide) | refine JJ ?_ _)⟩
   ·repeat refine Bc (decide_eq_true (by rw [pE]; simp only [ni,zw,Ce,List.size_toArray,lnC,lnN]; omega)) ?_
    exact yR a3 ⟨_,rfl,by simp only [zw,Ce,List.size_toArray,lnC,lnN]; omega,by repeat (first | exact FQ _ _ (by decide) | refine JJ ?_ _)⟩
   ·repeat refine Bc (decide_eq_true (by rw [pE]; simp only [ni,zw,Ce,List.size_toArray,lnC,lnN]; omega)) ?_
    exact yR a3 ⟨_,rfl,by simp only [zw,Ce,List.size_toArray,lnC,lnN]; omega,by repeat (first | exact FQ _ _ (by decide) | refine JJ ?_ _)⟩
   ·repeat refine Bc (decide_eq_true (by rw [pE]; simp only [ni,zw,Ce,List.size_toArray,lnC,lnN]; omega)) ?_
    exact yR a3 ⟨_,rfl,by simp only [zw,Ce,List.size_toArray,lnC,lnN]; omega,by repeat (first | exact FQ _ _ (by decide) | refine JJ ?_ _)⟩
   ·repeat refine Bc (decide_eq_true (by rw [pE]; simp only [ni,zw,Ce,List.size_toArray,lnC,lnN]; omega)) ?_
    exact yR a3 ⟨_,rfl,by simp only [zw,Ce,List.size_toArray,lnC,lnN]; omega,by repeat (first | exact FQ _ _ (by decide) | refine JJ ?_ _)⟩
   ·refine yQ (ack hb a3) fun v c4 a4 ⟨u,e,hu,hh3⟩ => ?_
    subst e
    simp (disch := first | omega | (simp only [lnA,lnC,lnN,lnM,yO,wY]; omega)) only [↓yo,↓yb,↓ye,↓yi,↓yh,↓yf]
    repeat refine Bc (decide_eq_true (by rw [pE]; simp only [ni,zw,Ce,List.size_toArray,lnC,lnN]; omega)) ?_
    exact yR a4 ⟨_,rfl,by simp only [zw,Ce,List.size_toArray,lnC,lnN]; omega,by repeat (first | exact FQ _ _ (by decide) | refine JJ ?_ _)⟩
   ·refine yQ (acl hb a3) fun v c4 a4 ⟨u,e,hu,hh3⟩ => ?_
    subst e
    simp (disch := first | omega | (simp only [lnA,lnC,lnN,lnM,yO,wY]; omega)) only [↓yo,↓yb,↓ye,↓yi,↓yh,↓yf]
    repeat refine Bc (decide_eq_true (by rw [pE]; simp only [ni,zw,Ce,List.size_toArray,lnC,lnN]; omega)) ?_
    exact yR a4 ⟨_,rfl,by simp only [zw,Ce,List.size_toArray,lnC,lnN]; omega,by repeat (first | exact FQ _ _ (by decide) | refine JJ ?_ _)⟩
   ·exact yR a3 ⟨s,rfl,by omega,hh⟩
def texts : List ByteArray := [(⟨#[40,100,101,102,105,110,101,32,40,102,32,110,41,32,40,105,102,32,40,60,32,110,32,50,41,32,110,32,40,43,32,40,102,32,40,45,32,110,32,49,41,41,32,40,102,32,40,45,32,110,32,50,41,41,41,41,41,32,40,102,32,54,41]⟩ : ByteArray),(⟨List.toArray (List.append [40,100,101,102,105,110,101,32,40,117,112,32,110,41,32,40,105,102,32,40,60,32,110,32,51,41,32,40,100,111,32,40] [112,114,105,110,116,32,110,41,32,40,117,112,32,40,43,32,110,32,49,41,41,41,32,110,41,41,32,40,117,112,32,48,41])⟩ : ByteArray),(⟨#[40,108,101,116,32,120,32,53,32,40,108,101,116,32,102,32,40,102,110,32,40,121,41,32,40,43,32,120,32,121,41,41,32,40,112,114,105,110,116,32,40,102,32,52,41,41,41,41]⟩ : ByteArray),(⟨#[40,112,114,105,110,116,32,40,99,97,108,108,99,99,32,40,102,110,32,40,107,41,32,40,100,111,32,40,107,32,55,41,32,56,41,41,41,41]⟩ : ByteArray),(⟨List.toArray (List.append [40,100,101,102,105,110,101,32,40,109,97,112,32,102,32,108,41,32,40,105,102,32,40,110,117,108,108,63,32,108,41,32,40,41,32,40,99,111,110,115,32,40,102,32,40,99,97,114,32,108,41,41,32,40,109,97,112,32,102] [32,40,99,100,114,32,108,41,41,41,41,41,32,40,112,114,105,110,116,32,40,109,97,112,32,40,102,110,32,40,120,41,32,40,42,32,120,32,120,41,41,32,40,113,117,111,116,101,32,40,49,32,50,32,51,41,41,41,41])⟩ : ByteArray),(⟨#[40,100,111,32,40,115,112,97,119,110,32,40,102,110,32,40,41,32,40,100,111,32,40,112,114,105,110,116,32,49,41,32,40,112,114,105,110,116,32,50,41,41,41,41,32,40,112,114,105,110,116,32,51,41,41]⟩ : ByteArray),(⟨List.toArray (List.append [40,108,101,116,32,112,32,40,115,112,97,119,110,32,40,102,110,32,40,41,32,40,112,114,105,110,116,32,40,114,101,99,118,41] [41,41,41,32,40,100,111,32,40,115,101,110,100,32,112,32,40,113,117,111,116,101,32,40,97,32,98,41,41,41,32,48,41,41])⟩ : ByteArray),(⟨List.toArray (List.append [40,108,101,116,32,112,32,40,115,112,97,119,110,32,40,102,110,32,40,41,32,40,108,101,116,32,102,32,40,114,101,99,118,41,32,40,112,114,105,110,116,32,40,102] [32,53,41,41,41,41,41,32,40,108,101,116,32,122,32,57,32,40,115,101,110,100,32,112,32,40,102,110,32,40,120,41,32,40,43,32,120,32,122,41,41,41,41,41])⟩ : ByteArray),(⟨#[40,100,111,32,40,112,114,105,110,116,32,49,41,32,40,103,111,32,49,41,32,40,112,114,105,110,116,32,50,41,32,40,103,111,32,48,41,32,40,112,114,105,110,116,32,51,41,41]⟩ : ByteArray),(⟨List.toArray (List.append [40,108,101,116,32,109,101,32,40,115,101,108,102,41,32,40,100,111,32,40,115,112,97,119,110,32,40,102,110,32,40,41,32,40,100,111,32,40] [103,111,32,49,41,32,40,115,101,110,100,32,109,101,32,52,50,41,41,41,41,32,40,112,114,105,110,116,32,40,114,101,99,118,41,41,41,41])⟩ : ByteArray),(⟨List.toArray (List.append [40,100,101,102,105,110,101,32,40,108,111,111,112,32,110,41,32,40,105,102,32,40,61,32,110,32,48,41,32,40,112,114,105,110,116,32,40] [113,117,111,116,101,32,101,110,100,41,41,32,40,108,111,111,112,32,40,45,32,110,32,49,41,41,41,41,32,40,108,111,111,112,32,57,41])⟩ : ByteArray),(⟨#[40,112,114,105,110,116,32,40,99,97,114,32,40,113,117,111,116,101,32,40,41,41,41,41]⟩ : ByteArray),(⟨#[40,112,114,105,110,116,32,40,102,32,49,41,41]⟩ : ByteArray),(⟨#[40,43,32,49,32,35,116,41]⟩ : ByteArray),(⟨#[40,112,114,105,110,116,32,40,99,111,110,115,32,49,32,40,99,111,110,115,32,50,32,40,41,41,41,41]⟩ : ByteArray),(⟨List.toArray (List.append (List.append [40,100,101,102,105,110,101,32,40,112,105,110,103,32,112,32,110,41,32,40,105,102,32,40,60,32,110,32,49,41,32,48,32,40,100,111,32,40,115,101,110,100,32,112,32] [110,41,32,40,112,114,105,110,116,32,40,114,101,99,118,41,41,32,40,112,105,110,103,32,112,32,40,45,32,110,32,49,41,41,41,41,41,32,40,108,101,116,32,109,101,32]) (List.append [40,115,101,108,102,41,32,40,112,105,110,103,32,40,115,112,97,119,110,32,40,102,110,32,40,41,32,40,100,111,32,40,103,111,32,49,41,32,40,115,101,110,100,32,109,101] [32,40,43,32,49,48,32,40,114,101,99,118,41,41,41,32,40,115,101,110,100,32,109,101,32,40,43,32,49,48,32,40,114,101,99,118,41,41,41,41,41,41,32,50,41,41]))⟩ : ByteArray),(⟨List.toArray (List.append [40,108,101,116,32,107,32,40,99,97,108,108,99,99,32,40,102,110,32,40,99,41,32,99,41,41,32,40,105,102,32,40,112,97,105,114,63] [32,107,41,32,40,112,114,105,110,116,32,40,99,97,114,32,107,41,41,32,40,107,32,40,113,117,111,116,101,32,40,53,41,41,41,41,41])⟩ : ByteArray),(⟨List.toArray (List.append [40,108,101,116,32,112,32,40,115,112,97,119,110,32,40,102,110,32,40,41,32,40,100,111,32,40,103,111,32,49,41,32,40,108,101,116,32,107,32,40,114,101,99,118,41,32,40,107,32,56] [41,41,41,41,41,32,40,112,114,105,110,116,32,40,99,97,108,108,99,99,32,40,102,110,32,40,107,41,32,40,100,111,32,40,115,101,110,100,32,112,32,107,41,32,51,41,41,41,41,41])⟩ : ByteArray)]
theorem aaS : ∀ s ∈ texts,s.size <= 633 /\ Hd s := by
 intro s hs
 simp only [texts,List.mem_cons,List.not_mem_nil,or_false] at hs
 rcases hs with rfl | rfl | rfl | rfl | rfl | rfl | rfl | rfl | rfl | rfl | rfl | rfl | rfl | rfl | rfl | rfl | rfl | rfl <;> exact ⟨by decide,⟨40,_,rfl,by decide⟩⟩
theorem abm (hb : b.length < 4611686018427387904) {c : Int × Int} (h : zJ b c) : Cu b (Z7 633) (V 192 [eC b c]) := by
 have ht : V 213 [] = some (.os (1,0) (texts.map D.str),[]) := Rl
 rw [KM]
 refine yQ (IW hb h 4) fun v c1 a1 ⟨o,e⟩ => ?_
 subst e
 simp (disch := first | omega | (simp only [lnA,lnC,lnN,lnM,yO,wY]; omega)) only [↓yo,↓yb,↓ye,↓xI,↓yh,↓yf]
 refine y6 (fun _ => ?_) fun _ => ?_
 ·refine Ko ht ?_
  simp (disch := first | omega | (simp only [lnA,lnC,lnN,lnM,yO,wY]; omega)) only [↓yo,↓yg]
  refine yQ (GE hb a1 texts (by decide)) fun v c2 a2 ⟨m,e,hm⟩ => ?_
  subst e
  simp (disch := first | omega | (simp only [lnA,lnC,lnN,lnM,yO,wY]; omega)) only [↓yo,↓yb,↓ye,↓yi,↓yh,↓yf]
  exact yR a2 ⟨m,rfl,aaS m hm⟩
 ·refine yQ (Te hb 3 3 (by omega) (by omega) (by omega) c1 a1) fun v c2 a2 ⟨m,e,hm⟩ => ?_
  subst e
  simp (disch := first | omega | (simp only [lnA,lnC,lnN,lnM,yO,wY]; omega)) only [↓yo,↓yb,↓ye,↓yi,↓yh,↓yf]
  exact yR a2 ⟨m,rfl,hm⟩
end
end
end Go.Eng
/-! draws of code -/
namespace Go.Eng
noncomputable section
open Go.Proofs Go.Proofs.Tryz
set_option maxHeartbeats 4000000
set_option maxRecDepth 10000

theorem Ft {l : List UInt8} : ∀ (k i : Nat) (o : List RwF) (t : RwF) (q q' : List Nd) (row : List Int),(o ≠ [] \/ t.2 ≠ []) -> Ct l k i o t q = .ok q' row -> row ≠ []
 | 0,i,o,t,q,q',row,h,e => by rw [Ct] at e; cases e
 | k + 1,i,o,t,q,q',row,h,e => by
  rw [IJ] at e
  cases hx : l[i]? with
  | none =>
   rw [hx,Na] at e
   split at e
   ·rename_i ho
    cases e
    rcases h with h | h
    ·exact absurd ho h
    ·exact h
   ·cases e
  | some x =>
   rw [hx,Kz] at e
   split at e
   ·exact Ft k _ _ _ _ _ _ h e
   split at e
   ·exact Ft k _ _ _ _ _ _ (.inl (by simp)) e
   split at e
   ·split at e
    ·cases e
    ·exact Ft k _ _ _ _ _ _ (.inr (by simp)) e
   split at e
   ·split at e
    ·cases e
    ·exact Ft k _ _ _ _ _ _ (.inr (by simp)) e
   ·cases e
theorem Gb {l : List UInt8} : ∀ (k i : Nat) (o : List RwF) (t : RwF) (q : List Nd) (c a : Int),Ct l k i o t q = .err c a -> c ≠ 0
 | 0,i,o,t,q,c,a,e => by rw [Ct] at e; cases e; decide
 | k + 1,i,o,t,q,c,a,e => by
  rw [IJ] at e
  cases hx : l[i]? with
  | none =>
   rw [hx,Na] at e
   split at e
   ·cases e
   ·cases e; decide
  | some x =>
   rw [hx,Kz] at e
   split at e
   ·exact Gb k _ _ _ _ _ _ e
   split at e
   ·exact Gb k _ _ _ _ _ _ e
   split at e
   ·split at e
    ·cases e; decide
    ·exact Gb k _ _ _ _ _ _ e
   split at e
   ·split at e
    ·cases e; decide
    ·exact Gb k _ _ _ _ _ _ e
   ·cases e; decide
theorem Gc {l : List UInt8} : ∀ (k i : Nat) (o : List RwF) (t : RwF) (q : List Nd),i <= l.length -> ∀ q' row,Ct l k i o t q = .ok q' row -> q'.length + row.length <= phi o t q + 2 * (l.length - i)
 | 0,i,o,t,q,_,q',row,h => by rw [Ct] at h; cases h
 | k + 1,i,o,t,q,h2,q',row,h => by
  have hph : phi o t q = q.length + t.2.length + (o.map fun x => x.2.length).sum := rfl
  rw [IJ] at h
  by_cases hi : i = l.length
  ·have hx : l[i]? = none := List.getElem?_eq_none (by omega)
   rw [hx,Na] at h
   by_cases ho : o = []
   ·rw [if_pos ho] at h
    cases h
    omega
   ·rw [if_neg ho] at h; cases h
  obtain ⟨x,hx⟩ := xx (l := l) (i := i) (by omega)
  rw [hx,Kz] at h
  by_cases h32 : x = 32
  ·rw [if_pos h32] at h
   have := Gc k (i + 1) o t q (by omega) q' row h
   omega
  rw [if_neg h32] at h
  by_cases h40 : x = 40
  ·rw [if_pos h40] at h
   have := Gc k (i + 1) (t :: o) ((i : Int),[]) q (by omega) q' row h
   simp only [phi,List.map_cons,List.sum_cons,lnN] at this
   omega
  rw [if_neg h40] at h
  by_cases h41 : x = 41
  ·rw [if_pos h41] at h
   cases o with
   | nil => cases h
   | cons u o =>
    simp only [List.map_cons,List.sum_cons] at hph
    have := Gc k (i + 1) o (u.1,u.2 ++ [((y2 q t.2).2 : Int)]) (y2 q t.2).1 (by omega) q' row h
    simp only [phi,Fq,lnA,lnC,lnN] at this
    omega
  rw [if_neg h41] at h
  by_cases hw : Ju x = true
  ·rw [if_pos hw] at h
   have hwe := Kj hx hw
   have hwl := U9 (l := l) (j := i + 1) (by omega)
   cases hwd : Ff ((l.drop i).take (Ez l i - i)) with
   | none => rw [hwd] at h; cases h
   | some nd =>
    rw [hwd] at h
    have := Gc k (Ez l i) o (t.1,t.2 ++ [(q.length : Int)]) (q ++ [nd]) (by omega) q' row h
    simp only [phi,lnA,lnC,lnN] at this
    omega
  ·rw [if_neg hw] at h; cases h
theorem WX {p : List Nd} {s : ByteArray} (hs : Hd s) (h : (CK p s.data.toList).2.2.1 = 0) : (CK p s.data.toList).2.1 ≠ [] := by
 obtain ⟨x,r,hl,hx⟩ := hs
 unfold CK at h ⊢
 split at h
 ·simp at h
 split at h
 ·simp at h
 rename_i h1 h2
 rw [if_neg h1,if_neg h2]
 generalize hg : Ct s.data.toList (s.data.toList.length + 1) 0 [] (0,[]) p = g at h ⊢
 cases g with
 | err c a =>
  simp only [ZQ] at h
  exact absurd h (Gb _ _ _ _ _ _ _ hg)
 | ok q row =>
  simp only [ZQ] at h ⊢
  split at h
  ·rename_i hq
   rw [if_pos hq]
   rw [IJ,hl] at hg
   simp only [List.getElem?_cons_zero] at hg
   rw [Kz,if_neg hx] at hg
   split at hg
   ·exact Ft _ _ _ _ _ _ _ (.inl (by simp)) hg
   split at hg
   ·cases hg
   split at hg
   ·split at hg
    ·cases hg
    ·exact Ft _ _ _ _ _ _ _ (.inr (by simp)) hg
   ·cases hg
  ·simp at h
structure RightC (x : Cd) : Prop where
 ok : zI x = true
 ne : 0 < x.list.length
 fits : FitsC x
theorem RU {p : List Nd} (hf : zZ p) {n : Int} : ∀ (xs : List Int) (i : Int) (m : Ms) {x : Cd} {j : Int},FI p n xs i m = (x,0,j) -> m.list.length <= 400 -> Xo m -> m.how = 0 -> (0 < m.list.length \/ xs ≠ []) -> RightC x
 | [],i,m,x,j,e,hm,hs,h0,hne => by
  unfold FI at e
  split at e
  ·rename_i hok
   cases e
   obtain ⟨c1,c2,c3⟩ := zY hok
   have := y0 c1
   exact ⟨hok,by rcases hne with h | h; exact h; exact absurd rfl h,⟨hf,by omega,hs.1,by omega,hs.2,by omega⟩⟩
  ·cases e
 | y :: r,i,m,x,j,e,hm,hs,h0,hne => by
  unfold FI at e
  simp only at e
  have le := aaT (p := p) (v := y) hm
  split at e
  ·cases e
  split at e
  ·rename_i h; have := congrArg (fun r => r.2.1) e; exact absurd this h
  ·rename_i h
   have h : (QL p y m).how = 0 := by omega
   exact RU hf r (i + 1) _ e le.four (Y8 hf hm hs) h (.inl (by have := le.grew h; omega))
theorem Vl {p : List Nd} (hf : zZ p) {xs : List Int} (hne : xs ≠ []) (h : (LX p xs).2.1 = 0) : RightC (LX p xs).1 := by
 unfold LX at h ⊢
 split at h
 ·rename_i hh
  rw [if_pos hh]
  generalize hg : FI p xs.length xs 0 ⟨[],[],0⟩ = g at h ⊢
  obtain ⟨x,a,j⟩ := g
  simp only at h
  subst h
  exact RU hf xs 0 ⟨[],[],0⟩ hg (by simp) ⟨fun x h => by simp at h,fun x h => by simp at h⟩ rfl (.inr hne)
 ·simp at h
def lastS : ByteArray := ⟨#[40,112,114,105,110,116,32,49,41]⟩
theorem abq : (CK [] lastS.data.toList).2.2.1 = 0 /\ (LX (CK [] lastS.data.toList).1 (CK [] lastS.data.toList).2.1).2.1 = 0 := by decide +kernel
theorem FP : zZ [] := fun x h => by simp at h
theorem SB (l : List UInt8) : zZ (CK [] l).1 /\ (CK [] l).1.length <= 800 /\ (CK [] l).2.1.length <= 800 := by
 unfold CK
 rw [if_neg (by decide)]
 by_cases h4 : 400 < l.length
 ·rw [if_pos h4]; exact ⟨FP,by simp,by simp⟩
 rw [if_neg h4]
 unfold ZQ
 cases hr : Ct l (l.length + 1) 0 [] (0,[]) [] with
 | err c a => exact ⟨FP,by simp,by simp⟩
 | ok q row =>
  have h1 := IK (l := l) (by omega) (l.length + 1) 0 [] (0,[]) [] (by omega) (by simp only [phi,List.map_nil,List.sum_nil,lnN]; omega) FP q row hr
  have h2 := Gc (l := l) (l.length + 1) 0 [] (0,[]) [] (by omega) q row hr
  simp only [phi,List.map_nil,List.sum_nil,lnN] at h2
  simp only
  split
  ·exact ⟨h1.1,by simp only; omega,by simp only; omega⟩
  ·exact ⟨FP,by simp,by simp⟩
def ace (v : D) : Prop := ∃ x : Cd,v = oCd x /\ RightC x
section
variable {b : List Int}
theorem ZM (s : ByteArray) : ∃ R C,V 191 [.agg [.rs (5,0) []],.str s] = UQ R /\ V 193 [eP R.1,.rs (1,0) (R.2.1.map eI)] = RT C /\ (Hd s -> R.2.2.1 = 0 -> C.2.1 = 0 -> RightC C.1) := by
 have h1 : V 191 [.agg [.rs (5,0) []],.str (mk s.data.toList)] = _ := OT FP (by simp) s.data.toList
 rw [Ql] at h1
 obtain ⟨r1,r2,r3⟩ := SB s.data.toList
 exact ⟨CK [] s.data.toList,LX (CK [] s.data.toList).1 (CK [] s.data.toList).2.1,h1,Kh r1 (by omega) (by omega),fun hh h h' => Vl r1 (WX hh h) h'⟩
theorem abp : ∃ s : ByteArray,s = ⟨#[40,112,114,105,110,116,32,49,41]⟩ /\ Hd s /\ (CK [] s.data.toList).2.2.1 = 0 /\ (LX (CK [] s.data.toList).1 (CK [] s.data.toList).2.1).2.1 = 0 := ⟨lastS,rfl,⟨40,_,rfl,by decide⟩,abq⟩
theorem ZN : ∃ R C,V 191 [.agg [.rs (5,0) []],.str ⟨#[40,112,114,105,110,116,32,49,41]⟩] = UQ R /\ V 193 [eP R.1,.rs (1,0) (R.2.1.map eI)] = RT C /\ RightC C.1 := by
 obtain ⟨s,hs,hh,l1,l2⟩ := abp
 rw [<- hs]
 have h1 : V 191 [.agg [.rs (5,0) []],.str (mk s.data.toList)] = _ := OT FP (by simp) s.data.toList
 rw [Ql] at h1
 obtain ⟨r1,r2,r3⟩ := SB s.data.toList
 exact ⟨CK [] s.data.toList,LX (CK [] s.data.toList).1 (CK [] s.data.toList).2.1,h1,Kh r1 (by omega) (by omega),Vl r1 (WX hh l1) l2⟩
theorem KR (hb : b.length < 4611686018427387904) : ∀ (k i : Nat) (c : Int × Int),i + k = 4 -> zJ b c -> Cu b ace (z7 (i : Int) (b.map eB) c.1 c.2)
 | 0,i,c,hi,hc => by
  obtain ⟨R,C,h1,h2,hok⟩ := ZN
  rw [Dt,xb (decide_eq_false (by omega)),Sn h1,MQ h2]
  exact yR hc ⟨C.1,rfl,hok⟩
 | k + 1,i,c,hi,hc => by
  rw [Dt,xK (decide_eq_true (by omega))]
  refine yQ (abm hb hc) fun v c1 a1 ⟨s,e,hs,hh⟩ => ?_
  subst e
  obtain ⟨R,C,h1,h2,hok⟩ := ZM s
  have ih := KR hb k (i + 1) c1 (by omega) a1
  rw [yi,yb,yf,yb,yh,yb,ye,yb,ye,yo,yo]
  try dsimp only
  rw [Sn h1,MQ h2]
  by_cases hr : R.2.2.1 = 0
  ·rw [xK (yF hr)]
   by_cases hc0 : C.2.1 = 0
   ·rw [xK (yF hc0)]
    exact yR a1 ⟨C.1,rfl,hok hh hr hc0⟩
   ·rw [xb (yE hc0),yM (by omega)]
    exact ih
  ·rw [xb (yE hr),yM (by omega)]
   exact ih
theorem PI (hb : b.length < 4611686018427387904) {c : Int × Int} (h : zJ b c) : Cu b ace (V 142 [eC b c]) := by
 rw [Mr]
 exact KR hb 4 0 c (by omega) h
structure SomeC (x : Cd) : Prop where
 fits : FitsC x
 pool : x.pool.length <= 3001
 list : x.list.length <= 400
 defs : x.defs.length <= 21
def act (v : D) : Prop := ∃ x : Cd,v = oCd x /\ SomeC x
theorem LI {x : Cd} (h : RightC x) : SomeC x := by
 obtain ⟨c1,c2,c3⟩ := zY h.ok
 have := y0 c1
 exact ⟨h.fits,by omega,c2,by omega⟩
theorem Nf {x : Cd} (h : SomeC x) (k : Nat) {y : In} (hy : y.s.size < 4611686018427387904) : SomeC ⟨x.pool,x.list.set k y,x.defs⟩ := by
 obtain ⟨f,p,l,d⟩ := h
 refine ⟨⟨f.pool,f.plen,?_,by simpa using f.llen,f.defs,f.dlen⟩,p,by simpa using l,d⟩
 intro z hz
 rcases List.mem_or_eq_of_mem_set hz with hz | rfl
 ·exact f.list z hz
 ·exact hy
end
end
end Go.Eng
/-! draws of code,mostly right -/
namespace Go.Eng
open Go.Proofs Go.Proofs.Tryz
set_option maxHeartbeats 4000000

section
variable {b : List Int}
theorem Zm (hb : b.length < 4611686018427387904) {c : Int × Int} (h : zJ b c) : Cu b act (V 74 [eC b c]) := by
 rw [TV]
 refine yQ (PI hb h) fun v c1 a1 ⟨x,e,hx⟩ => ?_
 subst e
 have hs := LI hx
 have hne := hx.ne
 have hll := hs.list
 rw [xu,yb,yg,yb,yg,yb,yg,yo,yb,yf,yb,yh,yb,ye,yb,ye,yo,yo]
 try dsimp only
 rw [lnM]
 refine yQ (y3 hb a1 _) fun v c2 a2 ⟨m,e,m0,m1⟩ => ?_
 subst e
 have m1 := m1 (by simp only [ni]; omega)
 obtain ⟨y,hy⟩ := xx (l := x.list) (i := m.toNat) (by simp only [ni] at m1; omega)
 have hg : (decide (0 <= m) && decide (m < ni x.list.length)) = true := by simp only [Bool.and_eq_true,decide_eq_true_eq]; exact ⟨m0,m1⟩
 have hys := hx.fits.list y (List.mem_of_getElem? hy)
 have st : ∀ (z : In) ,List.set (x.list.map eIn) m.toNat (eIn z) = (x.list.set m.toNat z).map eIn := fun z => by rw [List.map_set]
 rw [ye,yb,yf,yb,yh,yb,ye,yb,ye,yo,yo]
 refine yQ (y3 hb a2 _) fun v c3 a3 ⟨n,e,n0,n1⟩ => ?_
 subst e
 rw [ye,yb,yf,yb,yh,yb,ye,yb,ye,yo,yo]
 refine y6 (fun _ => ?_) fun _ => y6 (fun _ => ?_) fun _ => y6 (fun _ => ?_) fun _ => y6 (fun _ => ?_) fun _ => y6 (fun _ => ?_) fun _ => y6 (fun _ => ?_) fun _ => ?_
 ·refine yQ (y3 hb a3 _) fun v c4 a4 ⟨u,e,u0,u1⟩ => ?_
  subst e
  rw [ye,yb,yf,yb,yh,yb,ye,yb,ye,yo,yo]
  refine Bc hg ?_
  rw [xW hy,xu,yA]
  exact yR a4 ⟨⟨x.pool,x.list.set m.toNat ⟨u,y.n,y.i,y.s⟩,x.defs⟩,congrArg (fun l => D.agg [.os (5,0) (x.pool.map eN),.os (4,0) l,.os (3,0) (x.defs.map eDf)]) (st ⟨u,y.n,y.i,y.s⟩),Nf hs _ hys⟩
 ·refine yQ (FJ hb a3 [-1,0,m,w6 (m + 1),ni x.list.length,w6 (ni x.list.length + 1)] (by simp)) fun v c4 a4 ⟨u,e,hu⟩ => ?_
  subst e
  rw [ye,yb,yf,yb,yh,yb,ye,yb,ye,yo,yo]
  refine Bc hg ?_
  rw [xW hy,xu,yA]
  exact yR a4 ⟨⟨x.pool,x.list.set m.toNat ⟨y.op,u,y.i,y.s⟩,x.defs⟩,congrArg (fun l => D.agg [.os (5,0) (x.pool.map eN),.os (4,0) l,.os (3,0) (x.defs.map eDf)]) (st ⟨y.op,u,y.i,y.s⟩),Nf hs _ hys⟩
 ·refine yQ (y3 hb a3 _) fun v c4 a4 ⟨u,e,u0,u1⟩ => ?_
  subst e
  rw [ye,yb,yf,yb,yh,yb,ye,yb,ye,yo,yo]
  refine Bc hg ?_
  rw [xW hy,xu,yA]
  exact yR a4 ⟨⟨x.pool,x.list.set m.toNat ⟨y.op,y.n,w6 (u - 1),y.s⟩,x.defs⟩,congrArg (fun l => D.agg [.os (5,0) (x.pool.map eN),.os (4,0) l,.os (3,0) (x.defs.map eDf)]) (st ⟨y.op,y.n,w6 (u - 1),y.s⟩),Nf hs _ hys⟩
 ·refine yQ (GE hb a3 [⟨#[]⟩,⟨#[97]⟩,⟨#[65]⟩] (by simp)) fun v c4 a4 ⟨u,e,hu⟩ => ?_
  subst e
  rw [yi,yb,yf,yb,yh,yb,ye,yb,ye,yo,yo]
  refine Bc hg ?_
  rw [xW hy,xu,yA]
  have hz : u.size < 4611686018427387904 := by
   simp only [List.mem_cons,List.not_mem_nil,or_false] at hu
   rcases hu with rfl | rfl | rfl <;> decide
  exact yR a4 ⟨⟨x.pool,x.list.set m.toNat ⟨y.op,y.n,y.i,u⟩,x.defs⟩,congrArg (fun l => D.agg [.os (5,0) (x.pool.map eN),.os (4,0) l,.os (3,0) (x.defs.map eDf)]) (st ⟨y.op,y.n,y.i,u⟩),Nf hs _ hz⟩
 ·refine yQ (GE hb a3 [⟨#[102]⟩,⟨#[109,97,105,110]⟩,⟨#[122,122]⟩,⟨#[65]⟩] (by simp)) fun v c4 a4 ⟨u,e,hu⟩ => ?_
  subst e
  rw [yi,yb,yf,yb,yh,yb,ye,yb,ye,yo,yo]
  refine yQ (y3 hb a4 _) fun v c5 a5 ⟨w,e,w0,w1⟩ => ?_
  subst e
  rw [ye,yb,yf,yb,yh,yb,ye,yb,ye,yo,yo]
  refine yQ (y3 hb a5 _) fun v c6 a6 ⟨z,e,z0,z1⟩ => ?_
  subst e
  rw [ye,yb,yf,yb,yh,yb,ye,yb,ye,yo,yo]
  have hz : u.size < 4611686018427387904 := by
   simp only [List.mem_cons,List.not_mem_nil,or_false] at hu
   rcases hu with rfl | rfl | rfl | rfl <;> decide
  have ea : x.defs.map eDf ++ [D.agg [D.str u,iN w,iN z]] = (x.defs ++ [(⟨u,w,z⟩ : Df)]).map eDf := by simp
  obtain ⟨c1,c2,c3⟩ := zY hx.ok
  try dsimp only
  rw [ea]
  refine Bc (decide_eq_true (by rw [pE,lnM]; simp only [ni,lnA,lnC,lnN]; omega)) ?_
  obtain ⟨f,p,l,d⟩ := hs
  refine yR a6 ⟨⟨x.pool,x.list,x.defs ++ [⟨u,w,z⟩]⟩,rfl,⟨⟨f.pool,f.plen,f.list,f.llen,?_,by simp only [lnA,lnC,lnN]; omega⟩,p,l,by simp only [lnA,lnC,lnN]; omega⟩⟩
  intro q hq
  rcases List.mem_append.1 hq with hq | hq
  ·exact f.defs q hq
  ·rw [List.mem_singleton.1 hq]; exact hz
 ·refine yQ (Yz hb a3) fun v c4 a4 ⟨p,e,hp,hl⟩ => ?_
  subst e
  rw [xu,yb,yg,yo,yb,yf,yb,yh,yb,ye,yb,ye,yo,yo]
  obtain ⟨f,p',l,d⟩ := hs
  have hl := WT hl
  exact yR a4 ⟨⟨p,x.list,x.defs⟩,rfl,⟨⟨SF hp,by show p.length < _; omega,f.list,f.llen,f.defs,f.dlen⟩,hl,l,d⟩⟩
 ·exact yR a3 ⟨x,rfl,hs⟩
end
end Go.Eng
/-! a step of a machine: the reference's side: instructions,steps,runs,answers -/
namespace Go.Eng
open Go.Proofs Go.Proofs.Tryz
set_option maxHeartbeats 4000000

theorem Xw {q : List Nd} (hp : yV q = true) {v : Int} (hv : InP q v) (acc : List Nd) (d d' : Int) : AH d q v acc = AH d' q v acc := by
 have h := Kt hp (CJ hp [v]) (Bw q [v]) d d' q.length [] [] acc rfl (Nat.zero_add _) (fun _ _ => rfl)
 unfold AH
 refine Prod.ext h.1 ?_
 have := h.2 v.toNat (Eu (SE hv) v (by simp))
 simp only [List.getD_eq_getElem?_getD]
 exact congrArg (fun o => Option.getD o 0) this
theorem Xe {q acc : List Nd} (hp : yV q = true) {v : Int} (hv : InP q v) (hc : acc.length + q.length < 4294967296) : V 96 [rP acc,eP q,iN v] = some (iN (AH (-1) q v acc).2,[rP (AH (-1) q v acc).1]) := by
 have h1 : V 149 [eP q,.rs (1,0) [iN v]] = _ := SK hp (l := [v]) (by simp) (SE hv)
 have h2 := Xb (acc := acc) hp (rs := [v]) hc
 have hl : (Bz 0 q [v] acc).1.length = q.length := by unfold Bz; rw [Ee]; simp
 rw [Xw hp hv acc (-1) 0,Ul,MY h1,OG h2,aaA ⟨hv.1,by rw [hl]; exact hv.2⟩]
 rfl

theorem ac7 {R : Type} (x : Df) (K : Int -> Option R) : (asAgg (eDf x) fun l => cT l 1 fun y => asI .i64 y fun n => K n) = K x.at' := rfl
theorem ac8 {R : Type} (x : Df) (K : Int -> Option R) : (asAgg (eDf x) fun l => cT l 2 fun y => asI .i64 y fun n => K n) = K x.args := rfl
theorem WO {c : Cd} {x : In} {k : Int} (h : Jf c x k = true) (h1 : ¬ x.op = 1) (h2 : ¬ x.op = 2) (h3 : ¬ x.op = 3) (h4 : ¬ x.op = 4) (h5 : ¬ x.op = 5) (h6 : ¬ x.op = 6) (h7 : ¬ x.op = 7) (h8 : ¬ x.op = 8) : x.op = 9 := by
 unfold Jf at h
 rw [if_neg h1,if_neg h2,if_neg h3,if_neg (by omega),if_neg h6,if_neg h7] at h
 split at h
 ·omega
 ·cases h
theorem Yo {c : Cd} (hf : FitsC c) (hc : zI c = true) {m : Mc} (hl : m.pool.length < 4294967200) (s : ByteArray) : Nq c (V 217 [eCd c,eMo m,.str s]) (Oj c m s) := by
 have hd := Fp hf s
 have c2 := (zY hc).2.1
 rw [PU,Qu hd]
 unfold Oj
 by_cases h0 : 0 <= Dw c s
 ·obtain ⟨d,hg⟩ := RX h0
  have hok := Sq hc hg
  unfold XZ at hok
  simp only [Bool.and_eq_true] at hok
  have a1 := wi_iff.1 hok.2.2.1
  have a2 := wi_iff.1 hok.2.2.2
  have hlt := aQ hg
  have h1 := zo (p := m.pool) (by omega) ndN
  have h2 := zo (p := m.pool ++ [ndN]) (by simp; omega) (ndF (8 * d.at' + d.args) m.pool.length)
  have h3 := Fm (m := ⟨m.pool ++ [ndN] ++ [ndF (8 * d.at' + d.args) m.pool.length],m.at',m.s,m.e,m.d,m.state,m.ask,m.arg⟩) (by simp; omega) (m.pool.length + 1)
  have e1 : w6 (w6 (8 * d.at') + d.args) = 8 * d.at' + d.args := by rw [w64 (n := 8 * d.at') (by omega) (by omega),w64 (by omega) (by omega)]
  have e2 : ((m.pool ++ [ndN]).length : Int) = m.pool.length + 1 := by simp
  rw [e2] at h2
  have hgr : (decide (0 <= Dw c s) && decide (Dw c s < ni (c.defs.map eDf).length)) = true := by rw [lnM]; simp only [ni,Bool.and_eq_true,decide_eq_true_eq]; omega
  rw [if_pos h0,xK (decide_eq_true h0),y1 h1,yu hgr,xW hg,ac7,yu hgr,xW hg,ac8]
  simp only [List.getD_eq_getElem?_getD,hg,Option.getD_some]
  rw [e1,y1 h2,Aj h3]
  rfl
 ·rw [if_neg h0,xb (decide_eq_false h0)]
  have hp := RK s
  have hb := QC s
  rw [WA hp]
  by_cases hz : FX s = 0
  ·rw [if_pos hz,xK (yF hz)]
   exact zu m (by decide) rfl
  ·have h1 := zo (p := m.pool) (by omega) (ndR (FX s))
   have h3 := Fm (m := ⟨m.pool ++ [ndR (FX s)],m.at',m.s,m.e,m.d,m.state,m.ask,m.arg⟩) (by simp; omega) m.pool.length
   rw [if_neg hz,xb (yE hz),y1 h1,Aj h3]
   rfl
theorem aa6 {c : Cd} (_ : c.list.length <= 400) {m : Mc} (hr : RunM c m) (hl : m.pool.length <= 3000) : Nq c (V 220 [eMo m]) (Oh c m) := by
 rw [Ue]
 unfold Oh
 cases ht : GK m with
 | none =>
  have h1 := GL hr.gm.s ht
  rw [Aa h1]
  exact zu m (by decide) rfl
 | some q =>
  obtain ⟨v,m1⟩ := q
  have h1 := Nk hr.gm.s ht
  obtain ⟨g1,g2,g3,g4,g5,g6,g7,g8⟩ := Ge hr.gm ht
  rw [Aa h1,Bool.not_true,xJ,GP g1.d]
  simp only
  by_cases k1 : (nod m1.pool m1.d).kind = 1
  ·rw [if_pos k1,xK (yF k1)]; rfl
  rw [if_neg k1,xb (yE k1)]
  by_cases k5 : (nod m1.pool m1.d).kind = 5
  ·rw [if_neg (fun h => h k5),xb (yG k5)]
   have ha := MH g1.ok g1.d (.inl k5)
   have hfr : V 234 [eP m1.pool,iN (nod m1.pool m1.d).a,iN 3] = _ := SN g1.ok (by rw [g3]; omega) ha (many := 3) (by omega)
   rw [Sa (by omega)]
   cases hq : JH m1.pool (nod m1.pool m1.d).a 3 with
   | none =>
    rw [hq] at hfr
    rw [Ck hfr]
    exact zu m1 (by decide) rfl
   | some nr =>
    obtain ⟨n,r⟩ := nr
    rw [hq] at hfr
    have hlen := Qc (by omega) hq
    obtain ⟨s,e,rfl⟩ : ∃ s e,r = [s,e] := by
     match r,hlen with
     | [s,e],_ => exact ⟨s,e,rfl⟩
     | [],h => simp at h
     | [_],h => simp at h
     | _ :: _ :: _ :: _,h => simp at h
    have a3 := Fm (m := ⟨m1.pool,n,s,e,(nod m1.pool m1.d).b,m1.state,m1.ask,m1.arg⟩) (by show m1.pool.length < _; rw [g3]; omega) v
    by_cases h5 : CE c n = true
    ·simp only [h5,if_true]
     rw [Ck hfr,Bool.not_true,xJ,Cq,I8,Aj a3]
     rfl
    ·have h5f : CE c n = false := by cases hz : CE c n with | true => exact absurd hz h5 | false => rfl
     simp only [h5f]
     refine .inr ⟨rfl,Pf ⟨m1.pool,n,s,e,(nod m1.pool m1.d).b,m1.state,m1.ask,m1.arg⟩ v,h5f,?_⟩
     rw [Ck hfr,Bool.not_true,xJ,Cq,I8,Aj a3]
  ·rw [if_pos k5,xK (yH k5)]
   exact zu m1 (by decide) rfl
theorem Wc {c : Cd} {n : Int} (h : CE c n = false) (h0 : 0 <= n) : (c.list.length : Int) <= n := by
 rcases Int.lt_or_le n c.list.length with h1 | h1
 ·have := isPl_iff.2 ⟨h0,(by omega : n <= (c.list.length : Int) - 1)⟩
  rw [h] at this; cases this
 ·exact h1
theorem OI {c : Cd} (hc : c.list.length <= 400) : ∀ (k : Nat) {m : Mc} {acc : List Int},k + acc.length <= 4 -> RunM c m -> m.pool.length <= 3000 -> (∀ v ∈ acc,InP m.pool v) ->
  Nq c (Du (m.at' + 1) ((k : Int) - 1) m.at' m.s m.e m.d m.state m.ask m.arg (c.pool.map eN) (c.list.map eIn) (c.defs.map eDf) ((List.replicate k 0 ++ acc).map eI) (m.pool.map eN)) (if CE c (m.at' + 1) = false then .error 7 else match GW (k + 1) m with
   | none => .error 7
   | some (l,m') => Iu c 3 m' (l.getD k 0) ((l.take k).reverse ++ acc))
 | 0,m,acc,hk,hr,hl,hv => by
  have hpl := isPl_iff.1 hr.pl
  rw [Gy,xb (decide_eq_false (by omega))]
  simp only [GW]
  cases ht : GK m with
  | none =>
   have h1 := GL hr.gm.s ht
   rw [Aa h1]
   simp only [ite_self]
   exact zu m (by decide) rfl
  | some q =>
   obtain ⟨v,m1⟩ := q
   have h1 := Nk hr.gm.s ht
   obtain ⟨g1,g2,g3,g4,g5,g6,g7,g8⟩ := Ge hr.gm ht
   rw [Aa h1,Bool.not_true,xJ,lnM]
   simp only [List.getD_cons_zero,List.take_zero,List.reverse_nil,List.nil_append,List.replicate_zero]
   cases hp : CE c (m.at' + 1) with
   | false =>
    have := Wc hp (by omega)
    rw [if_pos rfl,xK (decide_eq_true (by simp only [ni]; omega))]
    exact zu m1 (by decide) rfl
   | true =>
    have := isPl_iff.1 hp
    have hr1 : RunM c m1 := ⟨g1,g5.trans hr.st,g6.trans hr.ask,g7.trans hr.arg,by rw [g4]; exact hr.pl⟩
    have hva : ∀ u ∈ acc,InP m1.pool u := fun u hu => by rw [g3]; exact hv u hu
    have ha := SM hc 3 hr1 (f := v) (l := acc) (by rw [g4]; exact hp) (by rw [g3]; omega) g2 hva (by omega) (PD 3 hva (.inl (Nat.le_refl _)))
    rw [g4] at ha
    rw [if_neg (by simp),xb (decide_eq_false (by simp only [ni]; omega))]
    exact JW ha (fun q m' hx => by rw [MW hx])
 | k + 1,m,acc,hk,hr,hl,hv => by
  have e1 : (((k + 1 : Nat) : Int) - 1) = (k : Int) := by omega
  rw [Gy,e1,xK (decide_eq_true (by omega))]
  rw [GW]
  cases ht : GK m with
  | none =>
   have h1 := GL hr.gm.s ht
   rw [Aa h1]
   simp only [ite_self]
   exact zu m (by decide) rfl
  | some q =>
   obtain ⟨v,m1⟩ := q
   have h1 := Nk hr.gm.s ht
   obtain ⟨g1,g2,g3,g4,g5,g6,g7,g8⟩ := Ge hr.gm ht
   have ih := OI hc k (m := m1) (acc := v :: acc) (by simp only [lnC]; omega) ⟨g1,g5.trans hr.st,g6.trans hr.ask,g7.trans hr.arg,by rw [g4]; exact hr.pl⟩ (by rw [g3]; exact hl) (fun u hu => by
    rcases List.mem_cons.1 hu with rfl | hu
    ·exact g2
    ·rw [g3]; exact hv u hu)
   rw [g4] at ih
   have ae : (List.replicate (k + 1) (0 : Int) ++ acc)[k]? = some 0 := by
    rw [List.getElem?_append_left (by simp)]; simp
   have hset : List.set ((List.replicate (k + 1) (0 : Int) ++ acc).map eI) k (iN v) = (List.replicate k 0 ++ v :: acc).map eI := by
    rw [<- List.map_set (f := eI) (a := v),List.replicate_succ',List.append_assoc]
    simp
   rw [Aa h1,Bool.not_true,xJ,yu (by rw [lnM]; exact yx (by simp only [lnA,List.length_replicate]; omega)),Int.toNat_natCast,xW ae,yA,hset,w64 (n := (k : Int) - 1) (by omega) (by omega)]
   simp only
   cases ht2 : GW (k + 1) m1 with
   | none => rw [ht2] at ih; rw [g4] ; exact ih
   | some q2 =>
    obtain ⟨l2,m2⟩ := q2
    rw [ht2] at ih
    simp only [List.getD_cons_succ,List.take_succ_cons,List.reverse_cons,List.append_assoc,List.singleton_append]
    rw [g4]
    exact ih
theorem Xd {c : Cd} (hc : c.list.length <= 400) {m : Mc} (hr : RunM c m) (hl : m.pool.length <= 3000) {k : Int} (hk : 0 <= k /\ k <= 4) : Nq c (V 219 [eCd c,eMo m,iN k,iN (m.at' + 1)]) (D7 c m k.toNat) := by
 have h := OI hc k.toNat (m := m) (acc := []) (by simp only [lnN]; omega) hr hl (by simp)
 rw [Uf,yu (by rw [pE]; simp only [Bool.and_eq_true,decide_eq_true_eq]; omega),w64 (n := k - 1) (by omega) (by omega)]
 rw [Int.toNat_of_nonneg hk.1,List.append_nil,List.map_replicate] at h
 unfold D7
 cases ht : GW (k.toNat + 1) m with
 | none => rw [ht] at h; exact h
 | some q =>
  obtain ⟨l,m'⟩ := q
  obtain ⟨f1,f2,f3,f4,f5,f6,f7,f8,f9⟩ := KC hr.gm ht
  rw [ht] at h
  simp only [List.append_nil] at h ⊢
  obtain ⟨l0,f,rfl⟩ : ∃ l0 f,l = l0 ++ [f] := ⟨l.dropLast,l.getLast (by intro e; subst e; simp at f3),(List.dropLast_concat_getLast _).symm⟩
  have e3 : l0.length = k.toNat := by simpa using f3
  have e4 : (l0 ++ [f]).getD k.toNat 0 = f := by rw [<- e3]; simp
  have e5 : (l0 ++ [f]).take k.toNat = l0 := by rw [<- e3]; simp
  rw [e4,e5] at h
  simp only [List.reverse_append,List.reverse_cons,List.reverse_nil,List.nil_append,List.singleton_append,List.getD_cons_zero,List.drop_one,List.tail_cons]
  exact h
theorem Fj {c : Cd} {m : Mc} {n : Int} {X : Option Ret} (h : X = some (iN 0,[eMo ⟨m.pool,n,m.s,m.e,m.d,m.state,m.ask,m.arg⟩])) : Nq c X (goM c (.ok m) n) := by
 unfold goM
 cases hp : CE c n with
 | false => exact .inr ⟨rfl,_,hp,h⟩
 | true => exact h
theorem ab9 {c : Cd} (hf : FitsC c) (hok : zI c = true) {m : Mc} (hr : RunM c m) (hl : m.pool.length <= 3000) {x : In} {k : Nat} (hx : c.list[k]? = some x) : Nq c (V 196 [eCd c,eMo m,eIn x]) (if x.op = 7 then D7 c m x.i.toNat else if x.op = 8 then Oh c m else LG c m x) := by
 obtain ⟨c1,c2,c3⟩ := zY hok
 have cl := y0 c1
 have hin := Od hok hx
 have hat := isPl_iff.1 hr.pl
 have w1 : w6 (m.at' + 1) = m.at' + 1 := w64 (by omega) (by omega)
 rw [XJ]
 by_cases h7 : x.op = 7
 ·rw [if_pos h7,xb (yE (by omega)),xb (yE (by omega)),xb (yE (by omega)),xb (yE (by omega)),xb (yE (by omega)),xb (yE (by omega)),xK (yF h7),w1]
  exact JW (Xd c2 hr hl (Su hin h7)) (fun q m' hx => by rw [WE hx])
 rw [if_neg h7]
 by_cases h8 : x.op = 8
 ·rw [if_pos h8,xb (yE (by omega)),xb (yE (by omega)),xb (yE (by omega)),xb (yE (by omega)),xb (yE (by omega)),xb (yE (by omega)),xb (yE (by omega)),xK (yF h8)]
  exact JW (aa6 c2 hr hl) (fun q m' hx => by rw [WD hx])
 rw [if_neg h8]
 unfold LG
 by_cases h1 : x.op = 1
 ·have hlit := WL hin h1
  have f := GD c1 hr.gm.ok hlit (-1)
  obtain ⟨f1,f2,t,f3,f4⟩ := f
  have hlen := congrArg List.length f3
  rw [lnA] at hlen
  have h2 := Xe (acc := m.pool) c1 hlit (by omega)
  have h3 := Fm (m := ⟨(AH (-1) c.pool x.n m.pool).1,m.at',m.s,m.e,m.d,m.state,m.ask,m.arg⟩) (by show (AH (-1) c.pool x.n m.pool).1.length < _; omega) (AH (-1) c.pool x.n m.pool).2
  rw [if_pos h1,xK (yF h1),OD h2,Aj h3,w1]
  exact Fj rfl
 rw [if_neg h1,xb (yE h1)]
 by_cases h2 : x.op = 2
 ·have hv := aaH hin h2
  have hX := Zd hr.gm.ok hr.gm.e (n := x.n) (by omega) (by omega)
  rw [if_pos h2,xK (yF h2)]
  unfold aa9
  cases e1 : Pc m.pool x.n.toNat m.e with
  | none =>
   rw [e1] at hX
   rw [Je hX]
   exact zu m (by decide) rfl
  | some fr =>
   rw [e1] at hX
   have hY := Zd hr.gm.ok (Pu hr.gm.ok _ _ _ hr.gm.e e1) (n := x.i) (by omega) (by omega)
   rw [Je hX,Bool.not_true,xJ]
   simp only
   cases e2 : Pc m.pool x.i.toNat fr with
   | none =>
    rw [e2] at hY
    rw [Je hY]
    exact zu m (by decide) rfl
   | some v =>
    rw [e2] at hY
    have h3 := Fm (m := m) (by omega) v
    rw [Je hY,Bool.not_true,xJ,Aj h3,w1]
    exact Fj rfl
 rw [if_neg h2,xb (yE h2)]
 by_cases h3 : x.op = 3
 ·have hX := Yo hf hok (m := m) (by omega) x.s
  rw [if_pos h3,xK (yF h3)]
  cases e : Oj c m x.s with
  | ok m' =>
   rw [e] at hX
   rw [KZ (UL hX),xb (yG rfl),w1]
   exact Fj rfl
  | error q =>
   rw [e] at hX
   rcases QA hX with ⟨q0,m',hx'⟩ | ⟨q7,m',hp,hx'⟩
   ·rw [KZ hx',xK (yH q0)]
    exact zu m' q0 rfl
   ·exfalso
    unfold Oj at e
    split at e
    ·cases e
    ·split at e
     ·cases e; omega
     ·cases e
 rw [if_neg h3,xb (yE h3)]
 by_cases h5 : x.op = 5
 ·rw [if_pos h5,xb (yE (by omega)),xK (yF h5)]
  exact Fj rfl
 rw [if_neg h5]
 by_cases h6 : x.op = 6
 ·have hfn := WK hin h6
  have a7 := zo (p := m.pool) (by omega) (ndF (8 * x.n + x.i) m.e)
  have a8 := Fm (m := ⟨m.pool ++ [ndF (8 * x.n + x.i) m.e],m.at',m.s,m.e,m.d,m.state,m.ask,m.arg⟩) (by simp; omega) m.pool.length
  rw [if_pos h6,xb (yE (by omega)),xb (yE (by omega)),xK (yF h6),w64 (n := 8 * x.n) (by omega) (by omega),w64 (n := 8 * x.n + x.i) (by omega) (by omega),y1 a7,Aj a8,w1]
  exact Fj rfl
 rw [if_neg h6]
 cases ht : GK m with
 | none =>
  have t1 := GL hr.gm.s ht
  by_cases h4 : x.op = 4
  ·rw [xK (yF h4),Aa t1]
   exact zu m (by decide) rfl
  ·have h9 : x.op = 9 := WO hin h1 h2 h3 h4 h5 h6 h7 h8
   rw [xb (yE h4),xb (yE h5),xb (yE h6),xb (yE h7),xb (yE h8),xK (yF h9),Aa t1]
   exact zu m (by decide) rfl
 | some q =>
  obtain ⟨v,m1⟩ := q
  have hX := Nk hr.gm.s ht
  obtain ⟨g1,g2,g3,g4,g5,g6,g7,g8⟩ := Ge hr.gm ht
  simp only
  by_cases h4 : x.op = 4
  ·rw [xK (yF h4),Aa hX,Bool.not_true,xJ,GP g2]
   by_cases k2 : (nod m1.pool v).kind = 2
   ·rw [xK (yF k2)]
    by_cases k0 : (nod m1.pool v).n = 0
    ·rw [xK (yF k0),if_pos ⟨h4,k2,k0⟩]
     exact Fj rfl
    ·rw [xb (yE k0),if_neg (fun h => k0 h.2.2),w1]
     exact Fj rfl
   ·rw [xb (yE k2),if_neg (fun h => k2 h.2.1),w1]
    exact Fj rfl
  ·have h9 : x.op = 9 := WO hin h1 h2 h3 h4 h5 h6 h7 h8
   rw [xb (yE h4),xb (yE h5),xb (yE h6),xb (yE h7),xb (yE h8),xK (yF h9),Aa hX,if_neg (fun h => h4 h.1),Bool.not_true,xJ,w1]
   exact Fj rfl

theorem QU {m : Mc} (hl : m.pool.length <= 4294967296) (q : Int) : V 97 [eMc m,iN q] = some (oMc (PX m q),[]) := by
 rw [Ui,BX (Kg hl)]
 rfl
theorem Yb {c : Cd} {m : Mc} (h : JA c m = true) (hc : 0 < c.list.length) : CE c m.at' = true := by
 unfold JA at h
 have z : CE c 0 = true := isPl_iff.2 ⟨Int.le_refl _,by omega⟩
 split at h
 ·simp only [Bool.and_eq_true] at h; exact h.1
 split at h
 ·simp only [Bool.and_eq_true] at h; exact h.1
 split at h
 ·simp only [Bool.and_eq_true,beq_iff_eq] at h; rw [h.1]; exact z
 split at h
 ·simp only [Bool.and_eq_true,beq_iff_eq] at h; rw [h.1]; exact z
 ·cases h
theorem aa7 {c : Cd} (hf : FitsC c) (hok : zI c = true) {m : Mc} (hr : RunM c m) (hl : m.pool.length <= 3000) : V 153 [eCd c,eMc m] = some (oMc (W7 c m),[]) := by
 obtain ⟨c1,c2,c3⟩ := zY hok
 have cl := y0 c1
 obtain ⟨x,hx⟩ := Y6 hr
 have hlt := aQ hx
 have hat := isPl_iff.1 hr.pl
 have hgd : c.list.getD m.at'.toNat ⟨0,0,0,⟨#[]⟩⟩ = x := by rw [List.getD_eq_getElem?_getD,hx]; rfl
 have hfail := fun q => QU (m := m) (by omega) q
 have hdo : doM c m = if x.op = 7 then D7 c m x.i.toNat else if x.op = 8 then Oh c m else LG c m x := by unfold doM; rw [hgd]
 have hX := ab9 hf hok hr hl hx
 rw [<- hdo] at hX
 have hin : ∀ n : Int,V 62 [iN n,iN 0,iN (w6 (ni c.list.length - 1))] = some (.bool (CE c n),[]) := fun n => by
  rw [w64 (n := ni c.list.length - 1) (by simp only [ni]; omega) (by simp only [ni]; omega)]
  exact Al n 0 _
 rw [Uk,BX (Kg (by omega)),yu (by rw [lnM]; simp only [ni,Bool.and_eq_true,decide_eq_true_eq]; omega),xW hx,abX,lnM]
 unfold W7
 cases e : doM c m with
 | ok m' =>
  rw [e] at hX
  obtain ⟨g1,⟨t,g2,g3⟩,g4⟩ := Vw hok hr e
  have hlen := congrArg List.length g2
  rw [lnA] at hlen
  rw [Oc (UL hX),xb (yG rfl),zT (hin m'.at'),Yb g4 (by omega),Bool.not_true,xJ,lnM]
  simp only
  by_cases h3 : m'.pool.length <= 3000
  ·rw [xb (decide_eq_false (by simp only [ni]; omega)),if_pos h3]
  ·rw [xK (decide_eq_true (by simp only [ni]; omega)),Eh (hfail 6),if_neg h3]
 | error q =>
  rw [e] at hX
  simp only
  rcases QA hX with ⟨q0,m',hx'⟩ | ⟨q7,m',hp,hx'⟩
  ·rw [Oc hx',xK (yH q0),Eh (hfail q)]
  ·rw [Oc hx',xb (yG rfl),zT (hin m'.at'),hp,Bool.not_false,yk,Eh (hfail 7),q7]

theorem Xf {c : Cd} (hf : FitsC c) {m : Mc} (hm : zZ m.pool) (hl : m.pool.length <= 4294967296) : V 89 [eCd c,eMc m] = some (oMc (WZ c m),[]) := by
 have h1 := DP hf hm (by omega)
 rw [XE,JU h1]
 unfold WZ
 cases h : CU c m with
 | false => rw [Bool.not_false,yk,if_neg (by simp)]; rfl
 | true =>
  rw [Bool.not_true,xJ,if_pos rfl]
  by_cases h0 : m.state = 0
  ·obtain ⟨r1,r2,r3⟩ := WQ h h0
   rw [xb (yG h0),WH (aa7 hf r2 r1 r3),if_pos h0]
  ·rw [xK (yH h0),BX (Kg hl),if_neg h0]
theorem RJ {c : Cd} (hf : FitsC c) {m : Mc} (hm : zZ m.pool) (hl : m.pool.length <= 4294967296) {p : List Nd} (hp : zZ p) (hpl : p.length < 4611686018427387904) (v : Int) : V 32 [eCd c,eMc m,eP p,iN v] = some (oMc (LR c m p v),[]) := by
 have h1 := DP hf hm (by omega)
 have hcp := Kg hl
 rw [Tu,JU h1]
 unfold LR
 cases h : CU c m with
 | false => rw [Bool.not_false,yk,if_neg (by simp)]; rfl
 | true =>
  obtain ⟨r1,r2,r3,r4,r5,r6,r7⟩ := Jg h
  obtain ⟨c1,c2,c3⟩ := zY r1
  rw [Bool.not_true,xJ,if_pos rfl]
  by_cases hs : m.state = 1
  ·rw [xb (yG hs),BV (zK hp hpl)]
   cases hpo : yV p with
   | false => rw [Bool.not_false,yk,BX hcp,if_neg (by simp)]
   | true =>
    rw [Bool.not_true,xJ,Jb (Fk hpl v)]
    cases hv : wi v 0 ((p.length : Int) - 1) with
    | false => rw [Bool.not_false,yk,BX hcp,if_neg (by simp)]
    | true =>
     have hat : 0 <= m.at' /\ m.at' <= 1000 := by
      unfold JA at r7
      rw [if_neg (by omega),if_pos hs] at r7
      simp only [Bool.and_eq_true] at r7
      have := wi_iff.1 r7.1
      omega
     have hv' := wi_iff.1 hv
     have hin : InP p v := ⟨hv'.1,by omega⟩
     obtain ⟨f1,f2,t,f3,f4⟩ := GD hpo r2 hin (-1)
     have hlen := congrArg List.length f3
     have hpl' := y0 hpo
     rw [lnA] at hlen
     have h2 := Xe (acc := m.pool) hpo hin (by omega)
     have h3 := Fm (m := ⟨(AH (-1) p v m.pool).1,m.at',m.s,m.e,m.d,m.state,m.ask,m.arg⟩) (by show (AH (-1) p v m.pool).1.length < _; omega) (AH (-1) p v m.pool).2
     rw [Bool.not_true,xJ,if_pos ⟨hs,rfl,rfl⟩,BX hcp,OD h2,Aj h3,w64 (n := m.at' + 1) (by omega) (by omega),lnM,lnM]
     rw [show (Pf ⟨(AH (-1) p v m.pool).1,m.at',m.s,m.e,m.d,m.state,m.ask,m.arg⟩ (AH (-1) p v m.pool).2).pool.length = (UO m p v).pool.length from rfl]
     cases hp1 : CE c (m.at' + 1) with
     | false =>
      have := Wc hp1 (by omega)
      rw [xK (decide_eq_true (by simp only [ni]; omega)),Eh (QU hl 7),if_neg (by simp)]
     | true =>
      have := isPl_iff.1 hp1
      rw [xb (decide_eq_false (by simp only [ni]; omega)),if_pos rfl]
      by_cases h3k : (UO m p v).pool.length <= 3000
      ·rw [xb (decide_eq_false (by simp only [ni]; omega)),if_pos h3k]; rfl
      ·rw [xK (decide_eq_true (by simp only [ni]; omega)),Eh (QU hl 6),if_neg h3k]
  ·rw [xK (yH hs),BX hcp,if_neg (fun h => hs h.1)]
end Go.Eng
/-! marks,equality,sizes and copies of nodes and numbers -/
namespace Go.Eng
open Go.Proofs Go.Proofs.Tryz
set_option maxHeartbeats 4000000

end Go.Eng
/-! sizes,copies and equality of what a law's arguments hold -/
namespace Go.Eng
open Go.Proofs Go.Proofs.Tryz
set_option maxHeartbeats 4000000

end Go.Eng
/-! a law's arguments: pools,code,machines,processes -/
namespace Go.Eng
open Go.Proofs Go.Proofs.Tryz
set_option maxHeartbeats 4000000
set_option maxRecDepth 100000

noncomputable def Lim (p : List Nd) : Prop := (∀ x ∈ p,x.s.size <= 140737488351232) /\ p.length <= 140737488351232
end Go.Eng
/-! machines as bytes,on both sides -/
namespace Go.Eng
noncomputable section
open Go.Proofs Go.Proofs.Tryz
set_option maxHeartbeats 4000000

def Cn (l : List Int) : List UInt8 := l.flatMap fun x => zj x.toNat
def Pz (l : List Int) : Prop := ∀ x ∈ l,0 <= x /\ x < 4611686018427387904
theorem Mw {p : List Nd} (hp : yV p = true) {l : List Int} (hs : Pz l) (hl : l.length <= 1000) (a b c d e f g : Int) : ∀ (k i : Nat) (out : List UInt8),i + k = l.length -> out.length <= 9 * i ->
  AJ (ni l.length) (i : Int) a b c d e f g (out.map eU) (l.map eI) (p.map eN) = some (.tup [.str (mk (out ++ Cn (l.drop i) ++ DA p)),.bool true],[])
 | 0,i,out,hi,ho => by
  have hpk := Qa hp
  rw [Dc,List.drop_of_length_le (by omega)]
  simp (disch := first | omega | (simp only [lnA,lnC,lnN,lnM,yO,wY]; omega)) only [↓wZ,xi,↓xJ,↓xP,↓yo,↓yg,↓yA,yJ,yI,lnM,lnA,pE,wY,Xc hp,yl,↓BU,Cn,List.flatMap_nil,List.append_nil]
 | k + 1,i,out,hi,ho => by
  obtain ⟨x,hx⟩ := xx (l := l) (i := i) (by omega)
  have hxs := hs x (List.mem_of_getElem? hx)
  have hlx := y9 (n := x.toNat) (by omega)
  have ih := Mw hp hs hl a b c d e f g k (i + 1) (out ++ zj x.toNat) (by omega) (by simp only [lnA]; omega)
  have hw : w6 ((i : Int) + 1) = ((i + 1 : Nat) : Int) := yM (by omega)
  have en : out ++ Cn (l.drop i) ++ DA p = out ++ zj x.toNat ++ Cn (l.drop (i + 1)) ++ DA p := by
   rw [tU hx]; simp [Cn]
  have hn := zx hxs.1 hxs.2
  rw [en,Dc]
  simp (disch := first | omega | (simp only [lnA,lnC,lnN,lnM,yO,wY]; omega)) only [↓wZ,xi,↓yk,↓xP,↓yo,↓ye,↓yg,↓yA,↓xX,yJ,Bool.and_true,lnM,lnA,pE,wY,↓xW hx,hn,yl,hw]
  exact ih
theorem Ng {p : List Nd} (hp : yV p = true) {l : List Int} (hs : Pz l) (hl : l.length <= 1000) (a b c d e f g : Int) : ∀ (k i : Nat) (out : List UInt8),i + k = l.length -> out.length <= 9 * i ->
  AK (i : Int) a b c d e f g (out.map eU) (l.map eI) (p.map eN) = some (.tup [.str (mk (out ++ Cn (l.drop i) ++ DA p)),.bool true],[])
 | 0,i,out,hi,ho => by
  have hpk := Qa hp
  rw [Dl,List.drop_of_length_le (by omega)]
  simp (disch := first | omega | (simp only [lnA,lnC,lnN,lnM,yO,wY]; omega)) only [↓wZ,xi,↓xJ,↓xP,↓yo,↓yg,↓yA,yJ,yI,lnM,lnA,pE,wY,Z3 hp,yl,↓BU,Cn,List.flatMap_nil,List.append_nil]
 | k + 1,i,out,hi,ho => by
  obtain ⟨x,hx⟩ := xx (l := l) (i := i) (by omega)
  have hxs := hs x (List.mem_of_getElem? hx)
  have hlx := y9 (n := x.toNat) (by omega)
  have ih := Ng hp hs hl a b c d e f g k (i + 1) (out ++ zj x.toNat) (by omega) (by simp only [lnA]; omega)
  have hw : w6 ((i : Int) + 1) = ((i + 1 : Nat) : Int) := yM (by omega)
  have en : out ++ Cn (l.drop i) ++ DA p = out ++ zj x.toNat ++ Cn (l.drop (i + 1)) ++ DA p := by
   rw [tU hx]; simp [Cn]
  have hn := zy hxs.1 hxs.2
  rw [en,Dl]
  simp (disch := first | omega | (simp only [lnA,lnC,lnN,lnM,yO,wY]; omega)) only [↓wZ,xi,↓yk,↓xP,↓yo,↓ye,↓yg,↓yA,↓xX,yJ,Bool.and_true,lnM,lnA,pE,wY,↓xW hx,hn,yl,hw]
  exact ih
def EJ (m : Mc) : List Int := [m.at',m.state,m.ask,m.s,m.e,m.d,m.arg]
def Ap (c : Cd) (m : Mc) : Option (List UInt8) := if CU c m = true then some (Cn (EJ (yX m)) ++ DA (yX m).pool) else none
theorem Kw {c : Cd} {m : Mc} (h : CU c m = true) : Pz (EJ m) := by
 obtain ⟨hp,hr,h1,h2,h3,h4,h5,h6,h7,h8⟩ := BZ h
 have hlen := y0 hp
 have hs : wi m.s 0 ((m.pool.length : Int) - 1) = true /\ wi m.e 0 ((m.pool.length : Int) - 1) = true /\ wi m.d 0 ((m.pool.length : Int) - 1) = true := by
  unfold CU IZ at h
  simp only [Bool.and_eq_true] at h
  exact ⟨h.2.2.1,h.2.2.2.1,h.2.2.2.2.1⟩
 have w1 := wi_iff.1 hs.1
 have w2 := wi_iff.1 hs.2.1
 have w3 := wi_iff.1 hs.2.2
 intro x hx
 simp only [EJ,List.mem_cons,List.not_mem_nil,or_false] at hx
 omega
theorem Bi {c : Cd} (hf : FitsC c) {m : Mc} (hm : zZ m.pool) (hl : m.pool.length <= 4294967296) : V 19 [eCd c,eMc m] = some (Eo (Ap c m),[]) := by
 have hok := Og hf hm (by omega)
 have ht := OQ hm hl
 rw [LY]
 unfold Ap
 cases h : CU c m with
 | false => rw [h] at hok; simp (disch := first | omega | (simp only [lnA,lnC,lnN,lnM,yO,wY]; omega)) only [↓wZ,xi,↓yk,↓yo,↓xI,Bool.not_false,hok]; rfl
 | true =>
  rw [h] at hok
  have h2 := Nh h
  have hlp := Mw (BZ h2).1 (Kw h2) (by simp [EJ]) (yX m).at' (yX m).s (yX m).e (yX m).d (yX m).state (yX m).ask (yX m).arg 7 0 [] rfl (by simp)
  rw [List.drop_zero,List.nil_append] at hlp
  simp (disch := first | omega | (simp only [lnA,lnC,lnN,lnM,yO,wY]; omega)) only [↓wZ,xi,↓xJ,↓yo,↓yb,↓ye,↓xI,↓yg,↓xu,Bool.not_true,wY,hok,ht]
  exact hlp
theorem CW {c : Cd} (hf : FitsC c) {m : Mc} (hm : zZ m.pool) (hl : m.pool.length <= 4294967296) : V 20 [eCd c,eMc m] = some (Eo (Ap c m),[]) := by
 have hok := DP hf hm (by omega)
 have ht := Xg hm hl
 rw [Mj]
 unfold Ap
 cases h : CU c m with
 | false => rw [h] at hok; simp (disch := first | omega | (simp only [lnA,lnC,lnN,lnM,yO,wY]; omega)) only [↓wZ,xi,↓yk,↓yo,↓xI,Bool.not_false,hok]; rfl
 | true =>
  rw [h] at hok
  have h2 := Nh h
  have hlp := Ng (BZ h2).1 (Kw h2) (by simp [EJ]) (yX m).at' (yX m).s (yX m).e (yX m).d (yX m).state (yX m).ask (yX m).arg 7 0 [] rfl (by simp)
  rw [List.drop_zero,List.nil_append] at hlp
  simp (disch := first | omega | (simp only [lnA,lnC,lnN,lnM,yO,wY]; omega)) only [↓wZ,xi,↓xJ,↓yo,↓yb,↓ye,↓xI,↓yg,↓xu,Bool.not_true,hok,ht]
  exact hlp
end
end Go.Eng
/-! nodes of bytes,on both sides -/
namespace Go.Eng
noncomputable section
open Go.Proofs Go.Proofs.Tryz
set_option maxHeartbeats 4000000

abbrev RS := Nat × Bool
abbrev rO (b : List UInt8) (s : RS) : D := .op [.os (1,0) (b.map eU),iN (s.1 : Int),.bool s.2]
def InB (b : List UInt8) (s : RS) : Prop := s.1 <= b.length
def y4 (b : List UInt8) (s : RS) : Nat × RS := match GR 9 (b.drop s.1) with | some (v,c) => (v,(s.1 + c,s.2)) | none => (0,(s.1,false))
def zb (b : List UInt8) (s : RS) : Nat × RS := match GR 9 (b.drop s.1) with | some (v,c) => (match s.2 with | true => (v,(s.1 + c,true)) | false => (0,(s.1,false))) | none => (0,(s.1,false))
def KN (b : List UInt8) (i : Nat) : Option (List UInt8 × Nat) := match GR 9 (b.drop i) with | some (v,c) => (if i + c + v <= b.length then some ((b.drop (i + c)).take v,i + c + v) else none) | none => none
def AY (b : List UInt8) (s : RS) : List UInt8 × RS := match KN b s.1 with | some (t,i) => (t,(i,s.2)) | none => ([],(s.1,false))
def Ew (b : List UInt8) (s : RS) : List UInt8 × RS := match KN b s.1 with | some (t,i) => (t,(i,s.2)) | none => ([],(0,false))
theorem Ut (b : List UInt8) (i : Nat) : NV b i 0 0 = match GR 9 (b.drop i) with | some (v,c) => .tup [iN (v : Int),iN ((i + c : Nat) : Int),.bool true] | none => noN := by
 unfold NV
 simp only [Nat.add_zero,Nat.sub_zero]
 cases GR 9 (b.drop i) with
 | none => rfl
 | some p => simp
theorem Kn {b : List UInt8} {i v c : Nat} (h : GR 9 (b.drop i) = some (v,c)) : v < 9223372036854775808 /\ i + c <= b.length /\ 1 <= c := by
 have h1 := Qd 9 _ v c h
 rw [List.length_drop] at h1
 have e : (128 : Nat) ^ 9 = 9223372036854775808 := rfl
 omega
section
variable {b : List UInt8} (hb : b.length < 4611686018427387904)
include hb
theorem zO {s : RS} (hs : InB b s) : V 71 [rO b s] = some (iN ((y4 b s).1 : Int),[rO b (y4 b s).2]) := by
 have h := Lk hb hs
 rw [Ut] at h
 rw [NC]
 unfold y4
 cases e : GR 9 (b.drop s.1) with
 | none => rw [e] at h; simp (disch := first | omega | (simp only [lnA,lnC,lnN,lnM,yO,wY]; omega)) only [↓wZ,xi,↓yk,↓yo,↓yb,↓ye,↓xI,↓xw,Bool.not_false,h]; rfl
 | some p => obtain ⟨v,c⟩ := p; rw [e] at h; simp (disch := first | omega | (simp only [lnA,lnC,lnN,lnM,yO,wY]; omega)) only [↓wZ,xi,↓xJ,↓yo,↓yb,↓ye,↓xI,↓xw,Bool.not_true,h]
theorem BG {s : RS} (hs : InB b s) : V 114 [rO b s] = some (iN ((zb b s).1 : Int),[rO b (zb b s).2]) := by
 have h := Lp hb hs
 rw [Ut] at h
 rw [VT]
 unfold zb
 cases e : GR 9 (b.drop s.1) with
 | none => rw [e] at h; simp (disch := first | omega | (simp only [lnA,lnC,lnN,lnM,yO,wY]; omega)) only [↓wZ,xi,↓yk,↓yo,↓yb,↓ye,↓xI,↓xw,Bool.not_false,h]; rfl
 | some p =>
  obtain ⟨v,c⟩ := p
  rw [e] at h
  obtain ⟨i,k⟩ := s
  cases k with
  | false => simp (disch := first | omega | (simp only [lnA,lnC,lnN,lnM,yO,wY]; omega)) only [↓wZ,xi,↓yk,↓xJ,↓yo,↓yb,↓ye,↓xI,↓xw,Bool.not_true,Bool.not_false,h]; rfl
  | true => simp (disch := first | omega | (simp only [lnA,lnC,lnN,lnM,yO,wY]; omega)) only [↓wZ,xi,↓xJ,↓yo,↓yb,↓ye,↓xI,↓xw,Bool.not_true,h]
def Oi (r : Option (List UInt8 × Nat)) : D := match r with | some (t,i) => .tup [.str (mk t),iN (i : Int),.bool true] | none => .tup [.str ⟨#[]⟩,iN 0,.bool false]
omit hb in
theorem abH (i v : Nat) : wu (wt (b.map eU) ((i + v : Nat) : Int)) (i : Int) = ((b.drop i).take v).map eU := by
 simp only [wu,wt,Int.toNat_natCast,<- List.map_take,<- List.map_drop]
 rw [List.drop_take]
 congr 2
 omega
theorem QN {i : Nat} (hi : i <= b.length) : V 209 [.rs (1,0) (b.map eU),iN (i : Int)] = some (Oi (KN b i),[]) := by
 have h := Lk hb hi
 rw [Ut] at h
 rw [QY]
 unfold KN
 cases e : GR 9 (b.drop i) with
 | none => rw [e] at h; simp (disch := first | omega | (simp only [lnA,lnC,lnN,lnM,yO,wY]; omega)) only [↓wZ,xi,↓yk,↓yo,↓yb,↓ye,↓xI,↓xw,Bool.not_false,h]; rfl
 | some p =>
  obtain ⟨v,c⟩ := p
  rw [e] at h
  have hle := Kn e
  by_cases ht : i + c + v <= b.length
  ·have hc := abH (b := b) (i + c) v
   have hw : w6 (((i + c : Nat) : Int) + (v : Int)) = ((i + c + v : Nat) : Int) := by rw [w64 (by omega) (by omega)]; omega
   have hk : cW b.length (some ((i + c : Nat) : Int)) (some ((i + c + v : Nat) : Int)) = true := by
    simp only [cW,Bool.and_eq_true,decide_eq_true_eq]; omega
   simp only [if_pos ht]
   simp (disch := first | omega | (simp only [lnA,lnC,lnN,lnM,yO,wY]; omega)) only [↓wZ,xi,↓xJ,↓xP,↓yo,↓yb,↓ye,↓xI,↓xw,yI,Bool.not_true,lnM,wS,wY,h,hw,hk,hc,↓BU]
   rfl
  ·simp only [if_neg ht]
   simp (disch := first | omega | (simp only [lnA,lnC,lnN,lnM,yO,wY]; omega)) only [↓wZ,xi,↓yk,↓xJ,↓yo,↓yb,↓ye,↓xI,↓xw,yJ,Bool.not_true,lnM,wS,wY,h]
   rfl
theorem Ki {i : Nat} (hi : i <= b.length) : V 174 [.rs (1,0) (b.map eU),iN (i : Int)] = some (Oi (KN b i),[]) := by
 have h := Lp hb hi
 rw [Ut] at h
 rw [Rc]
 unfold KN
 cases e : GR 9 (b.drop i) with
 | none => rw [e] at h; simp (disch := first | omega | (simp only [lnA,lnC,lnN,lnM,yO,wY]; omega)) only [↓wZ,xi,↓yk,↓yo,↓yb,↓ye,↓xI,↓xw,Bool.not_false,h]; rfl
 | some p =>
  obtain ⟨v,c⟩ := p
  rw [e] at h
  have hle := Kn e
  by_cases ht : i + c + v <= b.length
  ·have hc := abH (b := b) (i + c) v
   have hw : w6 (((i + c : Nat) : Int) + (v : Int)) = ((i + c + v : Nat) : Int) := by rw [w64 (by omega) (by omega)]; omega
   have hk : cW b.length (some ((i + c : Nat) : Int)) (some ((i + c + v : Nat) : Int)) = true := by
    simp only [cW,Bool.and_eq_true,decide_eq_true_eq]; omega
   simp only [if_pos ht]
   simp (disch := first | omega | (simp only [lnA,lnC,lnN,lnM,yO,wY]; omega)) only [↓wZ,xi,↓xJ,↓xP,↓yo,↓yb,↓ye,↓xI,↓xw,yI,Bool.not_true,lnM,wS,wY,h,hw,hk,hc,↓BU]
   rfl
  ·simp only [if_neg ht]
   simp (disch := first | omega | (simp only [lnA,lnC,lnN,lnM,yO,wY]; omega)) only [↓wZ,xi,↓yk,↓xJ,↓yo,↓yb,↓ye,↓xI,↓xw,yJ,Bool.not_true,lnM,wS,wY,h]
   rfl
theorem RI {s : RS} (hs : InB b s) : V 190 [rO b s] = some (.str (mk (AY b s).1),[rO b (AY b s).2]) := by
 have h := QN hb hs
 rw [Mi]
 unfold AY
 cases e : KN b s.1 with
 | none => rw [e,Oi] at h; simp (disch := first | omega | (simp only [lnA,lnC,lnN,lnM,yO,wY]; omega)) only [↓wZ,xi,↓yk,↓yo,↓yb,↓ye,↓xI,↓yi,↓xw,Bool.not_false,h]; rfl
 | some p => obtain ⟨t,i⟩ := p; rw [e,Oi] at h; simp (disch := first | omega | (simp only [lnA,lnC,lnN,lnM,yO,wY]; omega)) only [↓wZ,xi,↓xJ,↓yo,↓yb,↓ye,↓xI,↓yi,↓xw,Bool.not_true,h]
omit hb in
theorem CR {s : RS} (hs : InB b s) : InB b (y4 b s).2 := by
 unfold y4
 split
 ·rename_i v c e; exact (Kn e).2.1
 ·exact hs
omit hb in
theorem BC {s : RS} (hs : InB b s) : InB b (zb b s).2 := by
 unfold zb
 split
 ·rename_i v c e
  split
  ·exact (Kn e).2.1
  ·exact hs
 ·exact hs
omit hb in
theorem YE {i j : Nat} {t : List UInt8} (h : KN b i = some (t,j)) : j <= b.length := by
 unfold KN at h
 split at h
 ·split at h
  ·cases h; assumption
  ·cases h
 ·cases h
omit hb in
theorem VW {i j : Nat} {t : List UInt8} (h : KN b i = some (t,j)) : t.length <= b.length := by
 unfold KN at h
 split at h
 ·split at h
  ·cases h; simp; omega
  ·cases h
 ·cases h
omit hb in
theorem Y9 {s : RS} (hs : InB b s) : InB b (AY b s).2 := by
 unfold AY
 split
 ·rename_i t i e; exact YE e
 ·exact hs
omit hb in
theorem Za {s : RS} (_ : InB b s) : InB b (Ew b s).2 := by
 unfold Ew
 split
 ·rename_i t i e; exact YE e
 ·exact Nat.zero_le _
omit hb in
theorem YV (s : RS) : (y4 b s).1 < 9223372036854775808 := by
 unfold y4
 split
 ·rename_i v c e; exact (Kn e).1
 ·simp
omit hb in
theorem UH (s : RS) : (zb b s).1 < 9223372036854775808 := by
 unfold zb
 split
 ·rename_i v c e
  split
  ·exact (Kn e).1
  ·simp
 ·simp
end
abbrev nilS : ByteArray := ⟨#[]⟩
def zm (num : RS -> Nat × RS) (txt : RS -> List UInt8 × RS) (s : RS) : Nd × RS :=
 if (num s).1 = 2 \/ (num s).1 = 8 \/ (num s).1 = 9 then (⟨(num s).1,(num (num s).2).1,nilS,0,0⟩,(num (num s).2).2)
 else if (num s).1 = 3 then (⟨(num s).1,(num (num s).2).1 - 1000000000,nilS,0,0⟩,(num (num s).2).2)
 else if (num s).1 = 4 then (⟨(num s).1,0,mk (txt (num s).2).1,0,0⟩,(txt (num s).2).2)
 else if (num s).1 = 5 then (⟨(num s).1,0,nilS,(num (num s).2).1,(num (num (num s).2).2).1⟩,(num (num (num s).2).2).2)
 else if (num s).1 = 6 then (⟨(num s).1,(num (num s).2).1,nilS,(num (num (num s).2).2).1,0⟩,(num (num (num s).2).2).2)
 else if (num s).1 = 7 then (⟨(num s).1,0,nilS,(num (num s).2).1,0⟩,(num (num s).2).2)
 else (⟨(num s).1,0,nilS,0,0⟩,(num s).2)
theorem MI {b : List UInt8} {num : RS -> Nat × RS} {txt : RS -> List UInt8 × RS} (hn : ∀ s,InB b s -> InB b (num s).2) (ht : ∀ s,InB b s -> InB b (txt s).2) {s : RS} (hs : InB b s) : InB b (zm num txt s).2 := by
 unfold zm
 repeat' split
 all_goals (first | exact hn _ (hn _ (hn _ hs)) | exact hn _ (hn _ hs) | exact ht _ (hn _ hs) | exact hn _ hs)
theorem Ln {b : List UInt8} (hb : b.length < 4611686018427387904) {s : RS} (hs : InB b s) : V 141 [rO b s] = some (eN (zm (y4 b) (AY b) s).1,[rO b (zm (y4 b) (AY b) s).2]) := by
 have h1 := zO hb hs
 have i1 := CR hs
 have h2 := zO hb i1
 have i2 := CR i1
 have h3 := zO hb i2
 have h4 := RI hb i1
 have l2 := YV (b := b) (y4 b s).2
 have hw : w6 (((y4 b (y4 b s).2).1 : Int) - 1000000000) = ((y4 b (y4 b s).2).1 : Int) - 1000000000 := OU (by omega) (by omega)
 rw [Mh]
 unfold zm
 by_cases k2 : (y4 b s).1 = 2
 ·rw [if_pos (.inl k2)]; simp (disch := first | omega | (simp only [lnA,lnC,lnN,lnM,yO,wY]; omega)) only [↓wZ,xi,↓yk,↓yo,↓yb,↓ye,↓xI,↓yg,↓yf,yF,h1,h2]
 by_cases k8 : (y4 b s).1 = 8
 ·rw [if_pos (.inr (.inl k8))]; simp (disch := first | omega | (simp only [lnA,lnC,lnN,lnM,yO,wY]; omega)) only [↓wZ,xi,↓yk,↓xJ,↓yo,↓yb,↓ye,↓xI,↓yg,↓yf,yF,yE,h1,h2]
 by_cases k9 : (y4 b s).1 = 9
 ·rw [if_pos (.inr (.inr k9))]; simp (disch := first | omega | (simp only [lnA,lnC,lnN,lnM,yO,wY]; omega)) only [↓wZ,xi,↓yk,↓xJ,↓yo,↓yb,↓ye,↓xI,↓yg,↓yf,yF,yE,h1,h2]
 rw [if_neg (by omega)]
 by_cases k3 : (y4 b s).1 = 3
 ·rw [if_pos k3]; simp (disch := first | omega | (simp only [lnA,lnC,lnN,lnM,yO,wY]; omega)) only [↓wZ,xi,↓yk,↓xJ,↓yo,↓yb,↓ye,↓xI,↓yg,↓yf,yF,yE,h1,h2,hw]
 rw [if_neg k3]
 by_cases k4 : (y4 b s).1 = 4
 ·rw [if_pos k4]; simp (disch := first | omega | (simp only [lnA,lnC,lnN,lnM,yO,wY]; omega)) only [↓wZ,xi,↓yk,↓xJ,↓yo,↓yb,↓ye,↓xI,↓yi,↓yg,↓yf,yF,yE,h1,h4]
 rw [if_neg k4]
 by_cases k5 : (y4 b s).1 = 5
 ·rw [if_pos k5]; simp (disch := first | omega | (simp only [lnA,lnC,lnN,lnM,yO,wY]; omega)) only [↓wZ,xi,↓yk,↓xJ,↓yo,↓yb,↓ye,↓xI,↓yg,↓yf,yF,yE,h1,h2,h3]
 rw [if_neg k5]
 by_cases k6 : (y4 b s).1 = 6
 ·rw [if_pos k6]; simp (disch := first | omega | (simp only [lnA,lnC,lnN,lnM,yO,wY]; omega)) only [↓wZ,xi,↓yk,↓xJ,↓yo,↓yb,↓ye,↓xI,↓yg,↓yf,yF,yE,h1,h2,h3]
 rw [if_neg k6]
 by_cases k7 : (y4 b s).1 = 7
 ·rw [if_pos k7]; simp (disch := first | omega | (simp only [lnA,lnC,lnN,lnM,yO,wY]; omega)) only [↓wZ,xi,↓yk,↓xJ,↓yo,↓yb,↓ye,↓xI,↓yg,↓yf,yF,yE,h1,h2]
 rw [if_neg k7]
 simp (disch := first | omega | (simp only [lnA,lnC,lnN,lnM,yO,wY]; omega)) only [↓wZ,xi,↓xJ,↓yo,↓yb,↓ye,↓xI,↓yg,↓yf,yE,h1]

def goI (b : List UInt8) (cnt : Nat) : Nat -> Nat -> RS -> List Nd -> List Nd × RS
 | 0,_,s,p => (p,s)
 | k + 1,i,s,p => if i < cnt /\ s.2 = true /\ i <= 3000 then goI b cnt k (i + 1) (zm (y4 b) (AY b) s).2 (p ++ [(zm (y4 b) (AY b) s).1]) else (p,s)
def goS (b : List UInt8) (cnt : Nat) : Nat -> Nat -> RS -> List Nd -> List Nd × RS
 | 0,_,s,p => (p,s)
 | k + 1,i,s,p => if i < cnt /\ s.2 = true then goS b cnt k (i + 1) (zm (zb b) (Ew b) s).2 (p ++ [(zm (zb b) (Ew b) s).1]) else (p,s)
theorem abz (p : List Nd) (x : Nd) : p.map eN ++ [D.agg [iN x.kind,iN x.n,.str x.s,iN x.a,iN x.b]] = (p ++ [x]).map eN := by simp
theorem VZ {b : List UInt8} (hb : b.length < 4611686018427387904) (cnt : Nat) (hcnt : cnt < 9223372036854775808) : ∀ (k i : Nat) (s : RS) (p : List Nd),i + k = 3002 -> InB b s -> p.length <= i ->
  zL (cnt : Int) (i : Int) (s.1 : Int) s.2 (b.map eU) (p.map eN) = some (oP (goI b cnt k i s p).1,[rO b (goI b cnt k i s p).2])
 | 0,i,s,p,hi,hs,hp => by
  rw [Cm]
  obtain ⟨a,o⟩ := s
  simp only [goI]
  cases h1 : decide ((i : Int) < (cnt : Int)) with
  | false => rfl
  | true =>
   cases o with
   | false => rfl
   | true => simp (disch := first | omega | (simp only [lnA,lnC,lnN,lnM,yO,wY]; omega)) only [↓yk,↓xJ,yI]
 | k + 1,i,s,p,hi,hs,hp => by
  obtain ⟨a,o⟩ := s
  have hn := Ln hb hs
  have hin := MI (fun s h => CR h) (fun s h => Y9 h) hs
  rw [Cm]
  simp only [goI]
  by_cases h1 : i < cnt
  ·cases o with
   | false => rw [if_neg (by simp)]; simp (disch := first | omega | (simp only [lnA,lnC,lnN,lnM,yO,wY]; omega)) only [↓yk,↓xJ,yJ]
   | true =>
    by_cases h3 : i <= 3000
    ·have ih := VZ hb cnt hcnt k (i + 1) _ (p ++ [(zm (y4 b) (AY b) (a,true)).1]) (by omega) hin (by simp; omega)
     have hw : w6 ((i : Int) + 1) = ((i + 1 : Nat) : Int) := yM (by omega)
     rw [if_pos ⟨h1,rfl,h3⟩]
     simp (disch := first | omega | (simp only [lnA,lnC,lnN,lnM,yO,wY]; omega)) only [↓wZ,xi,↓yk,↓xP,↓yo,↓yb,↓ye,↓xI,↓yi,↓yg,↓xu,↓yf,↓yA,yJ,lnM,lnA,lnC,lnN,pE,wY,hn,abz,hw]
     exact ih
    ·rw [if_neg (fun h => h3 h.2.2)]; simp (disch := first | omega | (simp only [lnA,lnC,lnN,lnM,yO,wY]; omega)) only [↓yk,↓xJ,yJ,yI]
  ·rw [if_neg (fun h => h1 h.1)]; simp (disch := first | omega | (simp only [lnA,lnC,lnN,lnM,yO,wY]; omega)) only [↓xJ,yI]
def zt (b : List UInt8) (s : RS) : List Nd × RS := goI b (y4 b s).1 3002 0 (y4 b s).2 []
theorem QT {b : List UInt8} (hb : b.length < 4611686018427387904) {s : RS} (hs : InB b s) : V 72 [rO b s] = some (oP (zt b s).1,[rO b (zt b s).2]) := by
 have h1 := zO hb hs
 have i1 := CR hs
 have l1 := YV (b := b) s
 rw [Lx]
 unfold zt
 generalize y4 b s = m at *
 obtain ⟨cnt,s⟩ := m
 have hn := Ln hb i1
 have hin := MI (fun s h => CR h) (fun s h => Y9 h) i1
 have ih := VZ hb cnt l1 3001 1 _ [(zm (y4 b) (AY b) s).1] (by omega) hin (by simp)
 have e : goI b cnt 3002 0 s [] = if 0 < cnt /\ s.2 = true /\ 0 <= 3000 then goI b cnt 3001 1 (zm (y4 b) (AY b) s).2 [(zm (y4 b) (AY b) s).1] else ([],s) := rfl
 rw [e]
 obtain ⟨a,o⟩ := s
 have hf : BI (cnt : Int) 0 (a : Int) o (b.map eU) = some (oP (if 0 < cnt /\ (a,o).2 = true /\ 0 <= 3000 then goI b cnt 3001 1 (zm (y4 b) (AY b) (a,o)).2 [(zm (y4 b) (AY b) (a,o)).1] else ([],(a,o))).1,[rO b (if 0 < cnt /\ (a,o).2 = true /\ 0 <= 3000 then goI b cnt 3001 1 (zm (y4 b) (AY b) (a,o)).2 [(zm (y4 b) (AY b) (a,o)).1] else ([],(a,o))).2]) := by
  rw [Ib]
  by_cases hz : 0 < cnt
  ·cases o with
   | false => rw [if_neg (by simp)]; simp (disch := first | omega | (simp only [lnA,lnC,lnN,lnM,yO,wY]; omega)) only [↓yk,↓xJ,yJ]; rfl
   | true =>
    rw [if_pos ⟨hz,rfl,by omega⟩]
    have hw : w6 ((0 : Int) + 1) = 1 := by decide
    have ih' : zL (cnt : Int) 1 ((zm (y4 b) (AY b) (a,true)).2.1 : Int) (zm (y4 b) (AY b) (a,true)).2.2 (b.map eU) [D.agg [iN (zm (y4 b) (AY b) (a,true)).1.kind,iN (zm (y4 b) (AY b) (a,true)).1.n,.str (zm (y4 b) (AY b) (a,true)).1.s,iN (zm (y4 b) (AY b) (a,true)).1.a,iN (zm (y4 b) (AY b) (a,true)).1.b]] = _ := ih
    simp (disch := first | omega | (simp only [lnA,lnC,lnN,lnM,yO,wY]; omega)) only [↓wZ,xi,↓yk,↓xP,↓yo,↓yb,↓ye,↓xI,↓yi,↓yg,↓xu,↓yf,Int.reduceAdd,yJ,pE,wS,wY,hn]
    exact ih'
  ·rw [if_neg (fun h => hz h.1)]; simp (disch := first | omega | (simp only [lnA,lnC,lnN,lnM,yO,wY]; omega)) only [↓xJ,yI]; rfl
 simp (disch := first | omega | (simp only [lnA,lnC,lnN,lnM,yO,wY]; omega)) only [↓wZ,xi,↓yo,↓yb,↓ye,↓xI,↓yg,↓yf,h1]
 exact hf
end
end Go.Eng
/-! nodes of bytes: the reference's side,and what both come to -/
namespace Go.Eng
open Go.Proofs Go.Proofs.Tryz
set_option maxHeartbeats 4000000

noncomputable def B9 (b : List UInt8) (r : List Nd × RS) : List Nd × RS := (r.1,(r.2.1,r.2.2 && (decide (r.2.1 = b.length) && yV r.1)))
theorem UY {b : List UInt8} (hb : b.length < 4611686018427387904) {n i a : Nat} (hs : InB b (a,true)) {p : List Nd} (hp : p.length <= 3000) (hi : i < n) (hi2 : i < 4611686018427387904) : yP (n : Int) (i : Int) (a : Int) true (b.map eU) (p.map eN) = yP (n : Int) ((i + 1 : Nat) : Int) ((zm (zb b) (Ew b) (a,true)).2.1 : Int) (zm (zb b) (Ew b) (a,true)).2.2 (b.map eU) ((p ++ [(zm (zb b) (Ew b) (a,true)).1]).map eN) := by
 have h1 := BG hb hs
 have i1 := BC hs
 have h2 := BG hb i1
 have i2 := BC i1
 have h3 := BG hb i2
 have h4 := Ki hb i1
 have l2 := UH (b := b) (zb b (a,true)).2
 have hw : w6 (((zb b (zb b (a,true)).2).1 : Int) - 1000000000) = ((zb b (zb b (a,true)).2).1 : Int) - 1000000000 := OU (by omega) (by omega)
 have hW : w6 ((i : Int) + 1) = ((i + 1 : Nat) : Int) := yM hi2

 rw [Fe]
 unfold zm
 by_cases k2 : (zb b (a,true)).1 = 2
 ·rw [if_pos (.inl k2)]; simp (disch := first | omega | (simp only [lnA,lnC,lnN,lnM,yO,wY]; omega)) only [↓wZ,xi,↓yk,↓xP,↓yo,↓yb,↓ye,↓xI,↓yg,↓yf,↓yA,yJ,yF,lnM,lnA,lnC,lnN,pE,wY,h1,h2,hW]; (rw [List.map_append]; rfl)
 by_cases k8 : (zb b (a,true)).1 = 8
 ·rw [if_pos (.inr (.inl k8))]; simp (disch := first | omega | (simp only [lnA,lnC,lnN,lnM,yO,wY]; omega)) only [↓wZ,xi,↓yk,↓xJ,↓xP,↓yo,↓yb,↓ye,↓xI,↓yg,↓yf,↓yA,yJ,yF,yE,lnM,lnA,lnC,lnN,pE,wY,h1,h2,hW]; (rw [List.map_append]; rfl)
 by_cases k9 : (zb b (a,true)).1 = 9
 ·rw [if_pos (.inr (.inr k9))]; simp (disch := first | omega | (simp only [lnA,lnC,lnN,lnM,yO,wY]; omega)) only [↓wZ,xi,↓yk,↓xJ,↓xP,↓yo,↓yb,↓ye,↓xI,↓yg,↓yf,↓yA,yJ,yF,yE,lnM,lnA,lnC,lnN,pE,wY,h1,h2,hW]; (rw [List.map_append]; rfl)
 rw [if_neg (by omega)]
 by_cases k3 : (zb b (a,true)).1 = 3
 ·rw [if_pos k3]; simp (disch := first | omega | (simp only [lnA,lnC,lnN,lnM,yO,wY]; omega)) only [↓wZ,xi,↓yk,↓xJ,↓xP,↓yo,↓yb,↓ye,↓xI,↓yg,↓yf,↓yA,yJ,yF,yE,lnM,lnA,lnC,lnN,pE,wY,h1,h2,hw,hW]; (rw [List.map_append]; rfl)
 rw [if_neg k3]
 by_cases k4 : (zb b (a,true)).1 = 4
 ·rw [if_pos k4]
  unfold Ew
  cases hT : KN b (zb b (a,true)).2.1 with
  | none =>
   rw [hT,Oi] at h4
   cases ho : (zb b (a,true)).2.2 <;> (have h1' := h1; unfold rO at h1'; simp only [ho] at h1'; simp (disch := first | omega | (simp only [lnA,lnC,lnN,lnM,yO,wY]; omega)) only [↓wZ,xi,↓yk,↓xJ,↓xP,↓yo,↓yb,↓ye,↓xI,↓yi,↓yg,↓xw,↓yf,↓yA,yJ,yF,yE,lnM,lnA,lnC,lnN,pE,wY,h1',h4,hW];  first | rfl | (rw [List.map_append]; rfl))
  | some q =>
   obtain ⟨t,j⟩ := q
   rw [hT,Oi] at h4
   cases ho : (zb b (a,true)).2.2 <;> (have h1' := h1; unfold rO at h1'; simp only [ho] at h1'; simp (disch := first | omega | (simp only [lnA,lnC,lnN,lnM,yO,wY]; omega)) only [↓wZ,xi,↓yk,↓xJ,↓xP,↓yo,↓yb,↓ye,↓xI,↓yi,↓yg,↓xw,↓yf,↓yA,yJ,yF,yE,lnM,lnA,lnC,lnN,pE,wY,h1',h4,hW];  first | rfl | (rw [List.map_append]; rfl))
 rw [if_neg k4]
 by_cases k5 : (zb b (a,true)).1 = 5
 ·rw [if_pos k5]; simp (disch := first | omega | (simp only [lnA,lnC,lnN,lnM,yO,wY]; omega)) only [↓wZ,xi,↓yk,↓xJ,↓xP,↓yo,↓yb,↓ye,↓xI,↓yg,↓yf,↓yA,yJ,yF,yE,lnM,lnA,lnC,lnN,pE,wY,h1,h2,h3,hW]; (rw [List.map_append]; rfl)
 rw [if_neg k5]
 by_cases k6 : (zb b (a,true)).1 = 6
 ·rw [if_pos k6]; simp (disch := first | omega | (simp only [lnA,lnC,lnN,lnM,yO,wY]; omega)) only [↓wZ,xi,↓yk,↓xJ,↓xP,↓yo,↓yb,↓ye,↓xI,↓yg,↓yf,↓yA,yJ,yF,yE,lnM,lnA,lnC,lnN,pE,wY,h1,h2,h3,hW]; (rw [List.map_append]; rfl)
 rw [if_neg k6]
 by_cases k7 : (zb b (a,true)).1 = 7
 ·rw [if_pos k7]; simp (disch := first | omega | (simp only [lnA,lnC,lnN,lnM,yO,wY]; omega)) only [↓wZ,xi,↓yk,↓xJ,↓xP,↓yo,↓yb,↓ye,↓xI,↓yg,↓yf,↓yA,yJ,yF,yE,lnM,lnA,lnC,lnN,pE,wY,h1,h2,hW]; (rw [List.map_append]; rfl)
 rw [if_neg k7]
 simp (disch := first | omega | (simp only [lnA,lnC,lnN,lnM,yO,wY]; omega)) only [↓wZ,xi,↓yk,↓xJ,↓xP,↓yo,↓yb,↓ye,↓xI,↓yg,↓yf,↓yA,yJ,yE,lnM,lnA,lnC,lnN,pE,wY,h1,hW]; (rw [List.map_append]; rfl)
theorem UX {b : List UInt8} (hb : b.length < 4611686018427387904) {n a : Nat} (hs : InB b (a,true)) (hi : 0 < n) : AQ (n : Int) 0 (a : Int) true (b.map eU) = yP (n : Int) 1 ((zm (zb b) (Ew b) (a,true)).2.1 : Int) (zm (zb b) (Ew b) (a,true)).2.2 (b.map eU) [eN (zm (zb b) (Ew b) (a,true)).1] := by
 have h1 := BG hb hs
 have i1 := BC hs
 have h2 := BG hb i1
 have i2 := BC i1
 have h3 := BG hb i2
 have h4 := Ki hb i1
 have l2 := UH (b := b) (zb b (a,true)).2
 have hw : w6 (((zb b (zb b (a,true)).2).1 : Int) - 1000000000) = ((zb b (zb b (a,true)).2).1 : Int) - 1000000000 := OU (by omega) (by omega)
 have hW : w6 ((0 : Int) + 1) = 1 := by decide
 rw [GB]
 unfold zm
 by_cases k2 : (zb b (a,true)).1 = 2
 ·rw [if_pos (.inl k2)]; simp (disch := first | omega | (simp only [lnA,lnC,lnN,lnM,yO,wY]; omega)) only [↓wZ,xi,↓yk,↓xP,↓yo,↓yb,↓ye,↓xI,↓yg,↓yf,Int.reduceAdd,yJ,yF,pE,wS,wY,h1,h2]
 by_cases k8 : (zb b (a,true)).1 = 8
 ·rw [if_pos (.inr (.inl k8))]; simp (disch := first | omega | (simp only [lnA,lnC,lnN,lnM,yO,wY]; omega)) only [↓wZ,xi,↓yk,↓xJ,↓xP,↓yo,↓yb,↓ye,↓xI,↓yg,↓yf,Int.reduceAdd,yJ,yF,yE,pE,wS,wY,h1,h2]
 by_cases k9 : (zb b (a,true)).1 = 9
 ·rw [if_pos (.inr (.inr k9))]; simp (disch := first | omega | (simp only [lnA,lnC,lnN,lnM,yO,wY]; omega)) only [↓wZ,xi,↓yk,↓xJ,↓xP,↓yo,↓yb,↓ye,↓xI,↓yg,↓yf,Int.reduceAdd,yJ,yF,yE,pE,wS,wY,h1,h2]
 rw [if_neg (by omega)]
 by_cases k3 : (zb b (a,true)).1 = 3
 ·rw [if_pos k3]; simp (disch := first | omega | (simp only [lnA,lnC,lnN,lnM,yO,wY]; omega)) only [↓wZ,xi,↓yk,↓xJ,↓xP,↓yo,↓yb,↓ye,↓xI,↓yg,↓yf,Int.reduceAdd,yJ,yF,yE,pE,wS,wY,h1,h2,hw]
 rw [if_neg k3]
 by_cases k4 : (zb b (a,true)).1 = 4
 ·rw [if_pos k4]
  unfold Ew
  cases hT : KN b (zb b (a,true)).2.1 with
  | none =>
   rw [hT,Oi] at h4
   cases ho : (zb b (a,true)).2.2 <;> (have h1' := h1; unfold rO at h1'; simp only [ho] at h1'; simp (disch := first | omega | (simp only [lnA,lnC,lnN,lnM,yO,wY]; omega)) only [↓wZ,xi,↓yk,↓xJ,↓xP,↓yo,↓yb,↓ye,↓xI,↓yi,↓yg,↓xw,↓yf,Int.reduceAdd,yJ,yF,yE,pE,wS,wY,h1',h4]; try rfl)
  | some q =>
   obtain ⟨t,j⟩ := q
   rw [hT,Oi] at h4
   cases ho : (zb b (a,true)).2.2 <;> (have h1' := h1; unfold rO at h1'; simp only [ho] at h1'; simp (disch := first | omega | (simp only [lnA,lnC,lnN,lnM,yO,wY]; omega)) only [↓wZ,xi,↓yk,↓xJ,↓xP,↓yo,↓yb,↓ye,↓xI,↓yi,↓yg,↓xw,↓yf,Int.reduceAdd,yJ,yF,yE,pE,wS,wY,h1',h4]; try rfl)
 rw [if_neg k4]
 by_cases k5 : (zb b (a,true)).1 = 5
 ·rw [if_pos k5]; simp (disch := first | omega | (simp only [lnA,lnC,lnN,lnM,yO,wY]; omega)) only [↓wZ,xi,↓yk,↓xJ,↓xP,↓yo,↓yb,↓ye,↓xI,↓yg,↓yf,Int.reduceAdd,yJ,yF,yE,pE,wS,wY,h1,h2,h3]
 rw [if_neg k5]
 by_cases k6 : (zb b (a,true)).1 = 6
 ·rw [if_pos k6]; simp (disch := first | omega | (simp only [lnA,lnC,lnN,lnM,yO,wY]; omega)) only [↓wZ,xi,↓yk,↓xJ,↓xP,↓yo,↓yb,↓ye,↓xI,↓yg,↓yf,Int.reduceAdd,yJ,yF,yE,pE,wS,wY,h1,h2,h3]
 rw [if_neg k6]
 by_cases k7 : (zb b (a,true)).1 = 7
 ·rw [if_pos k7]; simp (disch := first | omega | (simp only [lnA,lnC,lnN,lnM,yO,wY]; omega)) only [↓wZ,xi,↓yk,↓xJ,↓xP,↓yo,↓yb,↓ye,↓xI,↓yg,↓yf,Int.reduceAdd,yJ,yF,yE,pE,wS,wY,h1,h2]
 rw [if_neg k7]
 simp (disch := first | omega | (simp only [lnA,lnC,lnN,lnM,yO,wY]; omega)) only [↓wZ,xi,↓yk,↓xJ,↓xP,↓yo,↓yb,↓ye,↓xI,↓yg,↓yf,Int.reduceAdd,yJ,yE,pE,wS,wY,h1]

theorem Uq {p : List Nd} {n : Nat} (hn : n < 4611686018427387904) (h : ∀ x ∈ p,x.s.size <= n) : zZ p := fun x hx => by have := h x hx; omega
theorem MJ {b : List UInt8} {num : RS -> Nat × RS} {txt : RS -> List UInt8 × RS} (ht : ∀ s,(txt s).1.length <= b.length) (s : RS) : (zm num txt s).1.s.size <= b.length := by
 unfold zm
 have h0 : nilS.size <= b.length := by show 0 <= _; omega
 repeat' split
 all_goals (first | exact h0 | (show (mk _).size <= _; rw [yO]; exact ht _))
theorem QM {b : List UInt8} (s : RS) : (Ew b s).1.length <= b.length := by
 unfold Ew
 split
 ·rename_i t i e; exact VW e
 ·simp
theorem aaV {b : List UInt8} (s : RS) : (AY b s).1.length <= b.length := by
 unfold AY
 split
 ·rename_i t i e; exact VW e
 ·simp
theorem aaN {b : List UInt8} (_ : b.length < 4611686018427387904) {n i : Nat} {s : RS} {p : List Nd} (hp : p.length <= 3000) (hf : zZ p) (hn : ¬ (i < n /\ s.2 = true)) :
  yP (n : Int) (i : Int) (s.1 : Int) s.2 (b.map eU) (p.map eN) = some (oP p,[rO b (B9 b (p,s)).2]) := by
 obtain ⟨a,o⟩ := s
 rw [Fe]
 unfold B9
 cases o with
 | false =>
  cases hd : decide ((i : Int) < (n : Int)) <;> rfl
 | true =>
  have hin : ¬ i < n := fun h => hn ⟨h,rfl⟩
  by_cases ha : a = b.length
  ·have hk := zK hf (by omega)
   simp only [ha,decide_true,Bool.true_and]
   simp (disch := first | omega | (simp only [lnA,lnC,lnN,lnM,yO,wY]; omega)) only [↓wZ,xi,↓yk,↓xJ,↓yo,↓xI,yI,yF,lnM,wY,hk]
  ·simp only [ha,decide_false,Bool.false_and,Bool.and_false]
   simp (disch := first | omega | (simp only [lnA,lnC,lnN,lnM,yO,wY]; omega)) only [↓yk,↓xJ,yI,yE,lnM,wY]
theorem Wa {b : List UInt8} (hb : b.length < 4611686018427387904) (n : Nat) (hn : n <= 3000) : ∀ (k i : Nat) (s : RS) (p : List Nd),i + k = 3001 -> i <= n -> InB b s -> p.length = i -> (∀ x ∈ p,x.s.size <= b.length) ->
  yP (n : Int) (i : Int) (s.1 : Int) s.2 (b.map eU) (p.map eN) = some (oP (B9 b (goS b n k i s p)).1,[rO b (B9 b (goS b n k i s p)).2])
 | 0,i,s,p,hi,hin',hs,hp,hz => by omega
 | k + 1,i,s,p,hi,hin',hs,hp,hz => by
  simp only [goS]
  by_cases hc : i < n /\ s.2 = true
  ·obtain ⟨a,o⟩ := s
   obtain ⟨h1,h2⟩ := hc
   simp only at h2
   subst h2
   have hin := MI (fun s h => BC h) (fun s h => Za h) hs
   rw [if_pos ⟨h1,rfl⟩,UY hb hs (by omega) h1 (by omega)]
   refine Wa hb n hn k (i + 1) _ _ (by omega) (by omega) hin (by simp; omega) ?_
   intro x hx
   rcases List.mem_append.1 hx with hx | hx
   ·exact hz x hx
   ·simp at hx; subst hx; exact MJ (fun s => QM s) _
  ·rw [if_neg hc]
   exact aaN hb (by omega) (Uq hb hz) hc
noncomputable def zN (b : List UInt8) (s : RS) : List Nd × RS :=
 if (zb b s).1 > 3000 then B9 b ([],((zb b s).2.1,false)) else B9 b (goS b (zb b s).1 3001 0 (zb b s).2 [])
theorem aa3 {b : List UInt8} (hb : b.length < 4611686018427387904) {s : RS} (hs : InB b s) : V 115 [rO b s] = some (oP (zN b s).1,[rO b (zN b s).2]) := by
 have h1 := BG hb hs
 have i1 := BC hs
 have l1 := UH (b := b) s
 rw [Uo]
 unfold zN
 generalize zb b s = m at *
 obtain ⟨cnt,a,o⟩ := m
 have h0 : ∀ o' : Bool,¬ (0 < cnt /\ o' = true) -> AQ (cnt : Int) 0 (a : Int) o' (b.map eU) = some (oP [],[rO b (B9 b ([],(a,o'))).2]) := by
  intro o' hc
  rw [GB]
  unfold B9
  cases o' with
  | false => cases hd : decide ((0 : Int) < (cnt : Int)) <;> rfl
  | true =>
   have hin : ¬ 0 < cnt := fun h => hc ⟨h,rfl⟩
   have hk : V 60 [.agg [.rs (5,0) []]] = some (.bool (yV []),[]) := zK (p := []) (fun x h => by simp at h) (by simp)
   by_cases ha : a = b.length
   ·simp only [ha,decide_true,Bool.true_and]
    simp (disch := first | omega | (simp only [lnA,lnC,lnN,lnM,yO,wY]; omega)) only [↓wZ,xi,↓yk,↓xJ,↓yo,↓xI,yI,yF,lnM,wY,hk]
    rfl
   ·simp only [ha,decide_false,Bool.false_and,Bool.and_false]
    simp (disch := first | omega | (simp only [lnA,lnC,lnN,lnM,yO,wY]; omega)) only [↓yk,↓xJ,yI,yE,lnM,wY]
    rfl
 by_cases hbig : cnt > 3000
 ·have := h0 false (by simp)
  rw [if_pos hbig]
  simp (disch := first | omega | (simp only [lnA,lnC,lnN,lnM,yO,wY]; omega)) only [↓wZ,xi,↓yk,↓yo,↓yb,↓ye,↓xI,↓yg,↓yf,yJ,h1,this]
  rfl
 ·rw [if_neg hbig]
  have e : goS b cnt 3001 0 (a,o) [] = if 0 < cnt /\ o = true then goS b cnt 3000 1 (zm (zb b) (Ew b) (a,o)).2 [(zm (zb b) (Ew b) (a,o)).1] else ([],(a,o)) := rfl
  have hq : AQ (cnt : Int) 0 (a : Int) o (b.map eU) = some (oP (B9 b (goS b cnt 3001 0 (a,o) [])).1,[rO b (B9 b (goS b cnt 3001 0 (a,o) [])).2]) := by
   rw [e]
   by_cases hc : 0 < cnt /\ o = true
   ·obtain ⟨hc1,hc2⟩ := hc
    subst hc2
    have hin := MI (fun s h => BC h) (fun s h => Za h) i1
    rw [if_pos ⟨hc1,rfl⟩,UX hb i1 hc1]
    exact Wa hb cnt (by omega) 3000 1 _ [(zm (zb b) (Ew b) (a,true)).1] (by omega) (by omega) hin (by simp) (by
     intro x hx
     simp at hx; subst hx; exact MJ (fun s => QM s) _)
   ·rw [if_neg hc]; exact h0 o hc
  simp (disch := first | omega | (simp only [lnA,lnC,lnN,lnM,yO,wY]; omega)) only [↓wZ,xi,↓xJ,↓yo,↓yb,↓ye,↓xI,↓yg,↓yf,yI,h1]
  exact hq
end Go.Eng
