/- the program and the reference on plain data, part 4 -/
import Derived.Test.YtkndfhaehnfnmaaGreatPart3
import Derived.Test.YtkndfhaehnfnmaaGreatPart1
import Derived.Test.YtkndfhaehnfnmaaGreatPart2
/-! what is built in: both sides -/
namespace Go.Eng
open Go.Proofs Go.Proofs.Tryz
set_option maxHeartbeats 4000000

theorem jJ {R : Type} {l : List Int} {v x : Int} (h0 : 0 ≤ v) (h : l[v.toNat]? = some x) (K : Int → Option R) : grd (decide (0 ≤ v) && decide (v < ni (l.map eI).length)) (am (l.map eI) v.toNat fun x => asI .i64 x fun n => K n) = K x := by
  have := aK h
  rw [eR h0 (by omega),List.getD_eq_getElem?_getD,h]; rfl
theorem di {R : Type} {a : Int} {r : List Int} (K : Int → Option R) : grd (decide ((0 : Nat) ≤ 0) && decide ((0 : Int) < ni ((a :: r).map eI).length)) (am ((a :: r).map eI) 0 fun x => asI .i64 x fun n => K n) = K a := jJ (l := a :: r) (v := 0) (by omega) rfl K
theorem j0 {R : Type} {a b : Int} {r : List Int} (K : Int → Option R) : grd (decide ((0 : Nat) ≤ 1) && decide ((1 : Int) < ni ((a :: b :: r).map eI).length)) (am ((a :: b :: r).map eI) 1 fun x => asI .i64 x fun n => K n) = K b := jJ (l := a :: b :: r) (v := 1) (by omega) rfl K
theorem CW {R : Type} {a b c : Int} {r : List Int} (K : Int → Option R) : grd (decide ((0 : Nat) ≤ 2) && decide ((2 : Int) < ni ((a :: b :: c :: r).map eI).length)) (am ((a :: b :: c :: r).map eI) 2 fun x => asI .i64 x fun n => K n) = K c := jJ (l := a :: b :: c :: r) (v := 2) (by omega) rfl K
theorem Qr {R : Type} {a b c d : Int} {r : List Int} (K : Int → Option R) : grd (decide ((0 : Nat) ≤ 3) && decide ((3 : Int) < ni ((a :: b :: c :: d :: r).map eI).length)) (am ((a :: b :: c :: d :: r).map eI) 3 fun x => asI .i64 x fun n => K n) = K d := jJ (l := a :: b :: c :: d :: r) (v := 3) (by omega) rfl K
theorem oX : nz ⟨#[]⟩ = true := by unfold nz; rw [ep]; simp
theorem ws {n : Int} : V 223 [.int .i64 n] = some (.int .i64 (bl n),[]) := by
  rw [xi,bI (bH _ _ _)]
  unfold bl
  cases h : wi n 1 19 with
  | false => rfl
  | true =>
    have hb := wi_iff.1 h
    rw [Bool.not_true,ae,w64 (n := n - 1) (by omega) (by omega)]
    exact eR (l := prArgs) (by omega) (by show n - 1 < 19; omega) _
theorem wa {n : Int} : V 245 [.int .i64 n] = some (.int .i64 (bl n),[]) := by
  rw [yn,dH (d7 _ _ _)]
  unfold bl
  cases h : wi n 1 19 with
  | false => rfl
  | true =>
    have hb := wi_iff.1 h
    rw [Bool.not_true,ae]
    have e : prArgs.getD (n - 1).toNat 0 = (0 :: prArgs).getD n.toNat 0 := by
      have : n.toNat = (n - 1).toNat + 1 := by omega
      rw [this]; rfl
    simp only [if_true]
    rw [e]
    exact eR (l := 0 :: prArgs) (by omega) (by show n < 20; omega) _
theorem FP {R : Type} {l : List (List UInt8)} {i : Nat} {x : List UInt8} (h : l[i]? = some x) (K : ByteArray → Option R) : grd (decide (0 ≤ (i : Int)) && decide ((i : Int) < ni (l.map fun x => D.str (mk x)).length)) (am (l.map fun x => D.str (mk x)) (i : Int).toNat fun x => asS x fun n => K n) = K (mk x) := by
  have := aK h
  rw [av (by rw [List.length_map]; exact bG this),Int.toNat_natCast,al h,a9]
theorem Ms (a b : ByteArray) : aQ a b = aQ b a := by
  rw [ep,ep]
  exact decide_eq_decide.2 ⟨Eq.symm,Eq.symm⟩
theorem xp {l : List (List UInt8)} (hl : l.length < 4611686018427387904) (s : ByteArray) : ∀ (k i : Nat),i + k = l.length → cx (l.map fun x => D.str (mk x)) s (ni l.length) (i : Int) = some (.int .i64 (fa (fun x => aQ s (mk x)) l i),[])
  | 0,i,hi => by
    rw [d4,ah (fJ (by omega)),gU (by omega)]
  | k + 1,i,hi => by
    obtain ⟨x,hx⟩ := aA (l := l) (i := i) (by omega)
    have ih := xp hl s k (i + 1) (by omega)
    rw [d4,ap (ez (by omega)),FP hx]
    cases h : aQ s (mk x) with
    | true => rw [ar,gV hx h]
    | false => rw [ae,dG (by omega),ih,gd hx h]
theorem o8 (s : ByteArray) : 0 ≤ gt s ∧ gt s ≤ 19 := by
  unfold gt ut
  cases h : prNames.findIdx? fun x => aQ s (mk x) with
  | none => simp
  | some k =>
    rw [List.findIdx?_eq_some_iff_getElem] at h
    obtain ⟨hk,_⟩ := h
    have : prNames.length = 19 := rfl
    simp only; omega
theorem y8 (s : ByteArray) : V 208 [.str s] = some (.int .i64 (gt s),[]) := by
  have h1 : V 225 [.rs (1,0) (prNames.map fun x => D.str (mk x)),.str s] = some (.int .i64 (ut (fun x => aQ s (mk x)) prNames),[]) := by
    have h := xp (l := prNames) (by decide) s prNames.length 0 (Nat.zero_add _)
    rw [gh,Int.natCast_zero] at h
    rw [ki]
    exact h
  have hb := o8 s
  have h2 : V 176 [] = some (.os (1,0) (prNames.map fun x => D.str (mk x)),[]) := wl
  unfold gt at hb ⊢
  rw [CQ,yQ h2,jT h1,w64 (by omega) (by omega)]
theorem pG (s : ByteArray) : ∀ (k i : Nat),i + k = 19 → i6 s ((i + 1 : Nat) : Int) (([] :: prNames).map fun x => D.str (mk x)) = some (.int .i64 (fa (fun x => aQ s (mk x)) prNames i + 1),[])
  | 0,i,hi => by
    have : i = 19 := by omega
    subst this
    rw [mi,ah (decide_eq_false (by omega)),gU (by decide)]
    rfl
  | k + 1,i,hi => by
    obtain ⟨x,hx⟩ := aA (l := prNames) (i := i) (by show i < 19; omega)
    have hx' : ([] :: prNames)[i + 1]? = some x := hx
    have ih := pG s k (i + 1) (by omega)
    rw [mi,ap (decide_eq_true (by omega)),FP hx',Ms]
    cases h : aQ s (mk x) with
    | true => rw [ar,gV hx h]; rfl
    | false => rw [ae,dG (by omega),ih,gd hx h]
theorem zt (s : ByteArray) : V 232 [.str s] = some (.int .i64 (gt s),[]) := by
  have h := pG s 19 0 (Nat.zero_add _)
  rw [gh] at h
  have h2 : V 239 [] = some (.os (1,0) (([] :: prNames).map fun x => D.str (mk x)),[]) := y3
  rw [CI,D0 h2]
  exact h
theorem gK (b : Bool) : V 241 [.bool b] = some (eN (ndB b),[]) := by
  rw [wO]; cases b <;> rfl
theorem mL (b : Bool) : V 251 [.bool b] = some (eN (ndB b),[]) := by
  rw [BZ]; cases b <;> rfl
noncomputable def mZ (n a b : Int) : Nd := if n = 1 then ndI (a + b) else if n = 2 then ndI (a - b) else if n = 3 then ndI (a * b) else if n = 4 then ndB (decide (a < b)) else ndB (a == b)
theorem AK {a b : Int} (ha : -1000000000 ≤ a ∧ a ≤ 1000000000) (hb : -1000000000 ≤ b ∧ b ≤ 1000000000) : -1000000000000000000 ≤ a * b ∧ a * b ≤ 1000000000000000000 := by
  have h1 : a.natAbs ≤ 1000000000 := by omega
  have h2 : b.natAbs ≤ 1000000000 := by omega
  have h3 : (a * b).natAbs ≤ 1000000000 * 1000000000 := by rw [Int.natAbs_mul]; exact Nat.mul_le_mul h1 h2
  omega
theorem LF {n a b : Int} (ha : -1000000000 ≤ a ∧ a ≤ 1000000000) (hb : -1000000000 ≤ b ∧ b ≤ 1000000000) : V 243 [.int .i64 n,.int .i64 a,.int .i64 b] = some (eN (mZ n a b),[]) := by
  have hm := AK ha hb
  rw [zp]
  unfold mZ
  by_cases h1 : n = 1
  · rw [ap (aJ h1),if_pos h1,w64 (by omega) (by omega)]
  rw [ah (az h1),if_neg h1]
  by_cases h2 : n = 2
  · rw [ap (aJ h2),if_pos h2,w64 (by omega) (by omega)]
  rw [ah (az h2),if_neg h2]
  by_cases h3 : n = 3
  · rw [ap (aJ h3),if_pos h3,w64 (by omega) (by omega)]
  rw [ah (az h3),if_neg h3]
  by_cases h4 : n = 4
  · rw [ap (aJ h4),if_pos h4,d9 (gK _)]
  rw [ah (az h4),if_neg h4,d9 (gK _)]
theorem PJ {x : Nd} {h : Int} (ho : okN x h = true) : x.s.size ≤ 12 := by
  have nz0 : nz x.s = true → x.s.size ≤ 12 := by
    intro e
    unfold nz at e
    rw [ep] at e
    rw [of_decide_eq_true e]; decide
  have nm : vZ x.s = true → x.s.size ≤ 12 := by
    intro e
    unfold vZ at e
    simp only [Bool.and_eq_true] at e
    have := wi_iff.1 e.1
    omega
  unfold okN at ho
  repeat' split at ho
  all_goals first | cases ho | skip
  all_goals (simp only [Bool.and_eq_true] at ho; first | exact nz0 ho.2.1 | exact nm ho.2.1)
theorem rQ {p : List Nd} (hp : bF p) : lu p := fun x hx => by
  obtain ⟨j,hj⟩ := List.getElem?_of_mem hx
  have := PJ (hp j x hj)
  omega
theorem wC {x : Nd} {h : Int} (ho : okN x h = true) (hk : x.kind = 3) : -1000000000 ≤ x.n ∧ x.n ≤ 1000000000 := by
  simp [okN,hk] at ho
  exact wi_iff.1 ho.1
noncomputable def mw (p : List Nd) (n : Int) (v : Int) : Bool := if n ≤ 5 then (nod p v).kind == 3 else if n = 7 ∨ n = 8 then (nod p v).kind == 5 else true
theorem AA {p : List Nd} {n : Int} {l : List Int} (hl : l.length < 4294967290) (hv : ∀ v ∈ l,InP p v) : ∀ (k i : Nat),i + k = l.length →
    bE n (l.map eI) (l.map eI) (ni l.length) (i : Int) (p.map eN) = if (l.drop i).all (mw p n) = true then bE n (l.map eI) (l.map eI) (ni l.length) (l.length : Int) (p.map eN) else some (.tup [.int .i64 (-1),.int .i64 3],[rP p])
  | 0,i,hi => by
    have : i = l.length := by omega
    subst this
    simp
  | k + 1,i,hi => by
    obtain ⟨v,hx⟩ := aA (l := l) (i := i) (by omega)
    have hvi := hv v (List.mem_of_getElem? hx)
    have ih := AA (n := n) hl hv k (i + 1) (by omega)
    rw [jR n (l.map eI) (l.map eI) (ni l.length) (i : Int),ap (ez (by omega)),jJ (x := v) (by omega) (by rw [Int.toNat_natCast]; exact hx),dG (by omega),ih,iz hx,List.all_cons]
    by_cases h5 : n ≤ 5
    · have ec : mw p n v = ((nod p v).kind == 3) := by unfold mw; rw [if_pos h5]
      rw [ap (decide_eq_true h5),sA hvi,ec]
      by_cases hk : (nod p v).kind = 3
      · rw [ah (cq hk),ah (az (by omega)),ah (az (by omega)),aJ hk,Bool.true_and]
      · rw [ap (c7 hk),az hk,Bool.false_and]; rfl
    · rw [ah (decide_eq_false h5)]
      by_cases h7 : n = 7
      · have ec : mw p n v = ((nod p v).kind == 5) := by unfold mw; rw [if_neg h5,if_pos (.inl h7)]
        rw [ap (aJ h7),sA hvi,ec]
        by_cases hk : (nod p v).kind = 5
        · rw [ah (cq hk),aJ hk,Bool.true_and]
        · rw [ap (c7 hk),az hk,Bool.false_and]; rfl
      · rw [ah (az h7)]
        by_cases h8 : n = 8
        · have ec : mw p n v = ((nod p v).kind == 5) := by unfold mw; rw [if_neg h5,if_pos (.inr h8)]
          rw [ap (aJ h8),sA hvi,ec]
          by_cases hk : (nod p v).kind = 5
          · rw [ah (cq hk),aJ hk,Bool.true_and]
          · rw [ap (c7 hk),az hk,Bool.false_and]; rfl
        · have ec : mw p n v = true := by unfold mw; rw [if_neg h5,if_neg (by omega)]
          rw [ah (az h8),ec,Bool.true_and]
noncomputable def Q9 (p : List Nd) (r : Except Int (List Nd × Int)) : Option Ret := match r with
  | .ok (q,v) => some (.tup [.int .i64 v,.int .i64 0],[rP q])
  | .error h => some (.tup [.int .i64 (-1),.int .i64 h],[rP p])
noncomputable def jn (p : List Nd) (n : Int) (l : List Int) : Nd :=
  let x := nod p (l.getD 0 0); let y := nod p (l.getD 1 0)
  if n = 6 then ndP (l.getD 0 0) (l.getD 1 0)
  else if n = 9 then ndB (x.kind == 1)
  else if n = 10 then ndB (x.kind == 5)
  else if n = 11 then ndB (K7 p (l.getD 0 0) (l.getD 1 0))
  else if n = 12 then ndB (x.kind == 2 && x.n == 0)
  else mZ n x.n y.n
theorem Jn {p : List Nd} (hp : bF p) (hl : p.length < 4294967290) {n : Int} {l : List Int} (hv : ∀ v ∈ l,InP p v) (h12 : 1 ≤ n ∧ n ≤ 12) (h78 : n ≠ 7 ∧ n ≠ 8) (hlen : (l.length : Int) = bl n) (h11 : n = 11 → aW p = true)
    (hk : n ≤ 5 → ∀ v ∈ l,(nod p v).kind = 3) : V 235 [eP p,.int .i64 n,.rs (1,0) (l.map eI)] = some (eN (jn p n l),[]) := by
  have hpos : l ≠ [] := by
    rintro rfl
    simp only [bl,List.length_nil] at hlen
    have : n = 1 ∨ n = 2 ∨ n = 3 ∨ n = 4 ∨ n = 5 ∨ n = 6 ∨ n = 7 ∨ n = 8 ∨ n = 9 ∨ n = 10 ∨ n = 11 ∨ n = 12 := by omega
    rcases this with rfl | rfl | rfl | rfl | rfl | rfl | rfl | rfl | rfl | rfl | rfl | rfl <;> cases hlen
  obtain ⟨a,r,rfl⟩ : ∃ a r,l = a :: r := by cases l with | nil => exact absurd rfl hpos | cons a r => exact ⟨a,r,rfl⟩
  have ha := hv a (by simp)
  have two : (n ≤ 6 ∨ n = 11) → ∃ b,r = [b] := by
    intro h
    have h2 : bl n = 2 := by
      have : n = 1 ∨ n = 2 ∨ n = 3 ∨ n = 4 ∨ n = 5 ∨ n = 6 ∨ n = 11 := by omega
      rcases this with rfl | rfl | rfl | rfl | rfl | rfl | rfl <;> rfl
    rw [h2] at hlen
    simp only [List.length_cons] at hlen
    match r,hlen with
    | [b],_ => exact ⟨b,rfl⟩
    | [],h => simp at h
    | _ :: _ :: _,h => simp at h; omega
  rw [wL,di,jd ha]
  unfold jn
  simp only [List.getD_cons_zero]
  by_cases h6 : n = 6
  · obtain ⟨b,rfl⟩ := two (by omega)
    rw [ap (aJ h6),if_pos h6,di,j0]
    rfl
  rw [ah (az h6),if_neg h6]
  by_cases h9 : n = 9
  · rw [ap (aJ h9),if_pos h9,d9 (gK _)]
  rw [ah (az h9),if_neg h9]
  by_cases h10 : n = 10
  · rw [ap (aJ h10),if_pos h10,d9 (gK _)]
  rw [ah (az h10),if_neg h10]
  by_cases hn11 : n = 11
  · obtain ⟨b,rfl⟩ := two (by omega)
    have hok := h11 hn11
    have hb := hv b (by simp)
    have hs := FH (p := p) (rQ hp) (by omega) a b
    have hsf : Lk p a b = K7 p a b := by
      have h1 : kI p a = true := wi_iff.2 ⟨ha.1,by omega⟩
      have h2 : kI p b = true := wi_iff.2 ⟨hb.1,by omega⟩
      simp [Lk,hok,h1,h2]
    rw [hsf] at hs
    rw [ap (aJ hn11),if_pos hn11,di,j0,LV hs,d9 (gK _)]
    rfl
  rw [ah (az hn11),if_neg hn11]
  by_cases hn12 : n = 12
  · rw [ap (aJ hn12),if_pos hn12]
    cases hk2 : (nod p a).kind == 2 with
    | true => rw [ar,d9 (gK _),Bool.true_and]
    | false => rw [ae,d9 (gK _),Bool.false_and]
  rw [ah (az hn12),if_neg hn12]
  obtain ⟨b,rfl⟩ := two (by omega)
  have hb := hv b (by simp)
  have k1 := hk (by omega) a (by simp)
  have k2 := hk (by omega) b (by simp)
  have hn := LF (n := n) (wC (lb hp ha) k1) (wC (lb hp hb) k2)
  rw [j0,Mf hb,BW hn]
  rfl
theorem lp {n : Int} {l : List Int} (hlen : (l.length : Int) = bl n) (h : 1 ≤ n ∧ n ≤ 6 ∨ n = 11) : ∃ a b,l = [a,b] := by
  have h2 : bl n = 2 := by
    have : n = 1 ∨ n = 2 ∨ n = 3 ∨ n = 4 ∨ n = 5 ∨ n = 6 ∨ n = 11 := by omega
    rcases this with rfl | rfl | rfl | rfl | rfl | rfl | rfl <;> rfl
  rw [h2] at hlen
  match l,hlen with
  | [a,b],_ => exact ⟨a,b,rfl⟩
  | [],h => simp at h
  | [_],h => simp at h
  | _ :: _ :: _ :: _,h => simp at h; omega
theorem mS {n : Int} {l : List Int} (hlen : (l.length : Int) = bl n) (h : 7 ≤ n ∧ n ≤ 10 ∨ n = 12) : ∃ a,l = [a] := by
  have h2 : bl n = 1 := by
    have : n = 7 ∨ n = 8 ∨ n = 9 ∨ n = 10 ∨ n = 12 := by omega
    rcases this with rfl | rfl | rfl | rfl | rfl <;> rfl
  rw [h2] at hlen
  match l,hlen with
  | [a],_ => exact ⟨a,rfl⟩
  | [],h => simp at h
  | _ :: _ :: _,h => simp at h; omega
theorem JR {p : List Nd} (hp : bF p) {n : Int} {l : List Int} (hv : ∀ v ∈ l,InP p v) (hlen : (l.length : Int) = bl n) (_ : 1 ≤ n ∧ n ≤ 12) (_ : n ≠ 7 ∧ n ≠ 8) (hw : wi (jn p n l).n (-1000000000) 1000000000 = true) : okN (jn p n l) p.length = true := by
  have hB : ∀ b,okN (ndB b) p.length = true := by intro b; cases b <;> simp [ndB,okN,wi,oX]
  unfold jn at hw ⊢
  simp only at hw ⊢
  by_cases h6 : n = 6
  · rw [if_pos h6]
    obtain ⟨a,b,rfl⟩ := lp hlen (by omega)
    have ha := hv a (by simp)
    have hb := hv b (by simp)
    show (wi 0 0 0 && (nz ⟨#[]⟩ && (wi a 0 _ && wi b 0 _))) = true
    rw [wi_iff.2 ⟨ha.1,by omega⟩,wi_iff.2 ⟨hb.1,by omega⟩,oX]
    rfl
  rw [if_neg h6] at hw ⊢
  by_cases h9 : n = 9
  · rw [if_pos h9]; exact hB _
  rw [if_neg h9] at hw ⊢
  by_cases h10 : n = 10
  · rw [if_pos h10]; exact hB _
  rw [if_neg h10] at hw ⊢
  by_cases h11 : n = 11
  · rw [if_pos h11]; exact hB _
  rw [if_neg h11] at hw ⊢
  by_cases hn12 : n = 12
  · rw [if_pos hn12]; exact hB _
  rw [if_neg hn12] at hw ⊢
  unfold mZ at hw ⊢
  have hI : ∀ x,wi x (-1000000000) 1000000000 = true → okN (ndI x) p.length = true := fun x hx => by
    show (wi x (-1000000000) 1000000000 && (nz ⟨#[]⟩ && _)) = true
    rw [hx,oX]; rfl
  split at hw
  · rw [if_pos ‹_›]; exact hI _ hw
  rw [if_neg ‹_›]
  split at hw
  · rw [if_pos ‹_›]; exact hI _ hw
  rw [if_neg ‹_›]
  split at hw
  · rw [if_pos ‹_›]; exact hI _ hw
  rw [if_neg ‹_›]
  split <;> exact hB _
theorem mJ {p : List Nd} {n : Int} {l : List Int} (h12 : 1 ≤ n ∧ n ≤ 12) (hlen : (l.length : Int) = bl n) : pg p n l =
    if l.all (mw p n) = true then (if n = 7 then .ok (p,(nod p (l.getD 0 0)).a) else if n = 8 then .ok (p,(nod p (l.getD 0 0)).b) else if wi (jn p n l).n (-1000000000) 1000000000 = true then .ok (p ++ [jn p n l],p.length) else .error 4) else .error 3 := by
  unfold pg
  simp only
  have hBw : ∀ b,wi (ndB b).n (-1000000000) 1000000000 = true := by intro b; cases b <;> rfl
  by_cases h5 : n ≤ 5
  · obtain ⟨a,b,rfl⟩ := lp hlen (by omega)
    have hc : [a,b].all (mw p n) = true ↔ (nod p a).kind = 3 ∧ (nod p b).kind = 3 := by
      simp [mw,h5]
    rw [if_pos h5]
    simp only [List.getD_cons_zero,List.getD_cons_succ]
    by_cases hk : (nod p a).kind = 3 ∧ (nod p b).kind = 3
    · have n7 : ¬ n = 7 := by omega
      have n8 : ¬ n = 8 := by omega
      rw [if_pos hk,if_pos (hc.2 hk),if_neg n7,if_neg n8]
      have e : jn p n [a,b] = mZ n (nod p a).n (nod p b).n := by
        unfold jn
        simp only [List.getD_cons_zero,List.getD_cons_succ]
        rw [if_neg (by omega),if_neg (by omega),if_neg (by omega),if_neg (by omega),if_neg (by omega)]
      rw [e]
      rfl
    · rw [if_neg hk,if_neg (fun h => hk (hc.1 h))]
  rw [if_neg h5]
  by_cases h6 : n = 6
  · subst h6
    have hc : l.all (mw p 6) = true := by simp [mw]
    rw [hc]
    simp only [if_true,jn]
    rfl
  rw [if_neg h6]
  by_cases h78 : n = 7 ∨ n = 8
  · obtain ⟨a,rfl⟩ := mS hlen (by omega)
    have hc : [a].all (mw p n) = true ↔ (nod p a).kind = 5 := by simp [mw,h5,h78]
    rw [if_pos h78]
    simp only [List.getD_cons_zero]
    by_cases hk : (nod p a).kind = 5
    · rw [if_pos hk,if_pos (hc.2 hk)]
      rcases h78 with rfl | rfl <;> rfl
    · rw [if_neg hk,if_neg (fun h => hk (hc.1 h))]
  have hc : l.all (mw p n) = true := by simp [mw,h5,h78]
  rw [if_neg h78,if_pos hc,if_neg (fun h => h78 (.inl h)),if_neg (fun h => h78 (.inr h))]
  unfold jn
  simp only
  rw [if_neg h6]
  by_cases h9 : n = 9
  · simp only [h9,if_true]; rw [if_pos (hBw _)]
  rw [if_neg h9,if_neg h9]
  by_cases h10 : n = 10
  · simp only [h10,if_true]; rw [if_pos (hBw _)]
  rw [if_neg h10,if_neg h10]
  by_cases h11 : n = 11
  · simp only [h11,if_true]; rw [if_pos (hBw _)]
  have hn12 : n = 12 := by omega
  rw [if_neg h11,if_neg h11,if_pos hn12,if_pos (hBw _)]
theorem IK {p : List Nd} (hp : bF p) (hl : p.length < 4294967290) {n : Int} {l : List Int} (hv : ∀ v ∈ l,InP p v) (h12 : 1 ≤ n ∧ n ≤ 12) (hlen : (l.length : Int) = bl n) (h11 : n = 11 → aW p = true) :
    V 224 [rP p,.int .i64 n,.rs (1,0) (l.map eI)] = Q9 p (pg p n l) := by
  have hll : l.length ≤ 2 := by
    by_cases h : n ≤ 6 ∨ n = 11
    · obtain ⟨a,b,rfl⟩ := lp hlen (by omega); simp
    · obtain ⟨a,rfl⟩ := mS hlen (by omega); simp
  have h := AA (n := n) (l := l) (by omega) hv l.length 0 (Nat.zero_add _)
  rw [Int.natCast_zero,List.drop_zero] at h
  rw [wc,List.length_map,h,mJ h12 hlen]
  by_cases hc : l.all (mw p n) = true
  · rw [if_pos hc,if_pos hc,jR,ah (fJ (Nat.le_refl _))]
    by_cases h7 : n = 7
    · obtain ⟨a,rfl⟩ := mS hlen (by omega)
      rw [ap (aJ h7),if_pos h7,di,Oj (hv a (by simp))]
      rfl
    rw [ah (az h7),if_neg h7]
    by_cases h8 : n = 8
    · obtain ⟨a,rfl⟩ := mS hlen (by omega)
      rw [ap (aJ h8),if_pos h8,di,OG (hv a (by simp))]
      rfl
    rw [ah (az h8),if_neg h8]
    have hn := Jn hp hl hv h12 ⟨h7,h8⟩ hlen h11 (fun h5 v hv' => by
      have := List.all_eq_true.1 hc v hv'
      simpa [mw,h5] using this)
    rw [y6 hn,bI (bH _ _ _)]
    cases hw : wi (jn p n l).n (-1000000000) 1000000000 with
    | false => rw [if_neg (by simp)]; rfl
    | true =>
      rw [if_pos rfl,Bool.not_true,ae,cj (lm (by omega) (jn p n l))]
      rfl
  · rw [if_neg hc,if_neg hc]; rfl
theorem Jv {n : Int} (h5 : 1 ≤ n ∧ n ≤ 5) {x y : Nd} (hx : x.kind = 3 → -1000000000 ≤ x.n ∧ x.n ≤ 1000000000) (hy : y.kind = 3 → -1000000000 ≤ y.n ∧ y.n ≤ 1000000000) :
    ∃ z,V 250 [.int .i64 n,eN x,eN y] = some (.tup [eN (if x.kind = 3 ∧ y.kind = 3 ∧ wi (mZ n x.n y.n).n (-1000000000) 1000000000 = true then mZ n x.n y.n else z),.int .i64 (if x.kind = 3 ∧ y.kind = 3 then (if wi (mZ n x.n y.n).n (-1000000000) 1000000000 = true then 0 else 4) else 3)],[]) := by
  have hBw : ∀ b,wi (ndB b).n (-1000000000) 1000000000 = true := by intro b; cases b <;> rfl
  refine ⟨⟨0,0,⟨#[]⟩,0,0⟩,?_⟩
  rw [yM]
  by_cases k1 : x.kind = 3
  · rw [ah (cq k1)]
    by_cases k2 : y.kind = 3
    · have a1 := hx k1
      have a2 := hy k2
      have hm := AK a1 a2
      have hk : x.kind = 3 ∧ y.kind = 3 := ⟨k1,k2⟩
      rw [ah (cq k2),if_pos hk]
      have fin : ∀ (q : Int),mZ n x.n y.n = ndI q → (ac V 62 [.int .i64 q,.int .i64 (-1000000000),.int .i64 1000000000] fun v0 v1 => asB v0 fun b => unn v1 (br (!b) (some (D.tup [.agg [.int .i64 0,.int .i64 0,.str ⟨#[]⟩,.int .i64 0,.int .i64 0],.int .i64 4],[])) (some (D.tup [.agg [.int .i64 3,.int .i64 q,.str ⟨#[]⟩,.int .i64 0,.int .i64 0],.int .i64 0],([] : List D))))) =
          some (D.tup [eN (if x.kind = 3 ∧ y.kind = 3 ∧ wi (mZ n x.n y.n).n (-1000000000) 1000000000 = true then mZ n x.n y.n else ⟨0,0,⟨#[]⟩,0,0⟩),.int .i64 (if wi (mZ n x.n y.n).n (-1000000000) 1000000000 = true then 0 else 4)],[]) := by
        intro q hq
        rw [dH (d7 _ _ _),hq]
        simp only
        cases hw : wi q (-1000000000) 1000000000 with
        | false => rw [if_neg (by simp),if_neg (by simp)]; rfl
        | true => rw [if_pos ⟨k1,k2,rfl⟩,if_pos rfl]; rfl
      have Qn : ∀ b,mZ n x.n y.n = ndB b → (ac V 251 [.bool b] fun v0 v1 => tk1 v0 fun n4 n7 s10 n13 n16 => (unn v1 (some (D.tup [.agg [.int .i64 n4,.int .i64 n7,.str s10,.int .i64 n13,.int .i64 n16],.int .i64 0],([] : List D))))) =
          some (D.tup [eN (if x.kind = 3 ∧ y.kind = 3 ∧ wi (mZ n x.n y.n).n (-1000000000) 1000000000 = true then mZ n x.n y.n else ⟨0,0,⟨#[]⟩,0,0⟩),.int .i64 (if wi (mZ n x.n y.n).n (-1000000000) 1000000000 = true then 0 else 4)],[]) := by
        intro b hb
        rw [gW (mL b),hb,if_pos ⟨k1,k2,hBw b⟩,if_pos (hBw b)]
      have w1 : IntKind.wrap .i64 (x.n - y.n) = x.n - y.n := w64 (by omega) (by omega)
      have w2 : IntKind.wrap .i64 (x.n * y.n) = x.n * y.n := w64 (by omega) (by omega)
      have w3 : IntKind.wrap .i64 (x.n + y.n) = x.n + y.n := w64 (by omega) (by omega)
      rw [w1,w2,w3]
      by_cases c2 : n = 2
      · rw [ap (aJ c2)]; exact fin _ (by subst c2; rfl)
      rw [ah (az c2)]
      by_cases c3 : n = 3
      · rw [ap (aJ c3)]; exact fin _ (by subst c3; rfl)
      rw [ah (az c3)]
      by_cases c4 : n = 4
      · rw [ap (aJ c4)]; exact Qn _ (by subst c4; rfl)
      rw [ah (az c4)]
      by_cases c5 : n = 5
      · rw [ap (aJ c5)]; exact Qn _ (by subst c5; rfl)
      rw [ah (az c5)]
      have c1 : n = 1 := by omega
      exact fin _ (by subst c1; rfl)
    · rw [ap (c7 k2),if_neg (fun h => k2 h.2.1),if_neg (fun h => k2 h.2)]
  · rw [ap (c7 k1),if_neg (fun h => k1 h.1),if_neg (fun h => k1 h.1)]
theorem Qt {p : List Nd} (hp : bF p) (hl : p.length < 4294967290) {n : Int} {l : List Int} (hv : ∀ v ∈ l,InP p v) (h12 : 1 ≤ n ∧ n ≤ 12) (hlen : (l.length : Int) = bl n) :
    V 246 [rP p,.int .i64 n,.rs (1,0) (l.map eI)] = Q9 p (pg p n l) := by
  obtain ⟨a,r,rfl⟩ : ∃ a r,l = a :: r := by
    by_cases h : n ≤ 6 ∨ n = 11
    · obtain ⟨a,b,rfl⟩ := lp hlen (by omega); exact ⟨_,_,rfl⟩
    · obtain ⟨a,rfl⟩ := mS hlen (by omega); exact ⟨_,_,rfl⟩
  have ha := hv a (by simp)
  rw [Ki,di,jd ha]
  unfold pg
  simp only [List.getD_cons_zero]
  by_cases h5 : n ≤ 5
  · obtain ⟨a',b,e⟩ := lp hlen (by omega)
    cases e
    have hb := hv b (by simp)
    obtain ⟨z,hz⟩ := Jv (n := n) (by omega) (x := nod p a) (y := nod p b) (wC (lb hp ha)) (wC (lb hp hb))
    rw [ap (decide_eq_true h5),if_pos h5,j0,jd hb,zk hz]
    simp only [List.getD_cons_zero,List.getD_cons_succ]
    by_cases hk : (nod p a).kind = 3 ∧ (nod p b).kind = 3
    · have e : (if n = 1 then ndI ((nod p a).n + (nod p b).n) else if n = 2 then ndI ((nod p a).n - (nod p b).n) else if n = 3 then ndI ((nod p a).n * (nod p b).n) else if n = 4 then ndB (decide ((nod p a).n < (nod p b).n)) else ndB ((nod p a).n == (nod p b).n)) = mZ n (nod p a).n (nod p b).n := rfl
      rw [if_pos hk,if_pos hk,e]
      by_cases hw : wi (mZ n (nod p a).n (nod p b).n).n (-1000000000) 1000000000 = true
      · have hc : (nod p a).kind = 3 ∧ (nod p b).kind = 3 ∧ wi (mZ n (nod p a).n (nod p b).n).n (-1000000000) 1000000000 = true := ⟨hk.1,hk.2,hw⟩
        rw [if_pos hw,if_pos hw,ah (cq rfl)]
        simp only [if_pos hc]
        rw [bm (cM (by omega) (mZ n (nod p a).n (nod p b).n))]
        rfl
      · rw [if_neg hw,if_neg hw]; rfl
    · rw [if_neg hk,if_neg hk]; rfl
  rw [ah (decide_eq_false h5),if_neg h5]
  by_cases h6 : n = 6
  · obtain ⟨a',b,e⟩ := lp hlen (by omega)
    cases e
    rw [ap (aJ h6),if_pos h6,di,j0,bm (cM (by omega) (ndP a b))]
    rfl
  rw [ah (az h6),if_neg h6]
  by_cases h8 : n ≤ 8
  · rw [ap (decide_eq_true h8),if_pos (by omega)]
    by_cases hk : (nod p a).kind = 5
    · rw [ah (cq hk),if_pos hk]
      by_cases h7 : n = 7
      · rw [ap (aJ h7),if_pos h7]; rfl
      · rw [ah (az h7),if_neg h7]; rfl
    · rw [ap (c7 hk),if_neg hk]; rfl
  rw [ah (decide_eq_false h8),if_neg (by omega)]
  by_cases h9 : n = 9
  · rw [ap (aJ h9),if_pos h9,gW (mL _),bm (cM (by omega) (ndB _))]; rfl
  rw [ah (az h9),if_neg h9]
  by_cases h10 : n = 10
  · rw [ap (aJ h10),if_pos h10,gW (mL _),bm (cM (by omega) (ndB _))]; rfl
  rw [ah (az h10),if_neg h10]
  by_cases h11 : n = 11
  · obtain ⟨a',b,e⟩ := lp hlen (by omega)
    cases e
    have hb := hv b (by simp)
    rw [ap (aJ h11),if_pos h11,wQ (FF hp hl),di,eR ha.1 (by rw [sW]; exact ha.2),j0,eR hb.1 (by rw [sW]; exact hb.2),gW (mL _),bm (cM (by omega) (ndB _))]
    rfl
  rw [ah (az h11),if_neg h11]
  cases hk2 : (nod p a).kind == 2 with
  | true => rw [ar,gW (mL _),bm (cM (by omega) (ndB _)),Bool.true_and]; rfl
  | false => rw [ae,gW (mL _),bm (cM (by omega) (ndB _)),Bool.false_and]; rfl
end Go.Eng
/-! a step of a machine keeps it right: plain -/
namespace Go.Eng

theorem bL {p : List Nd} (hp : bF p) {x : Nd} (hx : okN x p.length = true) : bF (p ++ [x]) := by
  intro j y hy
  rcases Nat.lt_or_ge j p.length with h | h
  · rw [List.getElem?_append_left h] at hy; exact hp j y hy
  · rw [List.getElem?_append_right h] at hy
    have : j = p.length := by have := aK hy; simp at this; omega
    subst this
    simp at hy; subst hy; exact hx
theorem DQ (h : Int) : okN ndN h = true := by
  show (wi 0 0 0 && (nz ⟨#[]⟩ && _)) = true
  rw [oX]; rfl
theorem tg {a b : Int} {n : Nat} (ha : 0 ≤ a ∧ a < (n : Int)) (hb : 0 ≤ b ∧ b < (n : Int)) : okN (ndP a b) n = true := by
  show (wi 0 0 0 && (nz ⟨#[]⟩ && (wi a 0 _ && wi b 0 _))) = true
  rw [wi_iff.2 ⟨ha.1,by omega⟩,wi_iff.2 ⟨hb.1,by omega⟩,oX]; rfl
theorem wD {n h : Int} (hn : -1000000000 ≤ n ∧ n ≤ 1000000000) : okN (ndI n) h = true := by
  show (wi n (-1000000000) 1000000000 && (nz ⟨#[]⟩ && _)) = true
  rw [wi_iff.2 hn,oX]; rfl
theorem Lb {k a : Int} {n : Nat} (hk : 0 ≤ k ∧ k ≤ 1000000000) (ha : 0 ≤ a ∧ a < (n : Int)) : okN (ndF k a) n = true := by
  show (wi k 0 1000000000 && (nz ⟨#[]⟩ && (wi a 0 _ && _))) = true
  rw [wi_iff.2 hk,wi_iff.2 ⟨ha.1,by omega⟩,oX]; rfl
theorem CG {a : Int} {n : Nat} (ha : 0 ≤ a ∧ a < (n : Int)) : okN (ndK a) n = true := by
  show (wi 0 0 0 && (nz ⟨#[]⟩ && (wi a 0 _ && _))) = true
  rw [wi_iff.2 ⟨ha.1,by omega⟩,oX]; rfl
theorem PF {k h : Int} (hk : 0 ≤ k ∧ k ≤ 99) : okN (ndR k) h = true := by
  show (wi k 0 99 && (nz ⟨#[]⟩ && _)) = true
  rw [wi_iff.2 hk,oX]; rfl
theorem du (p : List Nd) (x : Nd) : InP (p ++ [x]) (p.length : Int) := ⟨by omega,by simp only [List.length_append,List.length_cons,List.length_nil]; omega⟩
theorem te : ∀ (r : List Int) (q : List Nd) (c : Nat),bF q → c < q.length → (∀ v ∈ r,InP q v) → bF (eJ r q c).1 ∧ (∃ t,(eJ r q c).1 = q ++ t ∧ t.length = r.length) ∧ (eJ r q c).2 < (eJ r q c).1.length
  | [],q,c,hq,hc,hr => ⟨hq,⟨[],by simp [eJ],rfl⟩,hc⟩
  | x :: r,q,c,hq,hc,hr => by
    have hx := hr x (by simp)
    obtain ⟨h1,⟨t,h2,h3⟩,h4⟩ := te r (q ++ [ndP x c]) q.length (bL hq (tg hx ⟨by omega,by omega⟩)) (by simp) (fun v hv => bc _ (hr v (by simp [hv])))
    exact ⟨h1,⟨ndP x c :: t,by rw [eJ,h2]; simp,by simp [h3]⟩,h4⟩
theorem gZ {q : List Nd} {row : List Int} (hq : bF q) (hr : ∀ v ∈ row,InP q v) : bF (aP q row).1 ∧ (∃ t,(aP q row).1 = q ++ t ∧ t.length = row.length + 1) ∧ InP (aP q row).1 ((aP q row).2 : Int) := by
  obtain ⟨h1,⟨t,h2,h3⟩,h4⟩ := te row.reverse (q ++ [ndN]) q.length (bL hq (DQ _)) (by simp) (fun v hv => bc _ (hr v (by simpa using hv)))
  refine ⟨h1,⟨ndN :: t,by unfold aP; rw [h2]; simp,by simp [h3]⟩,⟨by omega,?_⟩⟩
  have : (aP q row).2 < (aP q row).1.length := h4
  omega
structure GM (m : Mc) : Prop where
  ok : bF m.pool
  s : InP m.pool m.s
  e : InP m.pool m.e
  d : InP m.pool m.d
theorem og {m : Mc} (h : GM m) {v : Int} (hv : InP m.pool v) : GM (sG m v) :=
  ⟨bL h.ok (tg hv h.s),du _ _,bc _ h.e,bc _ h.d⟩
theorem gA {m m' : Mc} (h : GM m) {v : Int} (ht : gz m = some (v,m')) : GM m' ∧ InP m'.pool v ∧ m'.pool = m.pool ∧ m'.at' = m.at' ∧ m'.state = m.state ∧ m'.ask = m.ask ∧ m'.arg = m.arg ∧ m'.d = m.d := by
  obtain ⟨h1,h2,h3,h4,h5,h6,h7,h8,h9⟩ := FG h.ok h.s ht
  exact ⟨⟨by rw [h2]; exact h.ok,by rw [h2]; exact h3,by rw [h2,h4]; exact h.e,by rw [h2,h5]; exact h.d⟩,by rw [h2]; exact h1,h2,h6,h7,h8,h9,h5⟩
theorem qX : ∀ {k : Nat} {m m' : Mc} {l : List Int},GM m → iJ k m = some (l,m') → GM m' ∧ (∀ v ∈ l,InP m'.pool v) ∧ l.length = k ∧ m'.pool = m.pool ∧ m'.at' = m.at' ∧ m'.state = m.state ∧ m'.ask = m.ask ∧ m'.arg = m.arg ∧ m'.d = m.d
  | 0,m,m',l,h,ht => by
    simp only [iJ,Option.some.injEq,Prod.mk.injEq] at ht
    obtain ⟨rfl,rfl⟩ := ht
    exact ⟨h,by simp,rfl,rfl,rfl,rfl,rfl,rfl,rfl⟩
  | k + 1,m,m',l,h,ht => by
    simp only [iJ] at ht
    split at ht
    · cases ht
    · rename_i v m1 h1
      split at ht
      · cases ht
      · rename_i l2 m2 h2
        cases ht
        obtain ⟨g1,g2,g3,g4,g5,g6,g7,g8⟩ := gA h h1
        obtain ⟨f1,f2,f3,f4,f5,f6,f7,f8,f9⟩ := qX g1 h2
        refine ⟨f1,fun u hu => ?_,by simp [f3],f4.trans g3,f5.trans g4,f6.trans g5,f7.trans g6,f8.trans g7,f9.trans g8⟩
        rcases List.mem_cons.1 hu with rfl | hu
        · rw [f4]; exact g2
        · exact f2 u hu
theorem wB {p : List Nd} (hp : bF p) {v : Int} (hv : InP p v) : ∀ x ∈ (ke p v).1,InP p x := Lm hp _ v hv
theorem Bh {c : Cd} {p : List Nd} (hp : bF p) {v : Int} (hv : InP p v) {many : Nat} {n : Int} {r : List Int} (h : nJ c p v many = some (n,r)) : dt c n = true ∧ (∀ x ∈ r,InP p x) ∧ r.length + 1 = many := by
  unfold nJ at h
  split at h
  · rename_i a r' he
    split at h
    · rename_i hc
      cases h
      have := wB hp hv
      rw [he] at this
      exact ⟨hc.2.2,fun x hx => this x (by simp [hx]),hc.1⟩
    · cases h
  · cases h
structure GoesM (c : Cd) (m m' : Mc) (k : Nat) : Prop where
  gm : GM m'
  ext : ∃ t,m'.pool = m.pool ++ t ∧ t.length ≤ k
  st : pT c m' = true
theorem qz {c : Cd} {m : Mc} (h0 : m.state = 0) (h1 : m.ask = 0) (h2 : m.arg = 0) (h3 : dt c m.at' = true) : pT c m = true := by
  unfold pT
  rw [if_pos h0,h1,h2]
  unfold dt at h3
  rw [h3]; rfl
structure RunM (c : Cd) (m : Mc) : Prop where
  gm : GM m
  st : m.state = 0
  ask : m.ask = 0
  arg : m.arg = 0
  pl : dt c m.at' = true
theorem isPl_iff {c : Cd} {n : Int} : dt c n = true ↔ 0 ≤ n ∧ n ≤ (c.list.length : Int) - 1 := wi_iff
theorem IV {c : Cd} (hc : c.list.length ≤ 400) {m m' : Mc} (h : RunM c m) {f : Nd} (hf : InP m.pool f.a) {l : List Int} (hl : ∀ v ∈ l,InP m.pool v) (he : oG c m f l = .ok m') : GoesM c m m' (l.length + 9) := by
  unfold oG at he
  split at he
  · cases he
  split at he
  · cases he
  rename_i h1 h2
  have hpl := isPl_iff.1 h.pl
  simp only [Except.ok.injEq] at he
  have o1 : bF (m.pool ++ [ndI (m.at' + 1)]) := bL h.gm.ok (wD (by omega))
  obtain ⟨b1,⟨t,b2,b3⟩,b4⟩ := gZ (row := [(m.pool.length : Int),m.s,m.e]) o1 (fun v hv => by
    simp only [List.mem_cons,List.not_mem_nil,or_false] at hv
    rcases hv with rfl | rfl | rfl
    · exact du _ _
    · exact bc _ h.gm.s
    · exact bc _ h.gm.e)
  have e1 : (aP (m.pool ++ [ndI (m.at' + 1)]) [(m.pool.length : Int),m.s,m.e]).1 = m.pool ++ (ndI (m.at' + 1) :: t) := by rw [b2]; simp
  have up : ∀ {v : Int},InP m.pool v → InP (aP (m.pool ++ [ndI (m.at' + 1)]) [(m.pool.length : Int),m.s,m.e]).1 v := fun hv => by rw [e1]; exact bc _ hv
  have o2 := bL b1 (tg b4 (up h.gm.d))
  obtain ⟨v1,⟨t2,v2,v3⟩,v4⟩ := gZ (row := l) o2 (fun v hv => bc _ (up (hl v hv)))
  have up2 : ∀ {v : Int},InP ((aP (m.pool ++ [ndI (m.at' + 1)]) [(m.pool.length : Int),m.s,m.e]).1 ++ [ndP ((aP (m.pool ++ [ndI (m.at' + 1)]) [(m.pool.length : Int),m.s,m.e]).2 : Int) m.d]) v → InP (aP ((aP (m.pool ++ [ndI (m.at' + 1)]) [(m.pool.length : Int),m.s,m.e]).1 ++ [ndP ((aP (m.pool ++ [ndI (m.at' + 1)]) [(m.pool.length : Int),m.s,m.e]).2 : Int) m.d]) l).1 v := fun hv => by rw [v2]; exact bc _ hv
  have o3 := bL v1 (tg v4 (up2 (bc _ (up hf))))
  have o4 := bL o3 (DQ _)
  subst he
  refine ⟨⟨o4,?_,?_,?_⟩,⟨ndI (m.at' + 1) :: t ++ [ndP ((aP (m.pool ++ [ndI (m.at' + 1)]) [(m.pool.length : Int),m.s,m.e]).2 : Int) m.d] ++ t2 ++ [ndP ((aP ((aP (m.pool ++ [ndI (m.at' + 1)]) [(m.pool.length : Int),m.s,m.e]).1 ++ [ndP ((aP (m.pool ++ [ndI (m.at' + 1)]) [(m.pool.length : Int),m.s,m.e]).2 : Int) m.d]) l).2 : Int) f.a] ++ [ndN],?_,?_⟩,?_⟩
  · have := du ((aP ((aP (m.pool ++ [ndI (m.at' + 1)]) [(m.pool.length : Int),m.s,m.e]).1 ++ [ndP ((aP (m.pool ++ [ndI (m.at' + 1)]) [(m.pool.length : Int),m.s,m.e]).2 : Int) m.d]) l).1 ++ [ndP ((aP ((aP (m.pool ++ [ndI (m.at' + 1)]) [(m.pool.length : Int),m.s,m.e]).1 ++ [ndP ((aP (m.pool ++ [ndI (m.at' + 1)]) [(m.pool.length : Int),m.s,m.e]).2 : Int) m.d]) l).2 : Int) f.a]) ndN
    simpa using this
  · exact bc _ (du _ _)
  · exact bc _ (bc _ (up2 (du _ _)))
  · show _ ++ _ ++ _ = _
    rw [v2,b2]
    simp
  · simp only [List.length_append,List.length_cons,List.length_nil,b3,v3]; omega
  · exact qz h.st h.ask h.arg (by simpa using h2)
theorem LR {c : Cd} {m m' : Mc} (h : RunM c m) {st : Int} (hs : InP m.pool st) {l : List Int} (hl : ∀ v ∈ l,InP m.pool v) (he : DP c m st l = .ok m') : GoesM c m m' 1 := by
  unfold DP at he
  split at he
  · cases he
  rename_i h1
  split at he
  · rename_i n s e d hf
    obtain ⟨f1,f2,f3⟩ := Bh h.gm.ok hs hf
    cases he
    have hv : InP m.pool (l.getD 0 0) := by
      match l,h1 with
      | [v],_ => exact hl v (by simp)
      | [],h => simp at h
      | _ :: _ :: _,h => simp at h
    have g : GM ⟨m.pool,n,s,e,d,m.state,m.ask,m.arg⟩ := ⟨h.gm.ok,f2 s (by simp),f2 e (by simp),f2 d (by simp)⟩
    exact ⟨og g hv,⟨[_],rfl,Nat.le_refl _⟩,qz h.st h.ask h.arg f1⟩
  · cases he
theorem xE {p q : List Nd} (hp : bF p) {n v : Int} {l : List Int} (hv : ∀ v ∈ l,InP p v) (h12 : 1 ≤ n ∧ n ≤ 12) (hlen : (l.length : Int) = bl n) (h : pg p n l = .ok (q,v)) : bF q ∧ InP q v ∧ ∃ t,q = p ++ t ∧ t.length ≤ 1 := by
  rw [mJ h12 hlen] at h
  split at h
  · rename_i hc
    have one : n = 7 ∨ n = 8 → ∃ a,l = [a] ∧ (nod p a).kind = 5 := by
      intro h78
      obtain ⟨a,rfl⟩ := mS hlen (by omega)
      have := List.all_eq_true.1 hc a (by simp)
      refine ⟨a,rfl,?_⟩
      have h5 : ¬ n ≤ 5 := by omega
      simpa [mw,h5,h78] using this
    split at h
    · rename_i h7
      cases h
      obtain ⟨a,rfl,hk⟩ := one (.inl h7)
      exact ⟨hp,pt hp (hv a (by simp)) (.inl hk),[],by simp,by simp⟩
    · split at h
      · rename_i h7 h8
        cases h
        obtain ⟨a,rfl,hk⟩ := one (.inr h8)
        exact ⟨hp,sR hp (hv a (by simp)) hk,[],by simp,by simp⟩
      · rename_i h7 h8
        split at h
        · rename_i hw
          cases h
          exact ⟨bL hp (JR hp hv hlen h12 ⟨h7,h8⟩ hw),du _ _,_,rfl,Nat.le_refl _⟩
        · cases h
  · cases h
theorem fH {n : Int} {k : Nat} (h : bl n = (k : Int)) : 1 ≤ n ∧ n ≤ 19 ∧ k ≤ 2 := by
  unfold bl at h
  split at h
  · rename_i hw
    have := wi_iff.1 hw
    refine ⟨this.1,this.2,?_⟩
    have hm : prArgs.getD (n - 1).toNat 0 ≤ 2 := by
      rcases Nat.lt_or_ge (n - 1).toNat prArgs.length with h | h
      · have := List.getElem_mem (l := prArgs) h
        rw [List.getD_eq_getElem?_getD,List.getElem?_eq_getElem h,Option.getD_some]
        have all : ∀ x ∈ prArgs,x ≤ 2 := by decide
        exact all _ this
      · rw [List.getD_eq_getElem?_getD,List.getElem?_eq_none h]; decide
    omega
  · omega
theorem xG {c : Cd} (hc : c.list.length ≤ 400) : ∀ (k : Nat) {m m' : Mc} {f : Int} {l : List Int},RunM c m → dt c (m.at' + 1) = true → InP m.pool f → (∀ v ∈ l,InP m.pool v) → l.length ≤ 4 → gT c k m f l = .ok m' → ∃ t,GoesM c m m' t ∧ t ≤ 13 + 7 * k
  | 0,m,m',f,l,h,hnx,hf,hl,h4,he => by cases he
  | k + 1,m,m',f,l,h,hnx,hf,hl,h4,he => by
    unfold gT at he
    simp only at he
    split at he
    · rename_i h6
      exact ⟨_,IV hc h (pt h.gm.ok hf (.inr (.inl h6))) hl he,by omega⟩
    split at he
    · rename_i h6 h8
      split at he
      · cases he
      rename_i hargs
      have hargs : bl (nod m.pool f).n = (l.length : Int) := by omega
      obtain ⟨n1,n19,l2⟩ := fH hargs
      split at he
      · rename_i h18
        have hpl := isPl_iff.1 h.pl
        have o1 : bF (m.pool ++ [ndI (m.at' + 1)]) := bL h.gm.ok (wD (by omega))
        obtain ⟨b1,⟨t,b2,b3⟩,b4⟩ := gZ (row := [(m.pool.length : Int),m.s,m.e,m.d]) o1 (fun v hv => by
          simp only [List.mem_cons,List.not_mem_nil,or_false] at hv
          rcases hv with rfl | rfl | rfl | rfl
          · exact du _ _
          · exact bc _ h.gm.s
          · exact bc _ h.gm.e
          · exact bc _ h.gm.d)
        have e1 : (aP (m.pool ++ [ndI (m.at' + 1)]) [(m.pool.length : Int),m.s,m.e,m.d]).1 = m.pool ++ (ndI (m.at' + 1) :: t) := by rw [b2]; simp
        have up : ∀ {v : Int},InP m.pool v → InP ((aP (m.pool ++ [ndI (m.at' + 1)]) [(m.pool.length : Int),m.s,m.e,m.d]).1 ++ [ndK ((aP (m.pool ++ [ndI (m.at' + 1)]) [(m.pool.length : Int),m.s,m.e,m.d]).2 : Int)]) v := fun hv => bc _ (by rw [e1]; exact bc _ hv)
        have hl0 : InP m.pool (l.getD 0 0) := by
          match l,hargs with
          | v :: _,_ => exact hl v (by simp)
          | [],h => rw [h18] at h; cases h
        have g2 : RunM c ⟨(aP (m.pool ++ [ndI (m.at' + 1)]) [(m.pool.length : Int),m.s,m.e,m.d]).1 ++ [ndK ((aP (m.pool ++ [ndI (m.at' + 1)]) [(m.pool.length : Int),m.s,m.e,m.d]).2 : Int)],m.at',m.s,m.e,m.d,m.state,m.ask,m.arg⟩ :=
          ⟨⟨bL b1 (CG b4),up h.gm.s,up h.gm.e,up h.gm.d⟩,h.st,h.ask,h.arg,h.pl⟩
        obtain ⟨q,⟨g3,⟨t3,g4,g5⟩,g6⟩,g7⟩ := xG hc k g2 hnx (up hl0) (fun v hv => by
          simp only [List.mem_singleton] at hv; subst hv; exact du _ _) (by simp) he
        refine ⟨q + 7,⟨g3,⟨ndI (m.at' + 1) :: t ++ [ndK ((aP (m.pool ++ [ndI (m.at' + 1)]) [(m.pool.length : Int),m.s,m.e,m.d]).2 : Int)] ++ t3,?_,?_⟩,g6⟩,by omega⟩
        · rw [g4]
          show _ ++ _ ++ _ = _
          rw [b2]
          simp
        · simp only [List.length_append,List.length_cons,List.length_nil,b3]; omega
      split at he
      · rename_i h18 h12
        simp only [Except.ok.injEq] at he
        obtain ⟨b1,⟨t,b2,b3⟩,b4⟩ := gZ (row := l) h.gm.ok hl
        subst he
        have up : ∀ {v : Int},InP m.pool v → InP (aP m.pool l).1 v := fun hv => by rw [b2]; exact bc _ hv
        refine ⟨l.length + 1,⟨⟨b1,up h.gm.s,up h.gm.e,up h.gm.d⟩,⟨t,b2,by omega⟩,?_⟩,by omega⟩
        unfold pT
        have hpl : wi m.at' 0 ((c.list.length : Int) - 1) = true := h.pl
        have hn : wi (nod m.pool f).n 13 19 = true := wi_iff.2 ⟨by omega,n19⟩
        have hr : kI (aP m.pool l).1 ((aP m.pool l).2 : Int) = true := wi_iff.2 ⟨b4.1,by have := b4.2; omega⟩
        simp only
        rw [if_neg (by omega),if_pos trivial,hpl,hn,hr,c7 h18]
        rfl
      split at he
      · cases he
      · rename_i h18 h12 p v hp
        cases he
        obtain ⟨q1,q2,t,q3,q4⟩ := xE h.gm.ok hl (by omega) hargs.symm hp
        have up : ∀ {v : Int},InP m.pool v → InP p v := fun hv => by rw [q3]; exact bc _ hv
        refine ⟨2,⟨⟨bL q1 (tg q2 (up h.gm.s)),du _ _,bc _ (up h.gm.e),bc _ (up h.gm.d)⟩,⟨t ++ [ndP v m.s],by show p ++ _ = _; rw [q3]; simp,by simp; omega⟩,?_⟩,by omega⟩
        exact qz h.st h.ask h.arg hnx
    split at he
    · rename_i h6 h8 h7
      exact ⟨1,LR h (pt h.gm.ok hf (.inr (.inr h7))) hl he,by omega⟩
    · cases he
theorem zG {c : Cd} (hc : c.list.length ≤ 400) {m m' : Mc} (h : RunM c m) {k : Nat} (hk : k ≤ 4) (he : fg c m k = .ok m') : ∃ t,GoesM c m m' t ∧ t ≤ 34 := by
  unfold fg at he
  split at he
  · cases he
  rename_i hnx
  split at he
  · cases he
  · rename_i l m1 ht
    obtain ⟨f1,f2,f3,f4,f5,f6,f7,f8,f9⟩ := qX h.gm ht
    have g : RunM c m1 := ⟨f1,f6.trans h.st,f7.trans h.ask,f8.trans h.arg,by rw [f5]; exact h.pl⟩
    have hrev : ∀ v ∈ l.reverse,InP m1.pool v := fun v hv => f2 v (by simpa using hv)
    obtain ⟨a,r,hr⟩ : ∃ a r,l.reverse = a :: r := by
      cases hq : l.reverse with
      | nil => rw [← List.length_reverse,hq] at f3; simp at f3
      | cons a r => exact ⟨a,r,rfl⟩
    rw [hr] at he hrev
    have hlen : r.length = k := by rw [← List.length_reverse,hr] at f3; simpa using f3
    obtain ⟨t,⟨g1,⟨q,g2,g3⟩,g4⟩,g5⟩ := xG hc 3 g (by rw [f5]; simpa using hnx) (hrev a (by simp)) (fun v hv => hrev v (by simpa using .inr hv)) (by simpa using (by omega : r.length ≤ 4)) he
    exact ⟨t,⟨g1,⟨q,by rw [g2,f4],g3⟩,g4⟩,by omega⟩
theorem Jp {c : Cd} {m m' : Mc} (h : RunM c m) (he : pd c m = .ok m') : GoesM c m m' 1 := by
  unfold pd at he
  split at he
  · cases he
  · rename_i v m1 ht
    obtain ⟨f1,f2,f4,f5,f6,f7,f8,f9⟩ := gA h.gm ht
    simp only at he
    split at he
    · cases he
      refine ⟨⟨f1.ok,f1.s,f1.e,f1.d⟩,⟨[],by rw [List.append_nil]; exact f4,by simp⟩,?_⟩
      unfold pT
      have hv : kI m1.pool v = true := wi_iff.2 ⟨f2.1,by have := f2.2; omega⟩
      show (if (2 : Int) = 0 then _ else if (2 : Int) = 1 then _ else if (2 : Int) = 2 then _ else _) = true
      rw [if_neg (by omega),if_neg (by omega),if_pos rfl,hv,f7,h.ask]
      rfl
    · split at he
      · cases he
      · rename_i h1 h5
        have h5 : (nod m1.pool m1.d).kind = 5 := by simpa using h5
        split at he
        · rename_i n s e hf
          obtain ⟨q1,q2,q3⟩ := Bh f1.ok (pt f1.ok f1.d (.inl h5)) hf
          cases he
          have g : GM ⟨m1.pool,n,s,e,(nod m1.pool m1.d).b,m1.state,m1.ask,m1.arg⟩ := ⟨f1.ok,q2 s (by simp),q2 e (by simp),sR f1.ok f1.d h5⟩
          exact ⟨og g f2,⟨[_],by rw [← f4]; rfl,Nat.le_refl _⟩,qz (f6.trans h.st) (f7.trans h.ask) (f8.trans h.arg) q1⟩
        · cases he
theorem qF {q p : List Nd} (hq : aW q = true) (hp : bF p) {v : Int} (hv : InP q v) (d : Int) : bF (fM d q v p).1 ∧ InP (fM d q v p).1 (fM d q v p).2 ∧ ∃ t,(fM d q v p).1 = p ++ t ∧ t.length ≤ q.length := by
  obtain ⟨h1,h2⟩ := xd hq hp [v] d
  have hr : bx q [v] = true := by
    simp only [bx,List.all_cons,List.all_nil,Bool.and_true]
    exact wi_iff.2 ⟨hv.1,by omega⟩
  have hon := jD hr v (by simp)
  obtain ⟨x,hx⟩ := aA (l := q) (i := v.toNat) (by omega)
  obtain ⟨j,hj,hj2⟩ := h2 v.toNat x hx hon
  refine ⟨h1,?_,?_⟩
  · unfold fM
    simp only
    rw [List.getD_eq_getElem?_getD,hj,Option.getD_some]
    have := aK hj2
    exact ⟨by omega,by omega⟩
  · obtain ⟨r,hr⟩ := xk d q (eH q [v]) q.length [] p
    have hl := tp d q (eH q [v]) q.length [] p
    refine ⟨r,hr,?_⟩
    rw [hr] at hl
    simp only [List.length_append] at hl
    omega
theorem mY {c : Cd} (hc : c9 c = true) {k : Nat} {x : In} (hx : c.list[k]? = some x) : oE c x k = true := by
  unfold c9 at hc
  simp only [Bool.and_eq_true] at hc
  have key : ∀ (n i : Nat),jP c i n = true → ∀ j,i ≤ j → j < i + n → ∀ x,c.list[j]? = some x → oE c x j = true := by
    intro n
    induction n with
    | zero => intro i _ j h1 h2; omega
    | succ n ih =>
      intro i h j h1 h2 x hx
      simp only [jP,Bool.and_eq_true] at h
      rcases Nat.lt_or_ge i j with hij | hij
      · exact ih (i + 1) h.2 j hij (by omega) x hx
      · have : j = i := by omega
        subst this
        have h3 := h.1
        rw [hx] at h3
        exact h3
  exact key c.list.length 0 hc.2.2.2.1 k (Nat.zero_le _) (by have := aK hx; omega) x hx
theorem ue {c : Cd} (hc : c9 c = true) {k : Nat} {x : Df} (hx : c.defs[k]? = some x) : D4 c x k = true := by
  unfold c9 at hc
  simp only [Bool.and_eq_true] at hc
  have key : ∀ (n i : Nat),gx c i n = true → ∀ j,i ≤ j → j < i + n → ∀ x,c.defs[j]? = some x → D4 c x j = true := by
    intro n
    induction n with
    | zero => intro i _ j h1 h2; omega
    | succ n ih =>
      intro i h j h1 h2 x hx
      simp only [gx,Bool.and_eq_true] at h
      rcases Nat.lt_or_ge i j with hij | hij
      · exact ih (i + 1) h.2 j hij (by omega) x hx
      · have : j = i := by omega
        subst this
        have h3 := h.1
        rw [hx] at h3
        exact h3
  exact key c.defs.length 0 hc.2.2.2.2 k (Nat.zero_le _) (by have := aK hx; omega) x hx
theorem dA {c : Cd} (hc : c9 c = true) : aW c.pool = true ∧ c.list.length ≤ 400 ∧ c.defs.length ≤ 20 := by
  unfold c9 at hc
  simp only [Bool.and_eq_true,decide_eq_true_eq] at hc
  exact ⟨hc.1,hc.2.1,hc.2.2.1⟩
theorem nt {c : Cd} {m : Mc} {r : Except Int Mc} {next : Int} {m' : Mc} {k : Nat} (hr : ∀ m1,r = .ok m1 → GM m1 ∧ (∃ t,m1.pool = m.pool ++ t ∧ t.length ≤ k) ∧ m1.state = 0 ∧ m1.ask = 0 ∧ m1.arg = 0) (he : goM c r next = .ok m') : GoesM c m m' k := by
  unfold goM at he
  split at he
  · cases he
  · rename_i m1
    obtain ⟨h1,h2,h3,h4,h5⟩ := hr m1 rfl
    split at he
    · rename_i hp
      cases he
      exact ⟨⟨h1.ok,h1.s,h1.e,h1.d⟩,h2,qz h3 h4 h5 hp⟩
    · cases he
theorem PA {m m1 : Mc} (h : GM m) {o i : Int} (he : Ep m o i = .ok m1) : GM m1 ∧ (∃ t,m1.pool = m.pool ++ t ∧ t.length ≤ 1) ∧ m1.state = m.state ∧ m1.ask = m.ask ∧ m1.arg = m.arg := by
  unfold Ep at he
  split at he
  · cases he
  · rename_i fr hfr
    split at he
    · cases he
    · rename_i v hv
      cases he
      exact ⟨og h (s6 h.ok _ _ _ (s6 h.ok _ _ _ h.e hfr) hv),⟨[_],rfl,Nat.le_refl _⟩,rfl,rfl,rfl⟩
theorem uK {c : Cd} {s : ByteArray} (h : 0 ≤ j5 c s) : ∃ d,c.defs[(j5 c s).toNat]? = some d := by
  have hb : j5 c s < (c.defs.length : Int) := by
    unfold j5 ut at h ⊢
    cases hq : c.defs.findIdx? (fun d : Df => aQ d.name s) with
    | none => rw [hq] at h; simp at h
    | some k =>
      rw [List.findIdx?_eq_some_iff_getElem] at hq
      obtain ⟨hk,_⟩ := hq
      simp only; omega
  exact aA (by omega)
theorem O6 {c : Cd} (hc : c9 c = true) {m m1 : Mc} (h : GM m) {s : ByteArray} (he : qc c m s = .ok m1) : GM m1 ∧ (∃ t,m1.pool = m.pool ++ t ∧ t.length ≤ 3) ∧ m1.state = m.state ∧ m1.ask = m.ask ∧ m1.arg = m.arg := by
  obtain ⟨_,c2,_⟩ := dA hc
  unfold qc at he
  split at he
  · rename_i hd
    obtain ⟨d,hdg⟩ := uK hd
    have hok := ue hc hdg
    unfold D4 at hok
    simp only [Bool.and_eq_true] at hok
    have a1 := wi_iff.1 hok.2.2.1
    have a2 := wi_iff.1 hok.2.2.2
    simp only [List.getD_eq_getElem?_getD,hdg,Option.getD_some,Except.ok.injEq] at he
    subst he
    have o1 := bL h.ok (DQ (m.pool.length : Int))
    have o2 := bL o1 (Lb (k := 8 * d.at' + d.args) (a := (m.pool.length : Int)) (n := (m.pool ++ [ndN]).length) (by omega) ⟨by omega,by simp only [List.length_append,List.length_cons,List.length_nil]; omega⟩)
    have g : GM ⟨m.pool ++ [ndN] ++ [ndF (8 * d.at' + d.args) m.pool.length],m.at',m.s,m.e,m.d,m.state,m.ask,m.arg⟩ := ⟨o2,bc _ (bc _ h.s),bc _ (bc _ h.e),bc _ (bc _ h.d)⟩
    refine ⟨og g ⟨by omega,by simp only [List.length_append,List.length_cons,List.length_nil]; omega⟩,⟨_,by show _ ++ _ ++ _ ++ _ = _; rw [List.append_assoc,List.append_assoc],by simp⟩,rfl,rfl,rfl⟩
  · split at he
    · cases he
    · simp only [Except.ok.injEq] at he
      subst he
      have hb := o8 s
      have o1 := bL h.ok (PF (k := gt s) (h := (m.pool.length : Int)) (by omega))
      have g : GM ⟨m.pool ++ [ndR (gt s)],m.at',m.s,m.e,m.d,m.state,m.ask,m.arg⟩ := ⟨o1,bc _ h.s,bc _ h.e,bc _ h.d⟩
      exact ⟨og g (du _ _),⟨_,by show _ ++ _ ++ _ = _; rw [List.append_assoc],by simp⟩,rfl,rfl,rfl⟩
theorem yK {c : Cd} {x : In} {k : Int} (h : oE c x k = true) (h1 : x.op = 1) : InP c.pool x.n := by
  unfold oE at h
  rw [if_pos h1] at h
  simp only [Bool.and_eq_true] at h
  have := wi_iff.1 h.1
  exact ⟨this.1,by omega⟩
theorem Ie {c : Cd} {x : In} {k : Int} (h : oE c x k = true) (h1 : x.op = 2) : (0 ≤ x.n ∧ x.n ≤ 20) ∧ 0 ≤ x.i ∧ x.i ≤ 3 := by
  unfold oE at h
  rw [if_neg (by omega),if_pos h1] at h
  simp only [Bool.and_eq_true] at h
  exact ⟨wi_iff.1 h.1,wi_iff.1 h.2.1⟩
theorem xN {c : Cd} {x : In} {k : Int} (h : oE c x k = true) (h1 : x.op = 6) : (k + 1 ≤ x.n ∧ x.n ≤ (c.list.length : Int) - 1) ∧ 0 ≤ x.i ∧ x.i ≤ 4 := by
  unfold oE at h
  rw [if_neg (by omega),if_neg (by omega),if_neg (by omega),if_neg (by omega),if_pos h1] at h
  simp only [Bool.and_eq_true] at h
  exact ⟨wi_iff.1 h.1,wi_iff.1 h.2.1⟩
theorem uG {c : Cd} {x : In} {k : Int} (h : oE c x k = true) (h1 : x.op = 7) : 0 ≤ x.i ∧ x.i ≤ 4 := by
  unfold oE at h
  rw [if_neg (by omega),if_neg (by omega),if_neg (by omega),if_neg (by omega),if_neg (by omega),if_pos h1] at h
  simp only [Bool.and_eq_true] at h
  exact wi_iff.1 h.2.1
theorem GG {c : Cd} (hc : c9 c = true) {m m' : Mc} (h : RunM c m) {x : In} {k : Nat} (hx : c.list[k]? = some x) (he : lr c m x = .ok m') : GoesM c m m' (c.pool.length + 3) := by
  have hok := mY hc hx
  have hk := aK hx
  obtain ⟨c1,c2,_⟩ := dA hc
  unfold lr at he
  split at he
  · rename_i h1
    have hlit := yK hok h1
    obtain ⟨f1,f2,t,f3,f4⟩ := qF c1 h.gm.ok hlit (-1)
    refine nt (fun m1 e => ?_) he
    cases e
    have up : ∀ {v : Int},InP m.pool v → InP (fM (-1) c.pool x.n m.pool).1 v := fun hv => by rw [f3]; exact bc _ hv
    have g : GM ⟨(fM (-1) c.pool x.n m.pool).1,m.at',m.s,m.e,m.d,m.state,m.ask,m.arg⟩ := ⟨f1,up h.gm.s,up h.gm.e,up h.gm.d⟩
    refine ⟨og g f2,⟨t ++ [_],by show (fM (-1) c.pool x.n m.pool).1 ++ _ = _; rw [f3,List.append_assoc],by simp; omega⟩,h.st,h.ask,h.arg⟩
  split at he
  · refine nt (fun m1 e => ?_) he
    obtain ⟨g1,⟨t,g2,g3⟩,g4,g5,g6⟩ := PA h.gm e
    exact ⟨g1,⟨t,g2,by omega⟩,g4.trans h.st,g5.trans h.ask,g6.trans h.arg⟩
  split at he
  · refine nt (fun m1 e => ?_) he
    obtain ⟨g1,⟨t,g2,g3⟩,g4,g5,g6⟩ := O6 hc h.gm e
    exact ⟨g1,⟨t,g2,by omega⟩,g4.trans h.st,g5.trans h.ask,g6.trans h.arg⟩
  split at he
  · refine nt (fun m1 e => ?_) he
    cases e
    exact ⟨h.gm,⟨[],by simp,by simp⟩,h.st,h.ask,h.arg⟩
  split at he
  · rename_i h6
    have hf := xN hok h6
    refine nt (fun m1 e => ?_) he
    cases e
    have o1 := bL h.gm.ok (Lb (k := 8 * x.n + x.i) (n := m.pool.length) (by omega) h.gm.e)
    have g : GM ⟨m.pool ++ [ndF (8 * x.n + x.i) m.e],m.at',m.s,m.e,m.d,m.state,m.ask,m.arg⟩ := ⟨o1,bc _ h.gm.s,bc _ h.gm.e,bc _ h.gm.d⟩
    exact ⟨og g (du _ _),⟨_,by show _ ++ _ ++ _ = _; rw [List.append_assoc],by simp⟩,h.st,h.ask,h.arg⟩
  · split at he
    · cases he
    · rename_i v m1 ht
      obtain ⟨f1,f2,f4,f5,f6,f7,f8,f9⟩ := gA h.gm ht
      refine nt (fun m2 e => ?_) he
      cases e
      exact ⟨f1,⟨[],by simp [f4],by simp⟩,f6.trans h.st,f7.trans h.ask,f8.trans h.arg⟩
theorem pJ {c : Cd} {m : Mc} (h : gu c m = true) (h0 : m.state = 0) : RunM c m ∧ c9 c = true ∧ m.pool.length ≤ 3000 := by
  unfold gu at h
  simp only [Bool.and_eq_true] at h
  obtain ⟨h1,h2,h3,h4,h5,h6⟩ := h
  obtain ⟨p1,p2⟩ := okPool_iff.1 h2
  have a3 := wi_iff.1 h3
  have a4 := wi_iff.1 h4
  have a5 := wi_iff.1 h5
  unfold pT at h6
  rw [if_pos h0] at h6
  simp only [Bool.and_eq_true,beq_iff_eq] at h6
  exact ⟨⟨⟨p1,⟨a3.1,by omega⟩,⟨a4.1,by omega⟩,⟨a5.1,by omega⟩⟩,h0,h6.2.1,h6.2.2,h6.1⟩,h1,p2⟩
theorem Ce {c : Cd} {m : Mc} (h : RunM c m) : ∃ x,c.list[m.at'.toNat]? = some x := by
  have := isPl_iff.1 h.pl
  exact aA (by omega)
theorem xT {c : Cd} (hc : c9 c = true) {m m' : Mc} (h : RunM c m) (he : doM c m = .ok m') : GoesM c m m' (c.pool.length + 34) := by
  obtain ⟨x,hx⟩ := Ce h
  have hok := mY hc hx
  obtain ⟨c1,c2,_⟩ := dA hc
  unfold doM at he
  simp only [List.getD_eq_getElem?_getD,hx,Option.getD_some] at he
  split at he
  · rename_i h7
    have := uG hok h7
    obtain ⟨t,⟨g1,⟨q,g2,g3⟩,g4⟩,g5⟩ := zG c2 h (k := x.i.toNat) (by omega) he
    exact ⟨g1,⟨q,g2,by omega⟩,g4⟩
  split at he
  · obtain ⟨g1,⟨q,g2,g3⟩,g4⟩ := Jp h he
    exact ⟨g1,⟨q,g2,by omega⟩,g4⟩
  · obtain ⟨g1,⟨q,g2,g3⟩,g4⟩ := GG hc h hx he
    exact ⟨g1,⟨q,g2,by omega⟩,g4⟩
theorem Lu {c : Cd} {m : Mc} (hc : c9 c = true) (hp : bF m.pool) (hl : m.pool.length ≤ 3000) (hs : InP m.pool m.s) (he : InP m.pool m.e) (hd : InP m.pool m.d) (ht : pT c m = true) : gu c m = true := by
  unfold gu
  have h1 : aW m.pool = true := okPool_iff.2 ⟨hp,hl⟩
  have h2 : kI m.pool m.s = true := wi_iff.2 ⟨hs.1,by omega⟩
  have h3 : kI m.pool m.e = true := wi_iff.2 ⟨he.1,by omega⟩
  have h4 : kI m.pool m.d = true := wi_iff.2 ⟨hd.1,by omega⟩
  rw [hc,h1,h2,h3,h4,ht]
  rfl
theorem nN {c : Cd} {m : Mc} (h : gu c m = true) : c9 c = true ∧ bF m.pool ∧ m.pool.length ≤ 3000 ∧ InP m.pool m.s ∧ InP m.pool m.e ∧ InP m.pool m.d ∧ pT c m = true := by
  unfold gu at h
  simp only [Bool.and_eq_true] at h
  obtain ⟨h1,h2,h3,h4,h5,h6⟩ := h
  obtain ⟨p1,p2⟩ := okPool_iff.1 h2
  have a3 := wi_iff.1 h3
  have a4 := wi_iff.1 h4
  have a5 := wi_iff.1 h5
  exact ⟨h1,p1,p2,⟨a3.1,by omega⟩,⟨a4.1,by omega⟩,⟨a5.1,by omega⟩,h6⟩
theorem Ge {c : Cd} {m : Mc} (h : gu c m = true) {k : Int} (hk : 1 ≤ k ∧ k ≤ 7) : gu c (AF m k) = true := by
  obtain ⟨h1,h2,h3,h4,h5,h6,_⟩ := nN h
  refine Lu h1 h2 h3 h4 h5 h6 ?_
  unfold pT AF
  simp only
  rw [if_neg (by omega),if_neg (by omega),if_neg (by omega),wi_iff.2 hk]
  rfl
end Go.Eng
/-! a step of a machine: the program's side: calls -/
namespace Go.Eng
open Go.Proofs Go.Proofs.Tryz
set_option maxHeartbeats 4000000

theorem QK {R : Type} (x : Df) (K : ByteArray → Int → Int → Option R) : wk (eDf x) (fun n4 n7 n10 => (K n4 n7 n10)) = K x.name x.at' x.args := rfl
theorem pc {α : Type} {f : α → D} {l : List α} {k : Int} (h : (l.length : Int) = k) : ni (l.map f).length = k := by rw [List.length_map]; exact h
theorem A9 {α : Type} {f : α → D} {l : List α} {k : Int} (h : ¬ (l.length : Int) = k) : ¬ ni (l.map f).length = k := by rw [List.length_map]; exact h
theorem jc {c : Cd} (hc : c.list.length ≤ 400) (n : Int) : V 57 [eCd c,.int .i64 n] = some (.bool (dt c n),[]) := Bj (by omega) n
theorem Ez {c : Cd} (hf : FitsC c) (hc : c9 c = true) {m : Mc} (hl : m.pool.length < 4294967200) (s : ByteArray) : sx c (V 187 [eSt c m,.str s]) (qc c m s) := by
  have hd := tl hf s
  have c2 := (dA hc).2.1
  rw [pu,JZ hd]
  unfold qc
  by_cases h0 : 0 ≤ j5 c s
  · obtain ⟨d,hg⟩ := uK h0
    have hok := ue hc hg
    unfold D4 at hok
    simp only [Bool.and_eq_true] at hok
    have a1 := wi_iff.1 hok.2.2.1
    have a2 := wi_iff.1 hok.2.2.2
    have hlt := aK hg
    have h1 := lm (p := m.pool) (by omega) ndN
    have h2 := lm (p := m.pool ++ [ndN]) (by simp; omega) (ndF (8 * d.at' + d.args) m.pool.length)
    have h3 := jQ (c := c) (m := ⟨m.pool ++ [ndN] ++ [ndF (8 * d.at' + d.args) m.pool.length],m.at',m.s,m.e,m.d,m.state,m.ask,m.arg⟩) (by simp; omega) (m.pool.length + 1)
    have e1 : IntKind.wrap .i64 (IntKind.wrap .i64 (8 * d.at') + d.args) = 8 * d.at' + d.args := by rw [w64 (n := 8 * d.at') (by omega) (by omega),w64 (by omega) (by omega)]
    have e2 : ((m.pool ++ [ndN]).length : Int) = m.pool.length + 1 := by simp
    rw [e2] at h2
    rw [if_pos h0,ap (decide_eq_true h0),av (by rw [List.length_map]; simp only [ni,Bool.and_eq_true,decide_eq_true_eq]; omega),al hg,QK]
    simp only [List.getD_eq_getElem?_getD,hg,Option.getD_some]
    show _ = _
    rw [cj h1,e1,cj h2,dg h3]
  · rw [if_neg h0,ah (decide_eq_false h0)]
    have hp := y8 s
    have hb := o8 s
    rw [Fp hp]
    by_cases hz : gt s = 0
    · rw [if_pos hz,ap (aJ hz)]
      exact ⟨by decide,m,rfl⟩
    · have h1 := lm (p := m.pool) (by omega) (ndR (gt s))
      have h3 := jQ (c := c) (m := ⟨m.pool ++ [ndR (gt s)],m.at',m.s,m.e,m.d,m.state,m.ask,m.arg⟩) (by simp; omega) m.pool.length
      rw [if_neg hz,ah (az hz),cj h1,dg h3]
      rfl
theorem JN {c : Cd} (hc : c.list.length ≤ 400) {m : Mc} (hl : m.pool.length < 4294967200) (ha : dt c m.at' = true) {f : Nd} (hf : 0 ≤ f.n ∧ f.n ≤ 1000000000) {l : List Int} (hll : l.length ≤ 10) : sx c (V 204 [eSt c m,eN f,.rs (1,0) (l.map eI)]) (oG c m f l) := by
  have hpl := isPl_iff.1 ha
  have t1 : Int.tmod f.n 8 = f.n % 8 := Int.tmod_eq_emod_of_nonneg hf.1
  have t2 : Int.tdiv f.n 8 = f.n / 8 := Int.tdiv_eq_ediv_of_nonneg hf.1
  rw [q9,av (by decide),t1,t2]
  unfold oG
  by_cases h1 : f.n % 8 = (l.length : Int)
  · rw [if_neg (by omega),ah (cq (by rw [pc rfl]; exact h1)),av (by decide),w64 (n := f.n / 8) (by omega) (by omega),ck (jc hc _)]
    cases h2 : dt c (f.n / 8) with
    | false => rw [if_pos rfl]; exact ⟨by decide,m,rfl⟩
    | true =>
      rw [if_neg (by simp),Bool.not_true,ae,w64 (n := m.at' + 1) (by omega) (by omega)]
      have a1 := lm (p := m.pool) (by omega) (ndI (m.at' + 1))
      have l1 := kw (m.pool ++ [ndI (m.at' + 1)]) [(m.pool.length : Int),m.s,m.e]
      simp only [List.length_append,List.length_cons,List.length_nil] at l1
      have a2 : V 222 [rP (m.pool ++ [ndI (m.at' + 1)]),.rs (1,0) [.int .i64 (m.pool.length : Int),.int .i64 m.s,.int .i64 m.e]] = _ := Dt (q := m.pool ++ [ndI (m.at' + 1)]) (row := [(m.pool.length : Int),m.s,m.e]) (by simp only [List.length_append,List.length_cons,List.length_nil]; omega)
      have a3 := Dl (q := (aP (m.pool ++ [ndI (m.at' + 1)]) [(m.pool.length : Int),m.s,m.e]).1) (by omega) (aP (m.pool ++ [ndI (m.at' + 1)]) [(m.pool.length : Int),m.s,m.e]).2 m.d
      rw [cj a1,kh a2,j8 a3]
      generalize hB : aP (m.pool ++ [ndI (m.at' + 1)]) [(m.pool.length : Int),m.s,m.e] = B at l1 ⊢
      have l2 := kw (B.1 ++ [ndP B.2 m.d]) l
      simp only [List.length_append,List.length_cons,List.length_nil] at l2
      have a4 := Dt (q := B.1 ++ [ndP B.2 m.d]) (row := l) (by simp only [List.length_append,List.length_cons,List.length_nil]; omega)
      have a5 := Dl (q := (aP (B.1 ++ [ndP B.2 m.d]) l).1) (by omega) (aP (B.1 ++ [ndP B.2 m.d]) l).2 f.a
      have a6 := lm (p := (aP (B.1 ++ [ndP B.2 m.d]) l).1 ++ [ndP (aP (B.1 ++ [ndP B.2 m.d]) l).2 f.a]) (by simp only [List.length_append,List.length_cons,List.length_nil]; omega) ndN
      have e6 : (((aP (B.1 ++ [ndP B.2 m.d]) l).1 ++ [ndP (aP (B.1 ++ [ndP B.2 m.d]) l).2 f.a]).length : Int) = (aP (B.1 ++ [ndP B.2 m.d]) l).1.length + 1 := by simp
      rw [e6] at a6
      rw [kh a4,j8 a5,cj a6,av (by decide)]
      rfl
  · rw [if_pos h1,ap (c7 (by rw [pc rfl]; exact h1))]
    exact ⟨by decide,m,rfl⟩
theorem xb {c : Cd} {p : List Nd} {v : Int} {many : Nat} {xs : List Int} {b : Bool} (h : ke p v = (xs,b)) (hm : 0 < many) : nJ c p v many = if b = true ∧ xs.length = many ∧ (nod p (xs.getD 0 0)).kind = 3 ∧ dt c (nod p (xs.getD 0 0)).n = true then some ((nod p (xs.getD 0 0)).n,xs.drop 1) else none := by
  unfold nJ
  rw [h]
  cases b with
  | false => rw [if_neg (fun h => by simp at h)]; cases xs <;> rfl
  | true =>
    cases xs with
    | nil => rw [if_neg (fun h => by have := h.2.1; simp at this; omega)]
    | cons a r =>
      simp only [List.length_cons,List.getD_cons_zero,true_and,List.drop_one,List.tail_cons]
theorem EH {c : Cd} (hc : c.list.length ≤ 400) {m : Mc} (hp : bF m.pool) (hl : m.pool.length < 2147483648) {st : Int} (hs : InP m.pool st) {l : List Int} (hll : l.length ≤ 10) : sx c (V 206 [eSt c m,.int .i64 st,.rs (1,0) (l.map eI)]) (DP c m st l) := by
  have hlst := Fi hp hl hs
  have hin := wB hp hs
  rw [qg]
  unfold DP
  by_cases h1 : l.length = 1
  · rw [if_neg (by omega),ah (cq (pc (by omega))),qJ hlst]
    obtain ⟨v,rfl⟩ : ∃ v,l = [v] := by
      match l,h1 with
      | [v],_ => exact ⟨v,rfl⟩
      | [],h => simp at h
      | _ :: _ :: _,h => simp at h
    rcases hq : ke m.pool st with ⟨xs,b⟩
    have hfr := xb (c := c) hq (many := 4) (by omega)
    rw [hq] at hin
    have none : ∀ {X : Option Ret},¬ (b = true ∧ xs.length = 4 ∧ (nod m.pool (xs.getD 0 0)).kind = 3 ∧ dt c (nod m.pool (xs.getD 0 0)).n = true) → X = some (.int .i64 7,[eSt c m]) → sx c X (match nJ c m.pool st 4 with
        | some (n,[s,e,d]) => .ok (sG ⟨m.pool,n,s,e,d,m.state,m.ask,m.arg⟩ ([v].getD 0 0))
        | _ => .error 7) := by
      intro X hn hX
      rw [hfr,if_neg hn]
      exact ⟨by decide,m,hX⟩
    cases b with
    | false => exact none (fun h => by simp at h) rfl
    | true =>
      rw [Bool.not_true,ae]
      by_cases h4 : xs.length = 4
      · obtain ⟨a,s,e,d,rfl⟩ : ∃ a s e d,xs = [a,s,e,d] := by
          match xs,h4 with
          | [a,s,e,d],_ => exact ⟨a,s,e,d,rfl⟩
          | [],h => simp at h
          | [_],h => simp at h
          | [_,_],h => simp at h
          | [_,_,_],h => simp at h
          | _ :: _ :: _ :: _ :: _ :: _,h => simp at h
        have ha := hin a (by simp)
        rw [ah (cq (pc (k := 4) rfl)),di,sA ha]
        by_cases h3 : (nod m.pool a).kind = 3
        · rw [ah (cq h3),di,Mf ha,ck (jc hc _)]
          cases h5 : dt c (nod m.pool a).n with
          | false => exact none (fun h => by have := h.2.2.2; simp only [List.getD_cons_zero,h5] at this; cases this) rfl
          | true =>
            have a3 := jQ (c := c) (m := ⟨m.pool,(nod m.pool a).n,s,e,d,m.state,m.ask,m.arg⟩) (by show m.pool.length < _; omega) v
            rw [hfr,if_pos ⟨rfl,rfl,h3,h5⟩,Bool.not_true,ae,di,Mf ha,j0,CW,Qr,di,dg a3]
            rfl
        · rw [ap (c7 h3)]
          exact none (fun h => h3 h.2.2.1) rfl
      · rw [ap (c7 (A9 (l := xs) (k := 4) (fun h => h4 (by omega))))]
        exact none (fun h => h4 h.2.1) rfl
  · rw [if_pos h1,ap (c7 (A9 (l := l) (k := 1) (fun h => h1 (by omega))))]
    exact ⟨by decide,m,rfl⟩
theorem jw {c : Cd} {X : Option Ret} {m : Mc} (h : sx c X (.ok m)) : X = some (.int .i64 0,[eSt c m]) := h
theorem gy {c : Cd} {X : Option Ret} {h : Int} (e : sx c X (.error h)) : h ≠ 0 ∧ ∃ m',X = some (.int .i64 h,[eSt c m']) := e
theorem z5 {c : Cd} (hc : c.list.length ≤ 400) : ∀ (k : Nat) {m : Mc} {f : Int} {l : List Int},RunM c m → dt c (m.at' + 1) = true → m.pool.length + 100 * k < 2147483600 → InP m.pool f → (∀ v ∈ l,InP m.pool v) → l.length ≤ 4 → ((nod m.pool f).n = 11 → l.length = 2 → aW m.pool = true) → gT c k m f l ≠ .error 0 →
    sx c (V 184 [eSt c m,.int .i64 f,.rs (1,0) (l.map eI)]) (gT c k m f l)
  | 0,m,f,l,h,hnx,hl,hf,hv,h4,h11,h0 => absurd rfl h0
  | k + 1,m,f,l,h,hnx,hl,hf,hv,h4,h11,h0 => by
    have hok := lb h.gm.ok hf
    have hpl := isPl_iff.1 h.pl
    rw [sq,jd hf]
    unfold gT at h0 ⊢
    simp only at h0 ⊢
    by_cases h6 : (nod m.pool f).kind = 6
    · rw [if_pos h6,ap (aJ h6)]
      have hfn : 0 ≤ (nod m.pool f).n ∧ (nod m.pool f).n ≤ 1000000000 := by
        simp [okN,h6] at hok
        exact wi_iff.1 hok.1
      have he := JN hc (m := m) (by omega) h.pl (f := nod m.pool f) hfn (l := l) (by omega)
      cases hr : oG c m (nod m.pool f) l with
      | ok m' => rw [hr] at he; rw [m9 (jw he)]; rfl
      | error q =>
        rw [hr] at he
        obtain ⟨q0,m',hx⟩ := gy he
        rw [m9 hx]
        exact ⟨q0,m',rfl⟩
    rw [if_neg h6] at h0 ⊢
    rw [ah (az h6)]
    by_cases h8 : (nod m.pool f).kind = 8
    · rw [if_pos h8] at h0 ⊢
      rw [ap (aJ h8)]
      -- what is built in
      have prim : sx c (V 205 [eSt c m,.int .i64 (nod m.pool f).n,.rs (1,0) (l.map eI)]) (if bl (nod m.pool f).n ≠ (l.length : Int) then .error 2
          else if (nod m.pool f).n = 18 then
            gT c k ⟨(aP (m.pool ++ [ndI (m.at' + 1)]) [(m.pool.length : Int),m.s,m.e,m.d]).1 ++ [ndK (aP (m.pool ++ [ndI (m.at' + 1)]) [(m.pool.length : Int),m.s,m.e,m.d]).2],m.at',m.s,m.e,m.d,m.state,m.ask,m.arg⟩ (l.getD 0 0) [((aP (m.pool ++ [ndI (m.at' + 1)]) [(m.pool.length : Int),m.s,m.e,m.d]).1.length : Int)]
          else if (nod m.pool f).n > 12 then
            .ok ⟨(aP m.pool l).1,m.at',m.s,m.e,m.d,1,(nod m.pool f).n,(aP m.pool l).2⟩
          else match pg m.pool (nod m.pool f).n l with
            | .error h => .error (h + 1)
            | .ok (p,v) => .ok ⟨p ++ [ndP v m.s],m.at' + 1,p.length,m.e,m.d,m.state,m.ask,m.arg⟩) := by
        rw [na,zH ws]
        by_cases hargs : bl (nod m.pool f).n = (l.length : Int)
        · have hargs' : ¬ bl (nod m.pool f).n ≠ (l.length : Int) := fun h => h hargs
          obtain ⟨n1,n19,l2⟩ := fH hargs
          rw [if_neg hargs'] at h0 ⊢
          rw [ah (cq (by rw [pc rfl]; exact hargs))]
          by_cases h18 : (nod m.pool f).n = 18
          · rw [if_pos h18] at h0 ⊢
            rw [ap (aJ h18),w64 (n := m.at' + 1) (by omega) (by omega)]
            obtain ⟨v,rfl⟩ : ∃ v,l = [v] := by
              rw [h18] at hargs
              match l,hargs with
              | [v],_ => exact ⟨v,rfl⟩
              | [],h => cases h
              | _ :: _ :: r,h => simp only [List.length_cons] at h; have : bl 18 = 1 := rfl; omega
            have a1 := lm (p := m.pool) (by omega) (ndI (m.at' + 1))
            have l1 := kw (m.pool ++ [ndI (m.at' + 1)]) [(m.pool.length : Int),m.s,m.e,m.d]
            simp only [List.length_append,List.length_cons,List.length_nil] at l1
            have a2 : V 222 [rP (m.pool ++ [ndI (m.at' + 1)]),.rs (1,0) [.int .i64 (m.pool.length : Int),.int .i64 m.s,.int .i64 m.e,.int .i64 m.d]] = _ := Dt (q := m.pool ++ [ndI (m.at' + 1)]) (row := [(m.pool.length : Int),m.s,m.e,m.d]) (by simp only [List.length_append,List.length_cons,List.length_nil]; omega)
            have o1 : bF (m.pool ++ [ndI (m.at' + 1)]) := bL h.gm.ok (wD (by omega))
            obtain ⟨b1,⟨t,b2,b3⟩,b4⟩ := gZ (row := [(m.pool.length : Int),m.s,m.e,m.d]) o1 (fun v hv => by
              simp only [List.mem_cons,List.not_mem_nil,or_false] at hv
              rcases hv with rfl | rfl | rfl | rfl
              · exact du _ _
              · exact bc _ h.gm.s
              · exact bc _ h.gm.e
              · exact bc _ h.gm.d)
            have e1 : (aP (m.pool ++ [ndI (m.at' + 1)]) [(m.pool.length : Int),m.s,m.e,m.d]).1 = m.pool ++ (ndI (m.at' + 1) :: t) := by rw [b2]; simp
            have up : ∀ {v : Int},InP m.pool v → InP ((aP (m.pool ++ [ndI (m.at' + 1)]) [(m.pool.length : Int),m.s,m.e,m.d]).1 ++ [ndK ((aP (m.pool ++ [ndI (m.at' + 1)]) [(m.pool.length : Int),m.s,m.e,m.d]).2 : Int)]) v := fun hv => bc _ (by rw [e1]; exact bc _ hv)
            have g2 : RunM c ⟨(aP (m.pool ++ [ndI (m.at' + 1)]) [(m.pool.length : Int),m.s,m.e,m.d]).1 ++ [ndK ((aP (m.pool ++ [ndI (m.at' + 1)]) [(m.pool.length : Int),m.s,m.e,m.d]).2 : Int)],m.at',m.s,m.e,m.d,m.state,m.ask,m.arg⟩ :=
              ⟨⟨bL b1 (CG b4),up h.gm.s,up h.gm.e,up h.gm.d⟩,h.st,h.ask,h.arg,h.pl⟩
            rw [cj a1,kh a2]
            generalize hB : aP (m.pool ++ [ndI (m.at' + 1)]) [(m.pool.length : Int),m.s,m.e,m.d] = B at l1 b1 b2 b4 e1 up g2 h0 ⊢
            have a3 := lm (p := B.1) (by omega) (ndK (B.2 : Int))
            have a4 := z5 hc k g2 hnx (by show (B.1 ++ [ndK (B.2 : Int)]).length + 100 * k < _; simp only [List.length_append,List.length_cons,List.length_nil]; omega) (up (hv v (by simp))) (l := [(B.1.length : Int)]) (fun u hu => by
              simp only [List.mem_singleton] at hu; subst hu; exact du _ _) (by simp) (fun _ h => by simp at h) h0
            rw [cj a3,di]
            simp only [List.getD_cons_zero] at a4 ⊢
            simp only [List.map_cons,List.map_nil] at a4
            cases hr : gT c k ⟨B.1 ++ [ndK (B.2 : Int)],m.at',m.s,m.e,m.d,m.state,m.ask,m.arg⟩ v [(B.1.length : Int)] with
            | ok m' => rw [hr] at a4; rw [gG (jw a4)]; rfl
            | error q =>
              rw [hr] at a4
              obtain ⟨q0,m',hx⟩ := gy a4
              rw [gG hx]
              exact ⟨q0,m',rfl⟩
          rw [if_neg h18] at h0 ⊢
          rw [ah (az h18)]
          by_cases h12 : (nod m.pool f).n > 12
          · rw [if_pos h12,ap (decide_eq_true h12)]
            have a1 := Dt (q := m.pool) (row := l) (by omega)
            rw [kh a1]
            rfl
          rw [if_neg h12,ah (decide_eq_false h12)]
          have hp := IK h.gm.ok (by omega) (n := (nod m.pool f).n) hv (by omega) hargs.symm (fun e => h11 e (by
            rw [e] at hargs
            have : bl 11 = 2 := rfl
            omega))
          cases hr : pg m.pool (nod m.pool f).n l with
          | error q =>
            rw [hr] at hp
            rw [tQ hp]
            have hq : q = 3 ∨ q = 4 := by
              rw [mJ (by omega) hargs.symm] at hr
              split at hr
              · split at hr
                · cases hr
                · split at hr
                  · cases hr
                  · split at hr
                    · cases hr
                    · cases hr; exact .inr rfl
              · cases hr; exact .inl rfl
            rcases hq with rfl | rfl
            · exact ⟨by decide,m,rfl⟩
            · exact ⟨by decide,m,rfl⟩
          | ok r =>
            obtain ⟨p,v⟩ := r
            rw [hr] at hp
            obtain ⟨q1,q2,t,q3,q4⟩ := xE h.gm.ok hv (by omega) hargs.symm hr
            have hpl' : p.length < 4294967296 := by rw [q3]; simp only [List.length_append]; omega
            have a3 := jQ (c := c) (m := ⟨p,m.at',m.s,m.e,m.d,m.state,m.ask,m.arg⟩) hpl' v
            rw [tQ hp,ah (az (by omega)),ah (az (by omega)),dg a3]
            show some (D.int .i64 0,[D.op [_,.int .i64 (IntKind.wrap .i64 (m.at' + 1)),_,_,_,_,_,_,_,_,_]]) = _
            rw [w64 (by omega) (by omega)]
            rfl
        · rw [if_pos hargs,ap (c7 (by rw [pc rfl]; exact hargs))]
          exact ⟨by decide,m,rfl⟩
      revert prim h0
      generalize (if bl (nod m.pool f).n ≠ (l.length : Int) then (.error 2 : Except Int Mc) else _) = r
      intro h0 prim
      cases r with
      | ok m' => rw [jy (jw prim)]; rfl
      | error q =>
        obtain ⟨q0,m',hx⟩ := gy prim
        rw [jy hx]
        exact ⟨q0,m',rfl⟩
    rw [if_neg h8,ah (az h8)]
    by_cases h7 : (nod m.pool f).kind = 7
    · rw [if_pos h7,ap (aJ h7)]
      have he := EH hc h.gm.ok (by omega) (pt h.gm.ok hf (.inr (.inr h7))) (l := l) (by omega)
      cases hr : DP c m (nod m.pool f).a l with
      | ok m' => rw [hr] at he; rw [lT (jw he)]; rfl
      | error q =>
        rw [hr] at he
        obtain ⟨q0,m',hx⟩ := gy he
        rw [lT hx]
        exact ⟨q0,m',rfl⟩
    · rw [if_neg h7,ah (az h7)]
      exact ⟨by decide,m,rfl⟩
end Go.Eng
/-! a step of a machine: the program's side: whole -/
namespace Go.Eng
open Go.Proofs Go.Proofs.Tryz
set_option maxHeartbeats 4000000

theorem yv : ∀ (r : List Int) (q : List Nd) (c : Nat),∃ t,(eJ r q c).1 = q ++ t
  | [],q,c => ⟨[],by simp [eJ]⟩
  | x :: r,q,c => by
    obtain ⟨t,h⟩ := yv r (q ++ [ndP x c]) q.length
    exact ⟨ndP x c :: t,by rw [eJ,h]; simp⟩
theorem MI (q : List Nd) (row : List Int) : ∃ t,(aP q row).1 = q ++ t := by
  obtain ⟨t,h⟩ := yv row.reverse (q ++ [ndN]) q.length
  exact ⟨ndN :: t,by unfold aP; rw [h]; simp⟩
theorem NE (p : List Nd) (x : Nd) : nod (p ++ [x]) (p.length : Int) = x := by simp [nod]
theorem tk {c : Cd} : ∀ (k : Nat) {m : Mc} {f : Int} {l : List Int},(∀ v ∈ l,InP m.pool v) → (3 ≤ k ∨ (2 ≤ k ∧ (nod m.pool (l.getD 0 0)).kind = 7) ∨ (1 ≤ k ∧ (nod m.pool f).kind = 7)) → gT c k m f l ≠ .error 0
  | 0,m,f,l,hv,hk => by omega
  | k + 1,m,f,l,hv,hk => by
    unfold gT
    simp only
    split
    · unfold oG
      split
      · intro h; cases h
      · split
        · intro h; cases h
        · intro h; cases h
    split
    · rename_i h6 h8
      split
      · intro h; cases h
      rename_i hargs
      split
      · rename_i h18
        obtain ⟨v,r,rfl⟩ : ∃ v r,l = v :: r := by
          cases l with
          | nil => exact absurd (by rw [h18]; decide) hargs
          | cons v r => exact ⟨v,r,rfl⟩
        obtain ⟨t,ht⟩ := MI (m.pool ++ [ndI (m.at' + 1)]) [(m.pool.length : Int),m.s,m.e,m.d]
        have e1 : (aP (m.pool ++ [ndI (m.at' + 1)]) [(m.pool.length : Int),m.s,m.e,m.d]).1 = m.pool ++ (ndI (m.at' + 1) :: t) := by rw [ht]; simp
        have hv0 := hv v (by simp)
        have up : nod ((aP (m.pool ++ [ndI (m.at' + 1)]) [(m.pool.length : Int),m.s,m.e,m.d]).1 ++ [ndK ((aP (m.pool ++ [ndI (m.at' + 1)]) [(m.pool.length : Int),m.s,m.e,m.d]).2 : Int)]) v = nod m.pool v := by
          rw [e1,List.append_assoc,Pz hv0]
        refine tk k (fun u hu => ?_) ?_
        · simp only [List.mem_singleton] at hu; subst hu
          exact du _ _
        · rcases hk with hk | ⟨hk,h7⟩ | ⟨hk,h7⟩
          · refine .inr (.inl ⟨by omega,?_⟩)
            simp only [List.getD_cons_zero]
            rw [NE]
          · refine .inr (.inr ⟨by omega,?_⟩)
            simp only [List.getD_cons_zero] at h7 ⊢
            rw [up,h7]
          · omega
      split
      · intro h; cases h
      split
      · rename_i q hq
        intro h
        have hz : q + 1 = 0 := by injection h
        obtain ⟨n1,n19,l2⟩ := fH (n := (nod m.pool f).n) (k := l.length) (by simpa using hargs)
        rw [mJ (by omega) (by simpa using (Eq.symm (by simpa using hargs : bl (nod m.pool f).n = (l.length : Int))))] at hq
        split at hq
        · split at hq
          · cases hq
          · split at hq
            · cases hq
            · split at hq
              · cases hq
              · cases hq; omega
        · cases hq; omega
      · intro h; cases h
    split
    · unfold DP
      split
      · intro h; cases h
      · split <;> (intro h; cases h)
    · intro h; cases h
theorem Ai {c : Cd} : ∀ (k : Nat) {m : Mc} {f : Int} {l : List Int} {h : Int},gT c k m f l = .error h → h = 0 ∨ (1 ≤ h ∧ h ≤ 7)
  | 0,m,f,l,h,he => by cases he; exact .inl rfl
  | k + 1,m,f,l,h,he => by
    unfold gT at he
    simp only at he
    split at he
    · unfold oG at he
      split at he
      · cases he; omega
      · split at he
        · cases he; omega
        · cases he
    split at he
    · split at he
      · cases he; omega
      rename_i hargs
      split at he
      · exact Ai k he
      split at he
      · cases he
      split at he
      · rename_i q hq
        cases he
        obtain ⟨n1,n19,l2⟩ := fH (n := (nod m.pool f).n) (k := l.length) (by simpa using hargs)
        rw [mJ (by omega) (by simpa using (Eq.symm (by simpa using hargs : bl (nod m.pool f).n = (l.length : Int))))] at hq
        split at hq
        · split at hq
          · cases hq
          · split at hq
            · cases hq
            · split at hq
              · cases hq
              · cases hq; omega
        · cases hq; omega
      · cases he
    split at he
    · unfold DP at he
      split at he
      · cases he; omega
      · split at he
        · cases he
        · cases he; omega
    · cases he; omega
theorem PN {c : Cd} (hc : c9 c = true) {m : Mc} (h : RunM c m) {q : Int} (he : doM c m = .error q) : 1 ≤ q ∧ q ≤ 7 := by
  unfold doM at he
  simp only at he
  split at he
  · unfold fg at he
    split at he
    · cases he; omega
    split at he
    · cases he; omega
    · rename_i l m1 ht
      obtain ⟨f1,f2,f3,f4,f5,f6,f7,f8,f9⟩ := qX h.gm ht
      rcases Ai 3 he with rfl | h1
      · exact absurd he (tk 3 (fun v hv => f2 v (by have := List.mem_of_mem_drop hv; simpa using this)) (.inl (Nat.le_refl _)))
      · exact h1
  split at he
  · unfold pd at he
    split at he
    · cases he; omega
    simp only at he
    split at he
    · cases he
    split at he
    · cases he; omega
    split at he
    · cases he
    · cases he; omega
  · have go : ∀ {r : Except Int Mc} {n : Int},(∀ q',r = .error q' → 1 ≤ q' ∧ q' ≤ 7) → goM c r n = .error q → 1 ≤ q ∧ q ≤ 7 := by
      intro r n hr hg
      unfold goM at hg
      split at hg
      · cases hg; exact hr _ rfl
      · split at hg
        · cases hg
        · cases hg; omega
    unfold lr at he
    split at he
    · exact go (fun q' e => by cases e) he
    split at he
    · refine go (fun q' e => ?_) he
      unfold Ep at e
      split at e
      · cases e; omega
      · split at e
        · cases e; omega
        · cases e
    split at he
    · refine go (fun q' e => ?_) he
      unfold qc at e
      split at e
      · cases e
      · split at e
        · cases e; omega
        · cases e
    split at he
    · exact go (fun q' e => by cases e) he
    split at he
    · exact go (fun q' e => by cases e) he
    split at he
    · cases he; omega
    · exact go (fun q' e => by cases e) he
theorem yo {c : Cd} {m : Mc} (h : gu c m = true) (h0 : m.state = 0) : gu c (jN c m) = true := by
  obtain ⟨hr,hc,hl⟩ := pJ h h0
  unfold jN
  cases he : doM c m with
  | error q => exact Ge h (PN hc hr he)
  | ok m' =>
    obtain ⟨g1,⟨t,g2,g3⟩,g4⟩ := xT hc hr he
    simp only
    split
    · exact Lu hc g1.ok ‹_› g1.s g1.e g1.d g4
    · exact Ge h (by omega)

theorem IW : ∀ (n : Nat) (pre mid post : List Int) (i j : Int),mid.length ≤ n → i = pre.length → j = i + mid.length - 1 → (pre ++ mid ++ post).length < 4611686018427387904 →
    cX i j ((pre ++ mid ++ post).map eI) = some (.tup [],[.os (1,0) ((pre ++ mid.reverse ++ post).map eI)])
  | 0,pre,mid,post,i,j,hn,hi,hj,hl => by
    have : mid = [] := List.length_eq_zero_iff.1 (by omega)
    subst this
    rw [cG,ah (decide_eq_false (by simp at hj; omega))]
    rfl
  | n + 1,pre,mid,post,i,j,hn,hi,hj,hl => by
    match mid,hn,hj,hl with
    | [],hn,hj,hl =>
      rw [cG,ah (decide_eq_false (by simp at hj; omega))]
      rfl
    | [x],hn,hj,hl =>
      rw [cG,ah (decide_eq_false (by simp at hj; omega))]
      rfl
    | x :: z :: r,hn,hj,hl =>
      obtain ⟨m,y,hm⟩ : ∃ m y,z :: r = m ++ [y] := ⟨(z :: r).dropLast,(z :: r).getLast (by simp),(List.dropLast_concat_getLast (by simp)).symm⟩
      rw [hm] at hn hj hl ⊢
      simp only [List.length_cons,List.length_append,List.length_nil] at hn hj hl
      subst hi
      have hj' : j = ((pre.length + m.length + 1 : Nat) : Int) := by omega
      subst hj'
      have hx : (pre ++ x :: (m ++ [y]) ++ post)[pre.length]? = some x := by simp
      have hy : (pre ++ x :: (m ++ [y]) ++ post)[pre.length + m.length + 1]? = some y := by
        have e : pre ++ x :: (m ++ [y]) ++ post = (pre ++ x :: m) ++ y :: post := by simp
        have e2 : pre.length + m.length + 1 = (pre ++ x :: m).length := by simp; omega
        rw [e,e2]; simp
      have len : (pre ++ x :: (m ++ [y]) ++ post).length = pre.length + m.length + 2 + post.length := by simp; omega
      have s1 : List.set ((pre ++ x :: (m ++ [y]) ++ post).map eI) pre.length (D.int .i64 y) = (pre ++ y :: (m ++ [y]) ++ post).map eI := by
        rw [← List.map_set]; simp
      have hy2 : (pre ++ y :: (m ++ [y]) ++ post)[pre.length + m.length + 1]? = some y := by
        have e : pre ++ y :: (m ++ [y]) ++ post = (pre ++ y :: m) ++ y :: post := by simp
        have e2 : pre.length + m.length + 1 = (pre ++ y :: m).length := by simp; omega
        rw [e,e2]; simp
      have s2 : List.set ((pre ++ y :: (m ++ [y]) ++ post).map eI) (pre.length + m.length + 1) (D.int .i64 x) = ((pre ++ [y]) ++ m ++ (x :: post)).map eI := by
        have e : pre ++ y :: (m ++ [y]) ++ post = (pre ++ y :: m) ++ y :: post := by simp
        have e2 : pre.length + m.length + 1 = (pre ++ y :: m).length := by simp; omega
        rw [← List.map_set,e,e2]; simp
      have len2 : (pre ++ y :: (m ++ [y]) ++ post).length = pre.length + m.length + 2 + post.length := by simp; omega
      have ih := IW n (pre ++ [y]) m (x :: post) ((pre.length : Int) + 1) (((pre.length + m.length + 1 : Nat) : Int) - 1) (by omega) (by simp) (by simp; omega) (by simp; omega)
      rw [cG,ap (decide_eq_true (by omega)),
        jJ (l := pre ++ x :: (m ++ [y]) ++ post) (v := ((pre.length + m.length + 1 : Nat) : Int)) (x := y) (by omega) (by rw [Int.toNat_natCast]; exact hy),
        jJ (l := pre ++ x :: (m ++ [y]) ++ post) (v := (pre.length : Int)) (x := x) (by omega) (by rw [Int.toNat_natCast]; exact hx),
        av (by rw [List.length_map]; exact bG (by omega)),Int.toNat_natCast,al hx,be,s1,
        av (by rw [List.length_map]; exact bG (by omega)),Int.toNat_natCast,al hy2,be,s2,w64 (n := (pre.length : Int) + 1) (by omega) (by omega),w64 (n := ((pre.length + m.length + 1 : Nat) : Int) - 1) (by omega) (by omega),ih]
      simp
theorem MS {l : List Int} (hl : l.length < 4611686018427387904) : V 183 [.os (1,0) (l.map eI)] = some (.tup [],[.os (1,0) (l.reverse.map eI)]) := by
  have h := IW l.length [] l [] 0 ((l.length : Int) - 1) (Nat.le_refl _) rfl (by omega) (by simpa using hl)
  simp only [List.nil_append,List.append_nil] at h
  rw [nc,List.length_map,w64 (n := ni l.length - 1) (by simp only [ni]; omega) (by simp only [ni]; omega)]
  exact h

theorem Bm (a : Int) (r : List Int) : part ((a :: r).map eI) (some (Int.toNat 1,((a :: r).map eI).length - Int.toNat 1)) = r.map eI := by
  simp only [part,List.map_cons,List.length_cons]
  show (r.map eI).take ((r.map eI).length + 1 - 1) = _
  exact List.take_of_length_le (by simp)
theorem ph {c : Cd} (hc : c.list.length ≤ 400) {many : Nat} (hm : many ≤ 4) : ∀ (k i : Nat) {m : Mc} {acc : List Int},i + k = many + 1 → acc.length = i → RunM c m → dt c (m.at' + 1) = true → m.pool.length ≤ 3000 → (∀ v ∈ acc,InP m.pool v) →
    sx c (dp ((many : Int) + 1) (i : Int) m.at' m.s m.e m.d m.state m.ask m.arg (c.pool.map eN) (c.list.map eIn) (c.defs.map eDf) (acc.map eI) (m.pool.map eN)) (match iJ k m with
      | none => .error 7
      | some (l,m') => gT c 3 m' ((acc ++ l).reverse.getD 0 0) ((acc ++ l).reverse.drop 1))
  | 0,i,m,acc,hi,ha,hr,hnx,hl,hv => by
    rw [fC,ah (decide_eq_false (by omega)),lt (MS (l := acc) (by omega))]
    simp only [iJ,List.append_nil]
    obtain ⟨a,r,hq⟩ : ∃ a r,acc.reverse = a :: r := by
      cases hq : acc.reverse with
      | nil => have h := congrArg List.length hq; rw [List.length_reverse,List.length_nil] at h; omega
      | cons a r => exact ⟨a,r,rfl⟩
    have hlen : r.length = many := by have h := congrArg List.length hq; rw [List.length_reverse,List.length_cons] at h; omega
    have hvr : ∀ v ∈ a :: r,InP m.pool v := fun v hv' => hv v (by rw [← hq] at hv'; simpa using hv')
    rw [hq,di,av (by simp [fF]; omega),Bm]
    simp only [List.getD_cons_zero,List.drop_one,List.tail_cons]
    have h0 := tk (c := c) 3 (m := m) (f := a) (l := r) (fun v hv' => hvr v (by simp [hv'])) (.inl (Nat.le_refl _))
    have hcall := z5 hc 3 hr hnx (by omega) (hvr a (by simp)) (fun v hv' => hvr v (by simp [hv'])) (by omega) (fun _ _ => okPool_iff.2 ⟨hr.gm.ok,hl⟩) h0
    cases he : gT c 3 m a r with
    | ok m' => rw [he] at hcall; rw [gG (jw hcall)]; rfl
    | error q =>
      rw [he] at hcall
      obtain ⟨q0,m',hx⟩ := gy hcall
      rw [gG hx]
      exact ⟨q0,m',rfl⟩
  | k + 1,i,m,acc,hi,ha,hr,hnx,hl,hv => by
    rw [fC,ap (decide_eq_true (by omega))]
    unfold iJ
    cases ht : gz m with
    | none =>
      have h1 := oH (c := c) hr.gm.s ht
      rw [dZ h1]
      exact ⟨by decide,m,rfl⟩
    | some q =>
      obtain ⟨v,m1⟩ := q
      have h1 := uI (c := c) hr.gm.s ht
      obtain ⟨g1,g2,g3,g4,g5,g6,g7,g8⟩ := gA hr.gm ht
      have ea : acc.map eI ++ [D.int .i64 v] = (acc ++ [v]).map eI := by simp
      have ih := ph hc hm k (i + 1) (m := m1) (acc := acc ++ [v]) (by omega) (by simp [ha]) ⟨g1,g5.trans hr.st,g6.trans hr.ask,g7.trans hr.arg,by rw [g4]; exact hr.pl⟩ (by rw [g4]; exact hnx) (by rw [g3]; exact hl) (fun u hu => by
        rw [g3]
        rcases List.mem_append.1 hu with hu | hu
        · exact hv u hu
        · simp only [List.mem_singleton] at hu; subst hu; rw [← g3]; exact g2)
      rw [dZ h1,Bool.not_true,ae,av (Ef (by omega) v),be,ea,dG (by omega)]
      simp only
      cases ht2 : iJ k m1 with
      | none => rw [ht2] at ih; exact ih
      | some q2 =>
        obtain ⟨l2,m2⟩ := q2
        rw [ht2] at ih
        simp only [List.append_assoc,List.singleton_append] at ih
        exact ih
theorem Dg {c : Cd} (hc : c.list.length ≤ 400) {m : Mc} (hr : RunM c m) (hl : m.pool.length ≤ 3000) {k : Int} (hk : 0 ≤ k ∧ k ≤ 4) : sx c (V 132 [eSt c m,.int .i64 k]) (fg c m k.toNat) := by
  have hpl := isPl_iff.1 hr.pl
  rw [po,w64 (n := m.at' + 1) (by omega) (by omega),ck (jc hc _)]
  unfold fg
  cases hp : dt c (m.at' + 1) with
  | false => rw [if_pos rfl]; exact ⟨by decide,m,rfl⟩
  | true =>
    have h := ph hc (many := k.toNat) (by omega) (k.toNat + 1) 0 (acc := []) (by omega) rfl hr hp hl (by simp)
    rw [Int.natCast_zero,Int.toNat_of_nonneg hk.1] at h
    rw [if_neg (by simp),Bool.not_true,ae,w64 (n := k + 1) (by omega) (by omega)]
    simp only [List.nil_append] at h
    exact h
theorem Nj {c : Cd} (hc : c.list.length ≤ 400) {m : Mc} (hr : RunM c m) (hl : m.pool.length ≤ 3000) : sx c (V 133 [eSt c m]) (pd c m) := by
  rw [sg]
  unfold pd
  cases ht : gz m with
  | none =>
    have h1 := oH (c := c) hr.gm.s ht
    rw [dZ h1]
    exact ⟨by decide,m,rfl⟩
  | some q =>
    obtain ⟨v,m1⟩ := q
    have h1 := uI (c := c) hr.gm.s ht
    obtain ⟨g1,g2,g3,g4,g5,g6,g7,g8⟩ := gA hr.gm ht
    rw [dZ h1,Bool.not_true,ae,jd g1.d]
    simp only
    by_cases k1 : (nod m1.pool m1.d).kind = 1
    · rw [if_pos k1,ap (aJ k1)]; rfl
    rw [if_neg k1,ah (az k1)]
    by_cases k5 : (nod m1.pool m1.d).kind = 5
    · rw [if_neg (fun h => h k5),ah (cq k5)]
      have ha := pt g1.ok g1.d (.inl k5)
      have hlst := Fi g1.ok (by rw [g3]; omega) ha
      have hin := wB g1.ok ha
      rw [qJ hlst]
      rcases hq : ke m1.pool (nod m1.pool m1.d).a with ⟨xs,b⟩
      have hfr := xb (c := c) hq (many := 3) (by omega)
      rw [hq] at hin
      have none : ∀ {X : Option Ret},¬ (b = true ∧ xs.length = 3 ∧ (nod m1.pool (xs.getD 0 0)).kind = 3 ∧ dt c (nod m1.pool (xs.getD 0 0)).n = true) → X = some (.int .i64 7,[eSt c m1]) → sx c X (match nJ c m1.pool (nod m1.pool m1.d).a 3 with
          | some (n,[s,e]) => .ok (sG ⟨m1.pool,n,s,e,(nod m1.pool m1.d).b,m1.state,m1.ask,m1.arg⟩ v)
          | _ => .error 7) := by
        intro X hn hX
        rw [hfr,if_neg hn]
        exact ⟨by decide,m1,hX⟩
      cases b with
      | false => exact none (fun h => by simp at h) rfl
      | true =>
        rw [Bool.not_true,ae]
        by_cases h4 : xs.length = 3
        · obtain ⟨a,s,e,rfl⟩ : ∃ a s e,xs = [a,s,e] := by
            match xs,h4 with
            | [a,s,e],_ => exact ⟨a,s,e,rfl⟩
            | [],h => simp at h
            | [_],h => simp at h
            | [_,_],h => simp at h
            | _ :: _ :: _ :: _ :: _,h => simp at h
          have ha' := hin a (by simp)
          rw [ah (cq (pc (k := 3) rfl)),di,sA ha']
          by_cases h3 : (nod m1.pool a).kind = 3
          · rw [ah (cq h3),di,Mf ha',ck (jc hc _)]
            cases h5 : dt c (nod m1.pool a).n with
            | false => exact none (fun h => by have := h.2.2.2; simp only [List.getD_cons_zero,h5] at this; cases this) rfl
            | true =>
              have a3 := jQ (c := c) (m := ⟨m1.pool,(nod m1.pool a).n,s,e,(nod m1.pool m1.d).b,m1.state,m1.ask,m1.arg⟩) (by show m1.pool.length < _; rw [g3]; omega) v
              rw [hfr,if_pos ⟨rfl,rfl,h3,h5⟩,Bool.not_true,ae,di,Mf ha',j0,CW,dg a3]
              rfl
          · rw [ap (c7 h3)]
            exact none (fun h => h3 h.2.2.1) rfl
        · rw [ap (c7 (A9 (l := xs) (k := 3) (fun h => h4 (by omega))))]
          exact none (fun h => h4 h.2.1) rfl
    · rw [if_pos k5,ap (c7 k5)]
      exact ⟨by decide,m1,rfl⟩
end Go.Eng
/-! a step of a machine: the reference's side: the stack,the frames,calls -/
namespace Go.Eng
open Go.Proofs Go.Proofs.Tryz
set_option maxHeartbeats 4000000

noncomputable abbrev eMo (m : Mc) : D := .op [.os (5,0) (m.pool.map eN),.int .i64 m.at',.int .i64 m.s,.int .i64 m.e,.int .i64 m.d,.int .i64 m.state,.int .i64 m.ask,.int .i64 m.arg]
noncomputable def uM (c : Cd) (X : Option Ret) (r : Except Int Mc) : Prop := match r with
  | .ok m => X = some (.int .i64 0,[eMo m])
  | .error h => (h ≠ 0 ∧ ∃ m',X = some (.int .i64 h,[eMo m'])) ∨ (h = 7 ∧ ∃ m',dt c m'.at' = false ∧ X = some (.int .i64 0,[eMo m']))
theorem Da {c : Cd} {X : Option Ret} {m : Mc} (h : uM c X (.ok m)) : X = some (.int .i64 0,[eMo m]) := h
theorem xA {c : Cd} {X : Option Ret} {h : Int} (e : uM c X (.error h)) : (h ≠ 0 ∧ ∃ m',X = some (.int .i64 h,[eMo m'])) ∨ (h = 7 ∧ ∃ m',dt c m'.at' = false ∧ X = some (.int .i64 0,[eMo m'])) := e
theorem qj {c : Cd} {X Y : Option Ret} {r : Except Int Mc} (h : uM c X r) (hy : ∀ q m',X = some (.int .i64 q,[eMo m']) → Y = some (.int .i64 q,[eMo m'])) : uM c Y r := by
  cases r with
  | ok m => exact hy _ _ (Da h)
  | error q =>
    rcases xA h with ⟨q0,m',hx⟩ | ⟨q7,m',hp,hx⟩
    · exact .inl ⟨q0,m',hy _ _ hx⟩
    · exact .inr ⟨q7,m',hp,hy _ _ hx⟩
theorem ce {c : Cd} {X : Option Ret} {h : Int} (m : Mc) (h0 : h ≠ 0) (e : X = some (.int .i64 h,[eMo m])) : uM c X (.error h) := .inl ⟨h0,m,e⟩

theorem lI {m : Mc} (hl : m.pool.length < 4294967296) (v : Int) : V 95 [eMo m,.int .i64 v] = some (.tup [],[eMo (sG m v)]) := by
  have h := cM hl (ndP v m.s)
  rw [GQ,bm h]
  rfl
theorem sI {m : Mc} (hs : InP m.pool m.s) {v : Int} {m' : Mc} (h : gz m = some (v,m')) : V 218 [eMo m] = some (.tup [.int .i64 v,.bool true],[eMo m']) := by
  unfold gz at h
  rw [tV,jd hs]
  split at h
  · rename_i h5
    cases h
    rw [ah (cq h5)]
  · cases h
theorem lP {m : Mc} (hs : InP m.pool m.s) (h : gz m = none) : V 218 [eMo m] = some (.tup [.int .i64 0,.bool false],[eMo m]) := by
  unfold gz at h
  rw [tV,jd hs]
  split at h
  · cases h
  · rename_i h5
    rw [ap (c7 h5)]
theorem yz {p : List Nd} (hp : bF p) : ∀ (k : Nat) (v : Int),InP p v → k < 4611686018427387904 →
    jv v (k : Int) (p.map eN) = some (alD (pj p k v),[])
  | 0,v,hv,hk => by
    rw [nw,ah (decide_eq_false (by omega)),sA hv]
    unfold pj
    by_cases h5 : (nod p v).kind = 5
    · rw [if_pos h5,ah (cq h5),Oj hv]; rfl
    · rw [if_neg h5,ap (c7 h5)]; rfl
  | k + 1,v,hv,hk => by
    have hw : IntKind.wrap IntKind.i64 (((k + 1 : Nat) : Int) - 1) = (k : Int) := by rw [w64 (by omega) (by omega)]; omega
    rw [nw,ap (decide_eq_true (by omega)),sA hv]
    unfold pj
    by_cases h5 : (nod p v).kind = 5
    · have ih := yz hp k (nod p v).b (sR hp hv h5) (by omega)
      rw [if_pos h5,ap (aJ h5),OG hv,hw,ih]
    · rw [if_neg h5,ah (az h5),sA hv,ap (c7 h5)]; rfl
theorem La {p : List Nd} (hp : bF p) {v : Int} (hv : InP p v) {n : Int} (h0 : 0 ≤ n) (h1 : n < 4611686018427387904) : V 216 [eP p,.int .i64 v,.int .i64 n] = some (alD (pj p n.toNat v),[]) := by
  have := yz hp n.toNat v hv (by omega)
  rw [Int.toNat_of_nonneg h0] at this
  rw [D9]
  exact this
theorem re {p : List Nd} (hp : bF p) (hl : p.length < 4294967290) : ∀ (k : Nat) (v : Int) (acc : List Int),InP p v → v < k → acc.length + k < 4294967296 →
    gg v (p.map eN) (acc.map eI) = some (.tup [.os (1,0) ((if (uW p k v).2 = true then acc ++ (uW p k v).1 else []).map eI),.bool (uW p k v).2],[])
  | 0,v,acc,hv,hk,ha => by omega
  | k + 1,v,acc,hv,hk,ha => by
    rw [qZ,sA hv]
    unfold uW
    by_cases h5 : (nod p v).kind = 5
    · have hb := dK (lb hp hv) h5
      have ih := re hp hl k (nod p v).b (acc ++ [(nod p v).a]) (sR hp hv h5) (by omega) (by simp only [List.length_append,List.length_cons,List.length_nil]; omega)
      have ea : acc.map eI ++ [D.int .i64 (nod p v).a] = (acc ++ [(nod p v).a]).map eI := by simp
      have hlim : decide (ni ((acc ++ [(nod p v).a]).map eI).length ≤ LIM) = true := decide_eq_true (by rw [cU]; simp only [ni,List.length_map,List.length_append,List.length_cons,List.length_nil]; omega)
      rw [if_pos h5,ap (aJ h5),Oj hv,ea,av hlim,be,OG hv,ih]
      simp
    · rw [if_neg h5,ah (az h5),sA hv]
      by_cases h1 : (nod p v).kind = 1
      · rw [ah (cq h1)]; simp [h1]
      · rw [ap (c7 h1)]; simp [h1]
theorem J2 {p : List Nd} (hp : bF p) (hl : p.length < 2147483648) {v : Int} (hv : InP p v) : V 228 [eP p,.int .i64 v] = some (.tup [.os (1,0) ((if (ke p v).2 = true then (ke p v).1 else []).map eI),.bool (ke p v).2],[]) := by
  have := re hp (by omega) (v.toNat + 1) v [] hv (by omega) (by simp only [List.length_nil]; omega)
  rw [xB]
  simp only [List.nil_append] at this
  exact this
noncomputable def qA (p : List Nd) (v : Int) (many : Nat) : Option (Int × List Int) := if (ke p v).2 = true ∧ (ke p v).1.length = many ∧ (nod p ((ke p v).1.getD 0 0)).kind = 3 then some ((nod p ((ke p v).1.getD 0 0)).n,(ke p v).1.drop 1) else none
theorem Aq {c : Cd} {p : List Nd} {v : Int} {many : Nat} (hm : 0 < many) : nJ c p v many = match qA p v many with
    | none => none
    | some (n,r) => if dt c n = true then some (n,r) else none := by
  rw [xb (xs := (ke p v).1) (b := (ke p v).2) rfl hm]
  unfold qA
  by_cases h : (ke p v).2 = true ∧ (ke p v).1.length = many ∧ (nod p ((ke p v).1.getD 0 0)).kind = 3
  · rw [if_pos h]
    simp only
    by_cases h2 : dt c (nod p ((ke p v).1.getD 0 0)).n = true
    · rw [if_pos ⟨h.1,h.2.1,h.2.2,h2⟩,if_pos h2]
    · rw [if_neg (fun q => h2 q.2.2.2),if_neg h2]
  · rw [if_neg h,if_neg (fun q => h ⟨q.1,q.2.1,q.2.2.1⟩)]
theorem xD {p : List Nd} {v : Int} {many : Nat} {n : Int} {r : List Int} (hm : 0 < many) (h : qA p v many = some (n,r)) : r.length + 1 = many := by
  unfold qA at h
  split at h
  · rename_i hh; cases h; rw [List.length_drop]; omega
  · cases h
noncomputable def frD (r : Option (Int × List Int)) : D := match r with | some (n,l) => .tup [.int .i64 n,.os (1,0) (l.map eI),.bool true] | none => .tup [.int .i64 0,.os (1,0) [],.bool false]
theorem zO {p : List Nd} (hp : bF p) (hl : p.length < 2147483648) {v : Int} (hv : InP p v) {many : Nat} (hm : 0 < many) : V 234 [eP p,.int .i64 v,.int .i64 (many : Int)] = some (frD (qA p v many),[]) := by
  have hlst := J2 hp hl hv
  have hin := wB hp hv
  rw [zD,yX hlst]
  unfold qA
  cases hb : (ke p v).2 with
  | false => rw [if_neg (fun h => by simp at h)]; rfl
  | true =>
    rw [if_pos rfl,Bool.not_true,ae]
    by_cases h4 : (ke p v).1.length = many
    · cases hq : (ke p v).1 with
      | nil => rw [hq] at h4; simp at h4; omega
      | cons a r =>
        rw [hq] at hin h4
        have ha := hin a (by simp)
        rw [ah (cq (pc (by rw [h4]))),di,sA ha]
        by_cases h3 : (nod p a).kind = 3
        · rw [ah (cq h3),di,Mf ha,av (by simp [fF]; omega),Bm,if_pos ⟨rfl,h4,h3⟩]
          rfl
        · rw [ap (c7 h3),if_neg (fun h => h3 h.2.2)]; rfl
    · rw [ap (c7 (A9 (fun h => h4 (by omega)))),if_neg (fun h => h4 h.2.1)]; rfl

theorem LD {p : List Nd} {n q : Int} {l : List Int} (h12 : 1 ≤ n ∧ n ≤ 12) (hargs : (l.length : Int) = bl n) (hr : pg p n l = .error q) : q = 3 ∨ q = 4 := by
  rw [mJ h12 hargs] at hr
  split at hr
  · split at hr
    · cases hr
    · split at hr
      · cases hr
      · split at hr
        · cases hr
        · cases hr; exact .inr rfl
  · cases hr; exact .inl rfl
theorem zW {c : Cd} (hc : c.list.length ≤ 400) : ∀ (k : Nat) {m : Mc} {f : Int} {l : List Int},RunM c m → dt c (m.at' + 1) = true → m.pool.length + 100 * k < 2147483600 → InP m.pool f → (∀ v ∈ l,InP m.pool v) → l.length ≤ 4 → gT c k m f l ≠ .error 0 →
    uM c (V 233 [eCd c,eMo m,.int .i64 f,.rs (1,0) (l.map eI),.int .i64 (m.at' + 1)]) (gT c k m f l)
  | 0,m,f,l,h,hnx,hl,hf,hv,h4,h0 => absurd rfl h0
  | k + 1,m,f,l,h,hnx,hl,hf,hv,h4,h0 => by
    have hok := lb h.gm.ok hf
    have hpl := isPl_iff.1 h.pl
    rw [zz,jd hf]
    unfold gT at h0 ⊢
    simp only at h0 ⊢
    by_cases h6 : (nod m.pool f).kind = 6
    · rw [if_pos h6,ap (aJ h6)]
      have hfn : 0 ≤ (nod m.pool f).n ∧ (nod m.pool f).n ≤ 1000000000 := by
        simp [okN,h6] at hok
        exact wi_iff.1 hok.1
      have t1 : Int.tmod (nod m.pool f).n 8 = (nod m.pool f).n % 8 := Int.tmod_eq_emod_of_nonneg hfn.1
      have t2 : Int.tdiv (nod m.pool f).n 8 = (nod m.pool f).n / 8 := Int.tdiv_eq_ediv_of_nonneg hfn.1
      rw [av (by decide),t1,t2]
      unfold oG
      by_cases h1 : (nod m.pool f).n % 8 = (l.length : Int)
      · rw [if_neg (by omega),ah (cq (by rw [pc rfl]; exact h1)),av (by decide),w64 (n := (nod m.pool f).n / 8) (by omega) (by omega),List.length_map]
        cases h2 : dt c ((nod m.pool f).n / 8) with
        | false =>
          have : ¬ ((nod m.pool f).n / 8 ≤ (c.list.length : Int) - 1) := fun h => by
            have := isPl_iff.2 ⟨by omega,h⟩
            rw [h2] at this; cases this
          rw [if_pos rfl,ap (decide_eq_true (by simp only [ni]; omega))]
          exact ce m (by decide) rfl
        | true =>
          have h2' := isPl_iff.1 h2
          rw [if_neg (by simp),ah (decide_eq_false (by simp only [ni]; omega))]
          have a1 := cM (p := m.pool) (by omega) (ndI (m.at' + 1))
          have l1 := kw (m.pool ++ [ndI (m.at' + 1)]) [(m.pool.length : Int),m.s,m.e]
          simp only [List.length_append,List.length_cons,List.length_nil] at l1
          have a2 : V 210 [rP (m.pool ++ [ndI (m.at' + 1)]),.rs (1,0) [.int .i64 (m.pool.length : Int),.int .i64 m.s,.int .i64 m.e]] = _ := sQ (q := m.pool ++ [ndI (m.at' + 1)]) (row := [(m.pool.length : Int),m.s,m.e]) (by simp only [List.length_append,List.length_cons,List.length_nil]; omega)
          have a3 := cM (p := (aP (m.pool ++ [ndI (m.at' + 1)]) [(m.pool.length : Int),m.s,m.e]).1) (by omega) (ndP (aP (m.pool ++ [ndI (m.at' + 1)]) [(m.pool.length : Int),m.s,m.e]).2 m.d)
          rw [bm a1,lX a2,bm a3]
          generalize hB : aP (m.pool ++ [ndI (m.at' + 1)]) [(m.pool.length : Int),m.s,m.e] = B at l1 ⊢
          have l2 := kw (B.1 ++ [ndP B.2 m.d]) l
          simp only [List.length_append,List.length_cons,List.length_nil] at l2
          have a4 := sQ (q := B.1 ++ [ndP B.2 m.d]) (row := l) (by simp only [List.length_append,List.length_cons,List.length_nil]; omega)
          have a5 := cM (p := (aP (B.1 ++ [ndP B.2 m.d]) l).1) (by omega) (ndP (aP (B.1 ++ [ndP B.2 m.d]) l).2 (nod m.pool f).a)
          have a6 := cM (p := (aP (B.1 ++ [ndP B.2 m.d]) l).1 ++ [ndP (aP (B.1 ++ [ndP B.2 m.d]) l).2 (nod m.pool f).a]) (by simp only [List.length_append,List.length_cons,List.length_nil]; omega) ndN
          have e6 : (((aP (B.1 ++ [ndP B.2 m.d]) l).1 ++ [ndP (aP (B.1 ++ [ndP B.2 m.d]) l).2 (nod m.pool f).a]).length : Int) = (aP (B.1 ++ [ndP B.2 m.d]) l).1.length + 1 := by simp
          rw [e6] at a6
          rw [lX a4,bm a5,bm a6,av (by decide)]
          rfl
      · rw [if_pos h1,ap (c7 (by rw [pc rfl]; exact h1))]
        exact ce m (by decide) rfl
    rw [if_neg h6] at h0 ⊢
    rw [ah (az h6)]
    by_cases h8 : (nod m.pool f).kind = 8
    · rw [if_pos h8] at h0 ⊢
      rw [ap (aJ h8)]
      have prim : uM c (V 240 [eCd c,eMo m,.int .i64 (nod m.pool f).n,.rs (1,0) (l.map eI),.int .i64 (m.at' + 1)]) (if bl (nod m.pool f).n ≠ (l.length : Int) then .error 2
          else if (nod m.pool f).n = 18 then
            gT c k ⟨(aP (m.pool ++ [ndI (m.at' + 1)]) [(m.pool.length : Int),m.s,m.e,m.d]).1 ++ [ndK (aP (m.pool ++ [ndI (m.at' + 1)]) [(m.pool.length : Int),m.s,m.e,m.d]).2],m.at',m.s,m.e,m.d,m.state,m.ask,m.arg⟩ (l.getD 0 0) [((aP (m.pool ++ [ndI (m.at' + 1)]) [(m.pool.length : Int),m.s,m.e,m.d]).1.length : Int)]
          else if (nod m.pool f).n > 12 then
            .ok ⟨(aP m.pool l).1,m.at',m.s,m.e,m.d,1,(nod m.pool f).n,(aP m.pool l).2⟩
          else match pg m.pool (nod m.pool f).n l with
            | .error h => .error (h + 1)
            | .ok (p,v) => .ok ⟨p ++ [ndP v m.s],m.at' + 1,p.length,m.e,m.d,m.state,m.ask,m.arg⟩) := by
        rw [CY,zJ wa]
        by_cases hargs : bl (nod m.pool f).n = (l.length : Int)
        · have hargs' : ¬ bl (nod m.pool f).n ≠ (l.length : Int) := fun h => h hargs
          obtain ⟨n1,n19,l2⟩ := fH hargs
          rw [if_neg hargs'] at h0 ⊢
          rw [ah (cq (pc hargs.symm))]
          by_cases h18 : (nod m.pool f).n = 18
          · rw [if_pos h18] at h0 ⊢
            rw [ap (aJ h18)]
            obtain ⟨v,rfl⟩ : ∃ v,l = [v] := by
              rw [h18] at hargs
              match l,hargs with
              | [v],_ => exact ⟨v,rfl⟩
              | [],h => cases h
              | _ :: _ :: r,h => simp only [List.length_cons] at h; have : bl 18 = 1 := rfl; omega
            have a1 := cM (p := m.pool) (by omega) (ndI (m.at' + 1))
            have l1 := kw (m.pool ++ [ndI (m.at' + 1)]) [(m.pool.length : Int),m.s,m.e,m.d]
            simp only [List.length_append,List.length_cons,List.length_nil] at l1
            have a2 : V 210 [rP (m.pool ++ [ndI (m.at' + 1)]),.rs (1,0) [.int .i64 (m.pool.length : Int),.int .i64 m.s,.int .i64 m.e,.int .i64 m.d]] = _ := sQ (q := m.pool ++ [ndI (m.at' + 1)]) (row := [(m.pool.length : Int),m.s,m.e,m.d]) (by simp only [List.length_append,List.length_cons,List.length_nil]; omega)
            have o1 : bF (m.pool ++ [ndI (m.at' + 1)]) := bL h.gm.ok (wD (by omega))
            obtain ⟨b1,⟨t,b2,b3⟩,b4⟩ := gZ (row := [(m.pool.length : Int),m.s,m.e,m.d]) o1 (fun v hv => by
              simp only [List.mem_cons,List.not_mem_nil,or_false] at hv
              rcases hv with rfl | rfl | rfl | rfl
              · exact du _ _
              · exact bc _ h.gm.s
              · exact bc _ h.gm.e
              · exact bc _ h.gm.d)
            have e1 : (aP (m.pool ++ [ndI (m.at' + 1)]) [(m.pool.length : Int),m.s,m.e,m.d]).1 = m.pool ++ (ndI (m.at' + 1) :: t) := by rw [b2]; simp
            have up : ∀ {v : Int},InP m.pool v → InP ((aP (m.pool ++ [ndI (m.at' + 1)]) [(m.pool.length : Int),m.s,m.e,m.d]).1 ++ [ndK ((aP (m.pool ++ [ndI (m.at' + 1)]) [(m.pool.length : Int),m.s,m.e,m.d]).2 : Int)]) v := fun hv => bc _ (by rw [e1]; exact bc _ hv)
            have g2 : RunM c ⟨(aP (m.pool ++ [ndI (m.at' + 1)]) [(m.pool.length : Int),m.s,m.e,m.d]).1 ++ [ndK ((aP (m.pool ++ [ndI (m.at' + 1)]) [(m.pool.length : Int),m.s,m.e,m.d]).2 : Int)],m.at',m.s,m.e,m.d,m.state,m.ask,m.arg⟩ :=
              ⟨⟨bL b1 (CG b4),up h.gm.s,up h.gm.e,up h.gm.d⟩,h.st,h.ask,h.arg,h.pl⟩
            rw [bm a1,lX a2]
            generalize hB : aP (m.pool ++ [ndI (m.at' + 1)]) [(m.pool.length : Int),m.s,m.e,m.d] = B at l1 b1 b2 b4 e1 up g2 h0 ⊢
            have a3 := cM (p := B.1) (by omega) (ndK (B.2 : Int))
            have a4 := zW hc k g2 hnx (by show (B.1 ++ [ndK (B.2 : Int)]).length + 100 * k < _; simp only [List.length_append,List.length_cons,List.length_nil]; omega) (up (hv v (by simp))) (l := [(B.1.length : Int)]) (fun u hu => by
              simp only [List.mem_singleton] at hu; subst hu; exact du _ _) (by simp) h0
            rw [bm a3,di]
            simp only [List.getD_cons_zero] at a4 ⊢
            simp only [List.map_cons,List.map_nil] at a4
            exact qj a4 (fun q m' hx => by rw [sU hx])
          rw [if_neg h18] at h0 ⊢
          rw [ah (az h18)]
          by_cases h12 : (nod m.pool f).n > 12
          · rw [if_pos h12,ap (decide_eq_true h12)]
            have a1 := sQ (q := m.pool) (row := l) (by omega)
            rw [lX a1]
            rfl
          rw [if_neg h12,ah (decide_eq_false h12)]
          have hp := Qt h.gm.ok (by omega) (n := (nod m.pool f).n) hv (by omega) hargs.symm
          cases hr : pg m.pool (nod m.pool f).n l with
          | error q =>
            rw [hr] at hp
            have hq := LD (by omega) hargs.symm hr
            rw [Aa hp]
            rcases hq with rfl | rfl
            · exact ce m (by decide) rfl
            · exact ce m (by decide) rfl
          | ok r =>
            obtain ⟨p,v⟩ := r
            rw [hr] at hp
            obtain ⟨q1,q2,t,q3,q4⟩ := xE h.gm.ok hv (by omega) hargs.symm hr
            have hpl' : p.length < 4294967296 := by rw [q3]; simp only [List.length_append]; omega
            have a3 := lI (m := ⟨p,m.at',m.s,m.e,m.d,m.state,m.ask,m.arg⟩) hpl' v
            rw [Aa hp,ah (az (by omega)),ah (az (by omega)),ed a3]
            rfl
        · rw [if_pos hargs,ap (c7 (A9 (fun h => hargs h.symm)))]
          exact ce m (by decide) rfl
      exact qj prim (fun q m' hx => by rw [G9 hx])
    rw [if_neg h8,ah (az h8)]
    by_cases h7 : (nod m.pool f).kind = 7
    · rw [if_pos h7,ap (aJ h7)]
      unfold DP
      by_cases h1 : l.length = 1
      · have hs := pt h.gm.ok hf (.inr (.inr h7))
        have hfr : V 234 [eP m.pool,.int .i64 (nod m.pool f).a,.int .i64 4] = _ := zO h.gm.ok (by omega) hs (many := 4) (by omega)
        rw [if_neg (by omega),ah (cq (pc (by omega))),Aq (by omega)]
        obtain ⟨v,rfl⟩ : ∃ v,l = [v] := by
          match l,h1 with
          | [v],_ => exact ⟨v,rfl⟩
          | [],h => simp at h
          | _ :: _ :: _,h => simp at h
        cases hq : qA m.pool (nod m.pool f).a 4 with
        | none =>
          rw [hq] at hfr
          rw [gi hfr]
          exact ce m (by decide) rfl
        | some nr =>
          obtain ⟨n,r⟩ := nr
          rw [hq] at hfr
          have hlen := xD (by omega) hq
          obtain ⟨s,e,d,rfl⟩ : ∃ s e d,r = [s,e,d] := by
            match r,hlen with
            | [s,e,d],_ => exact ⟨s,e,d,rfl⟩
            | [],h => simp at h
            | [_],h => simp at h
            | [_,_],h => simp at h
            | _ :: _ :: _ :: _ :: _,h => simp at h
          have a3 := lI (m := ⟨m.pool,n,s,e,d,m.state,m.ask,m.arg⟩) (by show m.pool.length < _; omega) v
          by_cases h5 : dt c n = true
          · simp only [h5,if_true]
            rw [gi hfr,Bool.not_true,ae,di,j0,CW,di,ed a3]
            rfl
          · have h5f : dt c n = false := by cases hz : dt c n with | true => exact absurd hz h5 | false => rfl
            simp only [h5f]
            refine .inr ⟨rfl,sG ⟨m.pool,n,s,e,d,m.state,m.ask,m.arg⟩ v,h5f,?_⟩
            rw [gi hfr,Bool.not_true,ae,di,j0,CW,di,ed a3]
      · rw [if_pos h1,ap (c7 (A9 (l := l) (k := 1) (fun h => h1 (by omega))))]
        exact ce m (by decide) rfl
    · rw [if_neg h7,ah (az h7)]
      exact ce m (by decide) rfl
end Go.Eng
/-! a step of a machine: the program's side: every instruction; runs -/
namespace Go.Eng
open Go.Proofs Go.Proofs.Tryz
set_option maxHeartbeats 4000000

theorem ug {q : List Nd} {v : Int} (hv : InP q v) : bx q [v] = true := by
  simp only [bx,List.all_cons,List.all_nil,Bool.and_true]
  exact wi_iff.2 ⟨hv.1,by omega⟩
theorem EJ {l : List Int} {v : Int} (h : 0 ≤ v ∧ v < (l.length : Int)) {R : Type} (K : Int → Option R) : grd (decide (0 ≤ v) && decide (v < ni (l.map eI).length)) (am (l.map eI) v.toNat fun x => asI .i64 x fun n => K n) = K (l.getD v.toNat 0) := by
  obtain ⟨u,hu⟩ := gl (l := l) h.1 h.2
  rw [jJ h.1 hu]
  simp [hu]
theorem KE {q acc : List Nd} (hp : aW q = true) {v : Int} (hv : InP q v) (hc : acc.length + q.length < 4294967296) : V 93 [rP acc,eP q,.int .i64 v] = some (.int .i64 (fM (-1) q v acc).2,[rP (fM (-1) q v acc).1]) := by
  have hm : V 137 [rP acc,eP q,.rs (1,0) [.int .i64 v]] = _ := FJ (acc := acc) hp (rs := [v]) (by simp) (ug hv) hc
  have hl : (eF (-1) q [v] acc).1.length = q.length := by unfold eF; rw [gR]; simp
  rw [ra,pH hm,EJ ⟨hv.1,by rw [hl]; exact hv.2⟩]
  rfl
theorem kf {c : Cd} (hc : c.list.length ≤ 400) {m : Mc} {n : Int} {X : Option Ret} (h : X = match dt c n with
    | false => some (.int .i64 7,[eSt c m])
    | true => some (.int .i64 0,[eSt c ⟨m.pool,n,m.s,m.e,m.d,m.state,m.ask,m.arg⟩])) : sx c X (goM c (.ok m) n) := by
  unfold goM
  cases hp : dt c n with
  | false => rw [hp] at h; exact ⟨by decide,m,h⟩
  | true => rw [hp] at h; exact h
theorem JA {c : Cd} (hf : FitsC c) (hok : c9 c = true) {m : Mc} (hr : RunM c m) (hl : m.pool.length ≤ 3000) {x : In} {k : Nat} (hx : c.list[k]? = some x) : sx c (V 134 [eSt c m,eIn x]) (lr c m x) := by
  obtain ⟨c1,c2,c3⟩ := dA hok
  have cl := bV c1
  have hin := mY hok hx
  have hat := isPl_iff.1 hr.pl
  have w1 : IntKind.wrap IntKind.i64 (m.at' + 1) = m.at' + 1 := w64 (by omega) (by omega)
  rw [qY]
  unfold lr
  by_cases h1 : x.op = 1
  · have hlit := yK hin h1
    have f := qF c1 hr.gm.ok hlit (-1)
    obtain ⟨f1,f2,t,f3,f4⟩ := f
    have hlen := congrArg List.length f3
    rw [List.length_append] at hlen
    have h2 := KE (acc := m.pool) c1 hlit (by omega)
    have h3 := jQ (c := c) (m := ⟨(fM (-1) c.pool x.n m.pool).1,m.at',m.s,m.e,m.d,m.state,m.ask,m.arg⟩) (by show (fM (-1) c.pool x.n m.pool).1.length < _; omega) (fM (-1) c.pool x.n m.pool).2
    rw [if_pos h1,ap (aJ h1),uQ h2,dg h3,w1,ck (jc c2 _)]
    refine kf c2 ?_
    cases dt c (m.at' + 1) <;> rfl
  rw [if_neg h1,ah (az h1)]
  by_cases h2 : x.op = 2
  · have hv := Ie hin h2
    have hX := zd (c := c) (m := m) hr.gm.ok (by omega) hr.gm.e (o := x.n) (i := x.i) (by omega) (by omega) (by omega) (by omega)
    rw [if_pos h2,ap (aJ h2)]
    cases e : Ep m x.n x.i with
    | ok m' =>
      rw [e] at hX
      rw [j6 (jw hX),ap (aJ rfl),w1,ck (jc c2 _)]
      refine kf c2 ?_
      cases dt c (m.at' + 1) <;> rfl
    | error q =>
      rw [e] at hX
      obtain ⟨q0,m',hx'⟩ := gy hX
      rw [j6 hx',ah (az q0),w1]
      exact ⟨q0,⟨m'.pool,m.at' + 1,m'.s,m'.e,m'.d,m'.state,m'.ask,m'.arg⟩,rfl⟩
  rw [if_neg h2,ah (az h2)]
  by_cases h3 : x.op = 3
  · have hX := Ez hf hok (m := m) (by omega) x.s
    rw [if_pos h3,ap (aJ h3)]
    cases e : qc c m x.s with
    | ok m' =>
      rw [e] at hX
      rw [lU (jw hX),ap (aJ rfl),w1,ck (jc c2 _)]
      refine kf c2 ?_
      cases dt c (m.at' + 1) <;> rfl
    | error q =>
      rw [e] at hX
      obtain ⟨q0,m',hx'⟩ := gy hX
      rw [lU hx',ah (az q0),w1]
      exact ⟨q0,⟨m'.pool,m.at' + 1,m'.s,m'.e,m'.d,m'.state,m'.ask,m'.arg⟩,rfl⟩
  rw [if_neg h3,ah (az h3)]
  by_cases h5 : x.op = 5
  · rw [if_pos h5,ap (aJ h5),ck (jc c2 _)]
    refine kf c2 ?_
    cases dt c x.n <;> rfl
  rw [if_neg h5,ah (az h5)]
  by_cases h6 : x.op = 6
  · have hfn := xN hin h6
    have h7 := lm (p := m.pool) (by omega) (ndF (8 * x.n + x.i) m.e)
    have h8 := jQ (c := c) (m := ⟨m.pool ++ [ndF (8 * x.n + x.i) m.e],m.at',m.s,m.e,m.d,m.state,m.ask,m.arg⟩) (by simp; omega) m.pool.length
    rw [if_pos h6,ap (aJ h6),w64 (n := 8 * x.n) (by omega) (by omega),w64 (n := 8 * x.n + x.i) (by omega) (by omega),cj h7,dg h8,w1,ck (jc c2 _)]
    refine kf c2 ?_
    cases dt c (m.at' + 1) <;> rfl
  rw [if_neg h6,ah (az h6)]
  cases ht : gz m with
  | none =>
    have h1 := oH (c := c) hr.gm.s ht
    rw [dZ h1]
    exact ⟨by decide,m,rfl⟩
  | some q =>
    obtain ⟨v,m1⟩ := q
    have hX := uI (c := c) hr.gm.s ht
    obtain ⟨g1,g2,g3,g4,g5,g6,g7,g8⟩ := gA hr.gm ht
    rw [dZ hX,Bool.not_true,ae,jd g2,w1]
    simp only
    by_cases h4 : x.op = 4
    · rw [ap (aJ h4)]
      by_cases k2 : (nod m1.pool v).kind = 2
      · rw [ap (aJ k2)]
        by_cases k0 : (nod m1.pool v).n = 0
        · rw [ap (aJ k0),if_pos ⟨h4,k2,k0⟩,ck (jc c2 _)]
          refine kf c2 ?_
          cases dt c x.n <;> rfl
        · rw [ah (az k0),if_neg (fun h => k0 h.2.2),ck (jc c2 _)]
          refine kf c2 ?_
          cases dt c (m.at' + 1) <;> rfl
      · rw [ah (az k2),if_neg (fun h => k2 h.2.1),ck (jc c2 _)]
        refine kf c2 ?_
        cases dt c (m.at' + 1) <;> rfl
    · rw [ah (az h4),if_neg (fun h => h4 h.1),ck (jc c2 _)]
      refine kf c2 ?_
      cases dt c (m.at' + 1) <;> rfl

theorem NF {m : Mc} (hl : m.pool.length ≤ 4294967296) (q : Int) : V 92 [eMc m,.int .i64 q] = some (oMc (AF m q),[]) := by
  rw [DK,ge (gB hl)]
  rfl
theorem Ot {c : Cd} (hf : FitsC c) (hok : c9 c = true) {m : Mc} (hr : RunM c m) (hl : m.pool.length ≤ 3000) : V 64 [eCd c,eMc m] = some (oMc (jN c m),[]) := by
  obtain ⟨c1,c2,c3⟩ := dA hok
  have cl := bV c1
  obtain ⟨x,hx⟩ := Ce hr
  have hin := mY hok hx
  have hat := isPl_iff.1 hr.pl
  have hgd : c.list.getD m.at'.toNat ⟨0,0,0,⟨#[]⟩⟩ = x := by rw [List.getD_eq_getElem?_getD,hx]; rfl
  have hfail := fun q => NF (m := m) (by omega) q
  have big : ∀ {m' : Mc},doM c m = .ok m' → m'.pool.length < 4294967296 := fun e => by
    obtain ⟨g1,⟨t,g2,g3⟩,g4⟩ := xT hok hr e
    have hlen := congrArg List.length g2
    rw [List.length_append] at hlen
    omega
  rw [Ky,ge (gB (by omega)),av (by rw [List.length_map]; simp only [ni,Bool.and_eq_true,decide_eq_true_eq]; omega),al hx,NT]
  have hdo : doM c m = if x.op = 7 then fg c m x.i.toNat else if x.op = 8 then pd c m else lr c m x := by unfold doM; rw [hgd]
  unfold jN
  by_cases h7 : x.op = 7
  · rw [if_pos h7] at hdo
    rw [hdo] at big ⊢
    have hX := Dg c2 hr hl (uG hin h7)
    rw [ap (aJ h7)]
    cases e : fg c m x.i.toNat with
    | ok m' =>
      rw [e] at hX
      have hb := big e
      rw [kz (jw hX),ap (aJ rfl),List.length_map]
      simp only
      by_cases h3 : m'.pool.length ≤ 3000
      · rw [ah (decide_eq_false (by simp only [ni]; omega)),ah (cq rfl),if_pos h3]
      · rw [ap (decide_eq_true (by simp only [ni]; omega)),gY (hfail 6),if_neg h3]
    | error q =>
      rw [e] at hX
      obtain ⟨q0,m',hx'⟩ := gy hX
      rw [kz hx',ah (az q0),ap (c7 q0),gY (hfail q)]
  rw [if_neg h7] at hdo
  rw [ah (az h7)]
  by_cases h8 : x.op = 8
  · rw [if_pos h8] at hdo
    rw [hdo] at big ⊢
    have hX := Nj c2 hr hl
    rw [ap (aJ h8)]
    cases e : pd c m with
    | ok m' =>
      rw [e] at hX
      have hb := big e
      rw [pb (jw hX),ap (aJ rfl),List.length_map]
      simp only
      by_cases h3 : m'.pool.length ≤ 3000
      · rw [ah (decide_eq_false (by simp only [ni]; omega)),ah (cq rfl),if_pos h3]
      · rw [ap (decide_eq_true (by simp only [ni]; omega)),gY (hfail 6),if_neg h3]
    | error q =>
      rw [e] at hX
      obtain ⟨q0,m',hx'⟩ := gy hX
      rw [pb hx',ah (az q0),ap (c7 q0),gY (hfail q)]
  rw [if_neg h8] at hdo
  rw [ah (az h8)]
  rw [hdo] at big ⊢
  have hX := JA hf hok hr hl hx
  cases e : lr c m x with
  | ok m' =>
    rw [e] at hX
    have hb := big e
    rw [nh (jw hX),ap (aJ rfl),List.length_map]
    simp only
    by_cases h3 : m'.pool.length ≤ 3000
    · rw [ah (decide_eq_false (by simp only [ni]; omega)),ah (cq rfl),if_pos h3]
    · rw [ap (decide_eq_true (by simp only [ni]; omega)),gY (hfail 6),if_neg h3]
  | error q =>
    rw [e] at hX
    obtain ⟨q0,m',hx'⟩ := gy hX
    rw [nh hx',ah (az q0),ap (c7 q0),gY (hfail q)]
theorem Iu {c : Cd} (hf : FitsC c) {m : Mc} (hm : lu m.pool) (hl : m.pool.length ≤ 4294967296) : V 17 [eCd c,eMc m] = some (oMc (z8 c m),[]) := by
  have h1 := mI hf hm (by omega)
  rw [I6,pE h1]
  unfold z8
  cases h : gu c m with
  | false => rw [Bool.not_false,ar,if_neg (by simp)]; rfl
  | true =>
    rw [Bool.not_true,ae,if_pos rfl]
    by_cases h0 : m.state = 0
    · obtain ⟨r1,r2,r3⟩ := pJ h h0
      rw [ah (cq h0),zQ (Ot hf r2 r1 r3),if_pos h0]
    · rw [ap (c7 h0),ge (gB hl),if_neg h0]
theorem NH {m : Mc} (hf : lu m.pool) (hl : m.pool.length ≤ 4294967296) : V 73 [oMc m] = some (oMc (d5 m),[]) := by
  rw [BQ,List.length_map]
  unfold d5
  by_cases h : m.pool.length ≤ 2000
  · rw [ah (decide_eq_false (by simp only [ni]; omega)),if_pos h]
  · rw [ap (decide_eq_true (by simp only [ni]; omega)),Mj (EF hf hl),if_neg h]
theorem vk {c : Cd} (hf : FitsC c) {steps : Int} : ∀ (k : Nat) {m : Mc} (n : Int),gu c m = true → 0 ≤ n → ((n + k = mnI steps 2000) ∨ (k = 0 ∧ mnI steps 2000 ≤ n)) → n ≤ 2000 →
    ip steps n (c.pool.map eN) (c.list.map eIn) (c.defs.map eDf) m.at' m.s m.e m.d m.state m.ask m.arg 0 0 0 0 0 0 0 (m.pool.map eN) = some (.tup [oMc (g9 c k m).1,.int .i64 (n + (g9 c k m).2)],[])
  | 0,m,n,h,hn,hk,h2 => by
    rw [lL]
    by_cases h0 : m.state = 0
    · rw [ap (aJ h0),ah (decide_eq_false (by omega))]
      simp [g9]
    · rw [ah (az h0)]
      simp [g9]
  | k + 1,m,n,h,hn,hk,h2 => by
    have mn : mnI steps 2000 ≤ 2000 := by unfold mnI; split <;> omega
    rw [lL]
    unfold g9
    by_cases h0 : m.state = 0
    · obtain ⟨r1,r2,r3⟩ := pJ h h0
      have s1 := yo h h0
      obtain ⟨q1,q2,q3,q4⟩ := nN s1
      have ht := NH (rQ q2) (by omega)
      have t1 : gu c (d5 (jN c m)) = true := by
        unfold d5
        split
        · exact s1
        · exact BG s1
      have ih := vk hf (steps := steps) k (m := d5 (jN c m)) (n + 1) t1 (by omega) (.inl (by omega)) (by omega)
      rw [ap (aJ h0),ap (decide_eq_true (by omega)),zQ (Ot hf r2 r1 r3),IR ht,w64 (n := n + 1) (by omega) (by omega),ih,if_pos h0]
      simp only [Int.natCast_add,Int.natCast_one]
      rw [show n + 1 + ((g9 c k (d5 (jN c m))).2 : Int) = n + (((g9 c k (d5 (jN c m))).2 : Int) + 1) by omega]
    · rw [ah (az h0),if_neg h0]
      simp
theorem zg {c : Cd} (hf : FitsC c) {m : Mc} (hm : lu m.pool) (hl : m.pool.length ≤ 4294967296) (steps : Int) : V 22 [eCd c,eMc m,.int .i64 steps] = some (.tup [oMc (xq c m steps).1,.int .i64 (xq c m steps).2],[]) := by
  have h1 := mI hf hm (by omega)
  rw [DD,pE h1]
  unfold xq
  cases h : gu c m with
  | false =>
    have h2 := Iu hf hm hl
    rw [Bool.not_false,ar,MU h2,if_neg (by simp)]
    unfold z8
    rw [if_neg (by simp [h])]
    rfl
  | true =>
    have hlo := vk hf (steps := steps) (mnI steps 2000).toNat 0 h (Int.le_refl _) (by omega) (by omega)
    rw [Bool.not_true,ae,ge (gB hl),if_pos rfl]
    simp only [Int.zero_add] at hlo
    exact hlo

end Go.Eng
/-! a step of a machine: the reference's side: instructions,steps,runs,answers -/
namespace Go.Eng
open Go.Proofs Go.Proofs.Tryz
set_option maxHeartbeats 4000000

theorem KH {q : List Nd} (hp : aW q = true) {v : Int} (hv : InP q v) (acc : List Nd) (d d' : Int) : fM d q v acc = fM d' q v acc := by
  have h := qN hp (gD hp [v]) (fp q [v]) d d' q.length [] [] acc rfl (Nat.zero_add _) (fun _ _ => rfl)
  unfold fM
  refine Prod.ext h.1 ?_
  have := h.2 v.toNat (jD (ug hv) v (by simp))
  simp only [List.getD_eq_getElem?_getD]
  exact congrArg (fun o => Option.getD o 0) this
theorem OI {q acc : List Nd} (hp : aW q = true) {v : Int} (hv : InP q v) (hc : acc.length + q.length < 4294967296) : V 96 [rP acc,eP q,.int .i64 v] = some (.int .i64 (fM (-1) q v acc).2,[rP (fM (-1) q v acc).1]) := by
  have h1 : V 149 [eP q,.rs (1,0) [.int .i64 v]] = _ := AQ hp (l := [v]) (by simp) (ug hv)
  have h2 := Gf (acc := acc) hp (rs := [v]) hc
  have hl : (eF 0 q [v] acc).1.length = q.length := by unfold eF; rw [gR]; simp
  rw [KH hp hv acc (-1) 0,CZ,tw h1,vV h2,EJ ⟨hv.1,by rw [hl]; exact hv.2⟩]
  rfl

theorem Rv {R : Type} (x : Df) (K : Int → Option R) : (asAgg (eDf x) fun l => am l 1 fun y => asI .i64 y fun n => K n) = K x.at' := rfl
theorem Ra {R : Type} (x : Df) (K : Int → Option R) : (asAgg (eDf x) fun l => am l 2 fun y => asI .i64 y fun n => K n) = K x.args := rfl
theorem Fe {c : Cd} {x : In} {k : Int} (h : oE c x k = true) (h1 : ¬ x.op = 1) (h2 : ¬ x.op = 2) (h3 : ¬ x.op = 3) (h4 : ¬ x.op = 4) (h5 : ¬ x.op = 5) (h6 : ¬ x.op = 6) (h7 : ¬ x.op = 7) (h8 : ¬ x.op = 8) : x.op = 9 := by
  unfold oE at h
  rw [if_neg h1,if_neg h2,if_neg h3,if_neg (by omega),if_neg h6,if_neg h7] at h
  split at h
  · omega
  · cases h
theorem I5 {c : Cd} (hf : FitsC c) (hc : c9 c = true) {m : Mc} (hl : m.pool.length < 4294967200) (s : ByteArray) : uM c (V 217 [eCd c,eMo m,.str s]) (qc c m s) := by
  have hd := tj hf s
  have c2 := (dA hc).2.1
  rw [xF,Jr hd]
  unfold qc
  by_cases h0 : 0 ≤ j5 c s
  · obtain ⟨d,hg⟩ := uK h0
    have hok := ue hc hg
    unfold D4 at hok
    simp only [Bool.and_eq_true] at hok
    have a1 := wi_iff.1 hok.2.2.1
    have a2 := wi_iff.1 hok.2.2.2
    have hlt := aK hg
    have h1 := cM (p := m.pool) (by omega) ndN
    have h2 := cM (p := m.pool ++ [ndN]) (by simp; omega) (ndF (8 * d.at' + d.args) m.pool.length)
    have h3 := lI (m := ⟨m.pool ++ [ndN] ++ [ndF (8 * d.at' + d.args) m.pool.length],m.at',m.s,m.e,m.d,m.state,m.ask,m.arg⟩) (by simp; omega) (m.pool.length + 1)
    have e1 : IntKind.wrap .i64 (IntKind.wrap .i64 (8 * d.at') + d.args) = 8 * d.at' + d.args := by rw [w64 (n := 8 * d.at') (by omega) (by omega),w64 (by omega) (by omega)]
    have e2 : ((m.pool ++ [ndN]).length : Int) = m.pool.length + 1 := by simp
    rw [e2] at h2
    have hgr : (decide (0 ≤ j5 c s) && decide (j5 c s < ni (c.defs.map eDf).length)) = true := by rw [List.length_map]; simp only [ni,Bool.and_eq_true,decide_eq_true_eq]; omega
    rw [if_pos h0,ap (decide_eq_true h0),bm h1,av hgr,al hg,Rv,av hgr,al hg,Ra]
    simp only [List.getD_eq_getElem?_getD,hg,Option.getD_some]
    rw [e1,bm h2,ed h3]
    rfl
  · rw [if_neg h0,ah (decide_eq_false h0)]
    have hp := zt s
    have hb := o8 s
    rw [GJ hp]
    by_cases hz : gt s = 0
    · rw [if_pos hz,ap (aJ hz)]
      exact ce m (by decide) rfl
    · have h1 := cM (p := m.pool) (by omega) (ndR (gt s))
      have h3 := lI (m := ⟨m.pool ++ [ndR (gt s)],m.at',m.s,m.e,m.d,m.state,m.ask,m.arg⟩) (by simp; omega) m.pool.length
      rw [if_neg hz,ah (az hz),bm h1,ed h3]
      rfl
theorem OJ {c : Cd} (hc : c.list.length ≤ 400) {m : Mc} (hr : RunM c m) (hl : m.pool.length ≤ 3000) : uM c (V 220 [eMo m]) (pd c m) := by
  rw [C7]
  unfold pd
  cases ht : gz m with
  | none =>
    have h1 := lP hr.gm.s ht
    rw [dE h1]
    exact ce m (by decide) rfl
  | some q =>
    obtain ⟨v,m1⟩ := q
    have h1 := sI hr.gm.s ht
    obtain ⟨g1,g2,g3,g4,g5,g6,g7,g8⟩ := gA hr.gm ht
    rw [dE h1,Bool.not_true,ae,jd g1.d]
    simp only
    by_cases k1 : (nod m1.pool m1.d).kind = 1
    · rw [if_pos k1,ap (aJ k1)]; rfl
    rw [if_neg k1,ah (az k1)]
    by_cases k5 : (nod m1.pool m1.d).kind = 5
    · rw [if_neg (fun h => h k5),ah (cq k5)]
      have ha := pt g1.ok g1.d (.inl k5)
      have hfr : V 234 [eP m1.pool,.int .i64 (nod m1.pool m1.d).a,.int .i64 3] = _ := zO g1.ok (by rw [g3]; omega) ha (many := 3) (by omega)
      rw [Aq (by omega)]
      cases hq : qA m1.pool (nod m1.pool m1.d).a 3 with
      | none =>
        rw [hq] at hfr
        rw [gi hfr]
        exact ce m1 (by decide) rfl
      | some nr =>
        obtain ⟨n,r⟩ := nr
        rw [hq] at hfr
        have hlen := xD (by omega) hq
        obtain ⟨s,e,rfl⟩ : ∃ s e,r = [s,e] := by
          match r,hlen with
          | [s,e],_ => exact ⟨s,e,rfl⟩
          | [],h => simp at h
          | [_],h => simp at h
          | _ :: _ :: _ :: _,h => simp at h
        have a3 := lI (m := ⟨m1.pool,n,s,e,(nod m1.pool m1.d).b,m1.state,m1.ask,m1.arg⟩) (by show m1.pool.length < _; rw [g3]; omega) v
        by_cases h5 : dt c n = true
        · simp only [h5,if_true]
          rw [gi hfr,Bool.not_true,ae,di,j0,ed a3]
          rfl
        · have h5f : dt c n = false := by cases hz : dt c n with | true => exact absurd hz h5 | false => rfl
          simp only [h5f]
          refine .inr ⟨rfl,sG ⟨m1.pool,n,s,e,(nod m1.pool m1.d).b,m1.state,m1.ask,m1.arg⟩ v,h5f,?_⟩
          rw [gi hfr,Bool.not_true,ae,di,j0,ed a3]
    · rw [if_pos k5,ap (c7 k5)]
      exact ce m1 (by decide) rfl
theorem OE {c : Cd} {n : Int} (h : dt c n = false) (h0 : 0 ≤ n) : (c.list.length : Int) ≤ n := by
  rcases Int.lt_or_le n c.list.length with h1 | h1
  · have := isPl_iff.2 ⟨h0,(by omega : n ≤ (c.list.length : Int) - 1)⟩
    rw [h] at this; cases this
  · exact h1
theorem uX {c : Cd} (hc : c.list.length ≤ 400) : ∀ (k : Nat) {m : Mc} {acc : List Int},k + acc.length ≤ 4 → RunM c m → m.pool.length ≤ 3000 → (∀ v ∈ acc,InP m.pool v) →
    uM c (iZ (m.at' + 1) ((k : Int) - 1) m.at' m.s m.e m.d m.state m.ask m.arg (c.pool.map eN) (c.list.map eIn) (c.defs.map eDf) ((List.replicate k 0 ++ acc).map eI) (m.pool.map eN)) (if dt c (m.at' + 1) = false then .error 7 else match iJ (k + 1) m with
      | none => .error 7
      | some (l,m') => gT c 3 m' (l.getD k 0) ((l.take k).reverse ++ acc))
  | 0,m,acc,hk,hr,hl,hv => by
    have hpl := isPl_iff.1 hr.pl
    rw [lG,ah (decide_eq_false (by omega))]
    simp only [iJ]
    cases ht : gz m with
    | none =>
      have h1 := lP hr.gm.s ht
      rw [dE h1]
      simp only [ite_self]
      exact ce m (by decide) rfl
    | some q =>
      obtain ⟨v,m1⟩ := q
      have h1 := sI hr.gm.s ht
      obtain ⟨g1,g2,g3,g4,g5,g6,g7,g8⟩ := gA hr.gm ht
      rw [dE h1,Bool.not_true,ae,List.length_map]
      simp only [List.getD_cons_zero,List.take_zero,List.reverse_nil,List.nil_append,List.replicate_zero]
      cases hp : dt c (m.at' + 1) with
      | false =>
        have := OE hp (by omega)
        rw [if_pos rfl,ap (decide_eq_true (by simp only [ni]; omega))]
        exact ce m1 (by decide) rfl
      | true =>
        have := isPl_iff.1 hp
        have hr1 : RunM c m1 := ⟨g1,g5.trans hr.st,g6.trans hr.ask,g7.trans hr.arg,by rw [g4]; exact hr.pl⟩
        have hva : ∀ u ∈ acc,InP m1.pool u := fun u hu => by rw [g3]; exact hv u hu
        have ha := zW hc 3 hr1 (f := v) (l := acc) (by rw [g4]; exact hp) (by rw [g3]; omega) g2 hva (by omega) (tk 3 hva (.inl (Nat.le_refl _)))
        rw [g4] at ha
        rw [if_neg (by simp),ah (decide_eq_false (by simp only [ni]; omega))]
        exact qj ha (fun q m' hx => by rw [sU hx])
  | k + 1,m,acc,hk,hr,hl,hv => by
    have e1 : (((k + 1 : Nat) : Int) - 1) = (k : Int) := by omega
    rw [lG,e1,ap (decide_eq_true (by omega))]
    rw [iJ]
    cases ht : gz m with
    | none =>
      have h1 := lP hr.gm.s ht
      rw [dE h1]
      simp only [ite_self]
      exact ce m (by decide) rfl
    | some q =>
      obtain ⟨v,m1⟩ := q
      have h1 := sI hr.gm.s ht
      obtain ⟨g1,g2,g3,g4,g5,g6,g7,g8⟩ := gA hr.gm ht
      have ih := uX hc k (m := m1) (acc := v :: acc) (by simp only [List.length_cons]; omega) ⟨g1,g5.trans hr.st,g6.trans hr.ask,g7.trans hr.arg,by rw [g4]; exact hr.pl⟩ (by rw [g3]; exact hl) (fun u hu => by
        rcases List.mem_cons.1 hu with rfl | hu
        · exact g2
        · rw [g3]; exact hv u hu)
      rw [g4] at ih
      have aI : (List.replicate (k + 1) (0 : Int) ++ acc)[k]? = some 0 := by
        rw [List.getElem?_append_left (by simp)]; simp
      have hset : List.set ((List.replicate (k + 1) (0 : Int) ++ acc).map eI) k (D.int .i64 v) = (List.replicate k 0 ++ v :: acc).map eI := by
        rw [← List.map_set (f := eI) (a := v),List.replicate_succ',List.append_assoc]
        simp
      rw [dE h1,Bool.not_true,ae,av (by rw [List.length_map]; exact bG (by simp only [List.length_append,List.length_replicate]; omega)),Int.toNat_natCast,al aI,be,hset,w64 (n := (k : Int) - 1) (by omega) (by omega)]
      simp only
      cases ht2 : iJ (k + 1) m1 with
      | none => rw [ht2] at ih; rw [g4] ; exact ih
      | some q2 =>
        obtain ⟨l2,m2⟩ := q2
        rw [ht2] at ih
        simp only [List.getD_cons_succ,List.take_succ_cons,List.reverse_cons,List.append_assoc,List.singleton_append]
        rw [g4]
        exact ih
theorem FC {c : Cd} (hc : c.list.length ≤ 400) {m : Mc} (hr : RunM c m) (hl : m.pool.length ≤ 3000) {k : Int} (hk : 0 ≤ k ∧ k ≤ 4) : uM c (V 219 [eCd c,eMo m,.int .i64 k,.int .i64 (m.at' + 1)]) (fg c m k.toNat) := by
  have h := uX hc k.toNat (m := m) (acc := []) (by simp only [List.length_nil]; omega) hr hl (by simp)
  rw [CX,av (by rw [cU]; simp only [Bool.and_eq_true,decide_eq_true_eq]; omega),w64 (n := k - 1) (by omega) (by omega)]
  rw [Int.toNat_of_nonneg hk.1,List.append_nil,List.map_replicate] at h
  unfold fg
  cases ht : iJ (k.toNat + 1) m with
  | none => rw [ht] at h; exact h
  | some q =>
    obtain ⟨l,m'⟩ := q
    obtain ⟨f1,f2,f3,f4,f5,f6,f7,f8,f9⟩ := qX hr.gm ht
    rw [ht] at h
    simp only [List.append_nil] at h ⊢
    obtain ⟨l0,f,rfl⟩ : ∃ l0 f,l = l0 ++ [f] := ⟨l.dropLast,l.getLast (by intro e; subst e; simp at f3),(List.dropLast_concat_getLast _).symm⟩
    have e3 : l0.length = k.toNat := by simpa using f3
    have e4 : (l0 ++ [f]).getD k.toNat 0 = f := by rw [← e3]; simp
    have e5 : (l0 ++ [f]).take k.toNat = l0 := by rw [← e3]; simp
    rw [e4,e5] at h
    simp only [List.reverse_append,List.reverse_cons,List.reverse_nil,List.nil_append,List.singleton_append,List.getD_cons_zero,List.drop_one,List.tail_cons]
    exact h
theorem kc {c : Cd} {m : Mc} {n : Int} {X : Option Ret} (h : X = some (.int .i64 0,[eMo ⟨m.pool,n,m.s,m.e,m.d,m.state,m.ask,m.arg⟩])) : uM c X (goM c (.ok m) n) := by
  unfold goM
  cases hp : dt c n with
  | false => exact .inr ⟨rfl,_,hp,h⟩
  | true => exact h
theorem Qx {c : Cd} (hf : FitsC c) (hok : c9 c = true) {m : Mc} (hr : RunM c m) (hl : m.pool.length ≤ 3000) {x : In} {k : Nat} (hx : c.list[k]? = some x) : uM c (V 196 [eCd c,eMo m,eIn x]) (if x.op = 7 then fg c m x.i.toNat else if x.op = 8 then pd c m else lr c m x) := by
  obtain ⟨c1,c2,c3⟩ := dA hok
  have cl := bV c1
  have hin := mY hok hx
  have hat := isPl_iff.1 hr.pl
  have w1 : IntKind.wrap IntKind.i64 (m.at' + 1) = m.at' + 1 := w64 (by omega) (by omega)
  rw [Jw]
  by_cases h7 : x.op = 7
  · rw [if_pos h7,ah (az (by omega)),ah (az (by omega)),ah (az (by omega)),ah (az (by omega)),ah (az (by omega)),ah (az (by omega)),ap (aJ h7),w1]
    exact qj (FC c2 hr hl (uG hin h7)) (fun q m' hx => by rw [Ee hx])
  rw [if_neg h7]
  by_cases h8 : x.op = 8
  · rw [if_pos h8,ah (az (by omega)),ah (az (by omega)),ah (az (by omega)),ah (az (by omega)),ah (az (by omega)),ah (az (by omega)),ah (az (by omega)),ap (aJ h8)]
    exact qj (OJ c2 hr hl) (fun q m' hx => by rw [Iz hx])
  rw [if_neg h8]
  unfold lr
  by_cases h1 : x.op = 1
  · have hlit := yK hin h1
    have f := qF c1 hr.gm.ok hlit (-1)
    obtain ⟨f1,f2,t,f3,f4⟩ := f
    have hlen := congrArg List.length f3
    rw [List.length_append] at hlen
    have h2 := OI (acc := m.pool) c1 hlit (by omega)
    have h3 := lI (m := ⟨(fM (-1) c.pool x.n m.pool).1,m.at',m.s,m.e,m.d,m.state,m.ask,m.arg⟩) (by show (fM (-1) c.pool x.n m.pool).1.length < _; omega) (fM (-1) c.pool x.n m.pool).2
    rw [if_pos h1,ap (aJ h1),Fa h2,ed h3,w1]
    exact kc rfl
  rw [if_neg h1,ah (az h1)]
  by_cases h2 : x.op = 2
  · have hv := Ie hin h2
    have hX := La hr.gm.ok hr.gm.e (n := x.n) (by omega) (by omega)
    rw [if_pos h2,ap (aJ h2)]
    unfold Ep
    cases e1 : pj m.pool x.n.toNat m.e with
    | none =>
      rw [e1] at hX
      rw [nY hX]
      exact ce m (by decide) rfl
    | some fr =>
      rw [e1] at hX
      have hY := La hr.gm.ok (s6 hr.gm.ok _ _ _ hr.gm.e e1) (n := x.i) (by omega) (by omega)
      rw [nY hX,Bool.not_true,ae]
      simp only
      cases e2 : pj m.pool x.i.toNat fr with
      | none =>
        rw [e2] at hY
        rw [nY hY]
        exact ce m (by decide) rfl
      | some v =>
        rw [e2] at hY
        have h3 := lI (m := m) (by omega) v
        rw [nY hY,Bool.not_true,ae,ed h3,w1]
        exact kc rfl
  rw [if_neg h2,ah (az h2)]
  by_cases h3 : x.op = 3
  · have hX := I5 hf hok (m := m) (by omega) x.s
    rw [if_pos h3,ap (aJ h3)]
    cases e : qc c m x.s with
    | ok m' =>
      rw [e] at hX
      rw [rv (Da hX),ah (cq rfl),w1]
      exact kc rfl
    | error q =>
      rw [e] at hX
      rcases xA hX with ⟨q0,m',hx'⟩ | ⟨q7,m',hp,hx'⟩
      · rw [rv hx',ap (c7 q0)]
        exact ce m' q0 rfl
      · exfalso
        unfold qc at e
        split at e
        · cases e
        · split at e
          · cases e; omega
          · cases e
  rw [if_neg h3,ah (az h3)]
  by_cases h5 : x.op = 5
  · rw [if_pos h5,ah (az (by omega)),ap (aJ h5)]
    exact kc rfl
  rw [if_neg h5]
  by_cases h6 : x.op = 6
  · have hfn := xN hin h6
    have a7 := cM (p := m.pool) (by omega) (ndF (8 * x.n + x.i) m.e)
    have a8 := lI (m := ⟨m.pool ++ [ndF (8 * x.n + x.i) m.e],m.at',m.s,m.e,m.d,m.state,m.ask,m.arg⟩) (by simp; omega) m.pool.length
    rw [if_pos h6,ah (az (by omega)),ah (az (by omega)),ap (aJ h6),w64 (n := 8 * x.n) (by omega) (by omega),w64 (n := 8 * x.n + x.i) (by omega) (by omega),bm a7,ed a8,w1]
    exact kc rfl
  rw [if_neg h6]
  cases ht : gz m with
  | none =>
    have t1 := lP hr.gm.s ht
    by_cases h4 : x.op = 4
    · rw [ap (aJ h4),dE t1]
      exact ce m (by decide) rfl
    · have h9 : x.op = 9 := Fe hin h1 h2 h3 h4 h5 h6 h7 h8
      rw [ah (az h4),ah (az h5),ah (az h6),ah (az h7),ah (az h8),ap (aJ h9),dE t1]
      exact ce m (by decide) rfl
  | some q =>
    obtain ⟨v,m1⟩ := q
    have hX := sI hr.gm.s ht
    obtain ⟨g1,g2,g3,g4,g5,g6,g7,g8⟩ := gA hr.gm ht
    simp only
    by_cases h4 : x.op = 4
    · rw [ap (aJ h4),dE hX,Bool.not_true,ae,jd g2]
      by_cases k2 : (nod m1.pool v).kind = 2
      · rw [ap (aJ k2)]
        by_cases k0 : (nod m1.pool v).n = 0
        · rw [ap (aJ k0),if_pos ⟨h4,k2,k0⟩]
          exact kc rfl
        · rw [ah (az k0),if_neg (fun h => k0 h.2.2),w1]
          exact kc rfl
      · rw [ah (az k2),if_neg (fun h => k2 h.2.1),w1]
        exact kc rfl
    · have h9 : x.op = 9 := Fe hin h1 h2 h3 h4 h5 h6 h7 h8
      rw [ah (az h4),ah (az h5),ah (az h6),ah (az h7),ah (az h8),ap (aJ h9),dE hX,if_neg (fun h => h4 h.1),Bool.not_true,ae,w1]
      exact kc rfl

theorem Pq {m : Mc} (hl : m.pool.length ≤ 4294967296) (q : Int) : V 97 [eMc m,.int .i64 q] = some (oMc (AF m q),[]) := by
  rw [BD,mj (pP hl)]
  rfl
theorem JG {c : Cd} {m : Mc} (h : pT c m = true) (hc : 0 < c.list.length) : dt c m.at' = true := by
  unfold pT at h
  have z : dt c 0 = true := isPl_iff.2 ⟨Int.le_refl _,by omega⟩
  split at h
  · simp only [Bool.and_eq_true] at h; exact h.1
  split at h
  · simp only [Bool.and_eq_true] at h; exact h.1
  split at h
  · simp only [Bool.and_eq_true,beq_iff_eq] at h; rw [h.1]; exact z
  split at h
  · simp only [Bool.and_eq_true,beq_iff_eq] at h; rw [h.1]; exact z
  · cases h
theorem Fx {c : Cd} (hf : FitsC c) (hok : c9 c = true) {m : Mc} (hr : RunM c m) (hl : m.pool.length ≤ 3000) : V 153 [eCd c,eMc m] = some (oMc (jN c m),[]) := by
  obtain ⟨c1,c2,c3⟩ := dA hok
  have cl := bV c1
  obtain ⟨x,hx⟩ := Ce hr
  have hlt := aK hx
  have hat := isPl_iff.1 hr.pl
  have hgd : c.list.getD m.at'.toNat ⟨0,0,0,⟨#[]⟩⟩ = x := by rw [List.getD_eq_getElem?_getD,hx]; rfl
  have hfail := fun q => Pq (m := m) (by omega) q
  have hdo : doM c m = if x.op = 7 then fg c m x.i.toNat else if x.op = 8 then pd c m else lr c m x := by unfold doM; rw [hgd]
  have hX := Qx hf hok hr hl hx
  rw [← hdo] at hX
  have hin : ∀ n : Int,V 62 [.int .i64 n,.int .i64 0,.int .i64 (IntKind.wrap IntKind.i64 (ni c.list.length - 1))] = some (.bool (dt c n),[]) := fun n => by
    rw [w64 (n := ni c.list.length - 1) (by simp only [ni]; omega) (by simp only [ni]; omega)]
    exact d7 n 0 _
  rw [Cy,mj (pP (by omega)),av (by rw [List.length_map]; simp only [ni,Bool.and_eq_true,decide_eq_true_eq]; omega),al hx,NT,List.length_map]
  unfold jN
  cases e : doM c m with
  | ok m' =>
    rw [e] at hX
    obtain ⟨g1,⟨t,g2,g3⟩,g4⟩ := xT hok hr e
    have hlen := congrArg List.length g2
    rw [List.length_append] at hlen
    rw [un (Da hX),ah (cq rfl),dH (hin m'.at'),JG g4 (by omega),Bool.not_true,ae,List.length_map]
    simp only
    by_cases h3 : m'.pool.length ≤ 3000
    · rw [ah (decide_eq_false (by simp only [ni]; omega)),if_pos h3]
    · rw [ap (decide_eq_true (by simp only [ni]; omega)),qn (hfail 6),if_neg h3]
  | error q =>
    rw [e] at hX
    simp only
    rcases xA hX with ⟨q0,m',hx'⟩ | ⟨q7,m',hp,hx'⟩
    · rw [un hx',ap (c7 q0),qn (hfail q)]
    · rw [un hx',ah (cq rfl),dH (hin m'.at'),hp,Bool.not_false,ar,qn (hfail 7),q7]

theorem Ej {c : Cd} (hf : FitsC c) {m : Mc} (hm : lu m.pool) (hl : m.pool.length ≤ 4294967296) : V 89 [eCd c,eMc m] = some (oMc (z8 c m),[]) := by
  have h1 := nG hf hm (by omega)
  rw [Je,qk h1]
  unfold z8
  cases h : gu c m with
  | false => rw [Bool.not_false,ar,if_neg (by simp)]; rfl
  | true =>
    rw [Bool.not_true,ae,if_pos rfl]
    by_cases h0 : m.state = 0
    · obtain ⟨r1,r2,r3⟩ := pJ h h0
      rw [ah (cq h0),vt (Fx hf r2 r1 r3),if_pos h0]
    · rw [ap (c7 h0),mj (pP hl),if_neg h0]
theorem Pu {m : Mc} (hf : lu m.pool) (hl : m.pool.length ≤ 4294967296) : V 162 [oMc m] = some (oMc (d5 m),[]) := by
  rw [Cn,List.length_map]
  unfold d5
  by_cases h : m.pool.length ≤ 2000
  · rw [ah (decide_eq_false (by simp only [ni]; omega)),if_pos h]
  · rw [ap (decide_eq_true (by simp only [ni]; omega)),Mi (Gr hf hl),if_neg h]
theorem xL {c : Cd} (hf : FitsC c) {steps : Int} : ∀ (k : Nat) {m : Mc} (n : Int),gu c m = true → 0 ≤ n → ((n + k = mnI steps 2000) ∨ (k = 0 ∧ mnI steps 2000 ≤ n)) → n ≤ 2000 →
    jr steps n (c.pool.map eN) (c.list.map eIn) (c.defs.map eDf) m.at' m.s m.e m.d m.state m.ask m.arg 0 0 0 0 0 0 0 (m.pool.map eN) = some (.tup [oMc (g9 c k m).1,.int .i64 (n + (g9 c k m).2)],[])
  | 0,m,n,h,hn,hk,h2 => by
    rw [nq,xz (K8 steps 2000),ah (decide_eq_false (by omega))]
    simp [g9]
  | k + 1,m,n,h,hn,hk,h2 => by
    have mn : mnI steps 2000 ≤ 2000 := by unfold mnI; split <;> omega
    rw [nq,xz (K8 steps 2000),ap (decide_eq_true (by omega))]
    unfold g9
    by_cases h0 : m.state = 0
    · obtain ⟨r1,r2,r3⟩ := pJ h h0
      have s1 := yo h h0
      obtain ⟨q1,q2,q3,q4⟩ := nN s1
      have ht := Pu (rQ q2) (by omega)
      have t1 : gu c (d5 (jN c m)) = true := by
        unfold d5
        split
        · exact s1
        · exact BG s1
      have ih := xL hf (steps := steps) k (m := d5 (jN c m)) (n + 1) t1 (by omega) (.inl (by omega)) (by omega)
      rw [ap (aJ h0),vt (Fx hf r2 r1 r3),Gw ht,w64 (n := n + 1) (by omega) (by omega),ih,if_pos h0]
      simp only [Int.natCast_add,Int.natCast_one]
      rw [show n + 1 + ((g9 c k (d5 (jN c m))).2 : Int) = n + (((g9 c k (d5 (jN c m))).2 : Int) + 1) by omega]
    · rw [ah (az h0),if_neg h0]
      simp
theorem PR {c : Cd} (hf : FitsC c) {m : Mc} (h : gu c m = true) (steps : Int) : V 101 [eCd c,oMc m,.int .i64 steps] = some (.tup [oMc (g9 c (mnI steps 2000).toNat m).1,.int .i64 (g9 c (mnI steps 2000).toNat m).2],[]) := by
  have hlo := xL hf (steps := steps) (mnI steps 2000).toNat 0 h (Int.le_refl _) (by omega) (by omega)
  rw [Gy]
  simp only [Int.zero_add] at hlo
  exact hlo
theorem zu {c : Cd} (hf : FitsC c) {m : Mc} (hm : lu m.pool) (hl : m.pool.length ≤ 4294967296) (steps : Int) : V 35 [eCd c,eMc m,.int .i64 steps] = some (.tup [oMc (xq c m steps).1,.int .i64 (xq c m steps).2],[]) := by
  have h1 := nG hf hm (by omega)
  rw [CT,qk h1]
  unfold xq
  cases h : gu c m with
  | false =>
    have h2 := Ej hf hm hl
    rw [Bool.not_false,ar,Me h2,if_neg (by simp)]
    unfold z8
    rw [if_neg (by simp [h])]
    rfl
  | true => rw [Bool.not_true,ae,mj (pP hl),Kh (PR hf h steps),if_pos rfl]
end Go.Eng
/-! the functions as the interpreter has them -/
