/- what is moved is as it was: the plain side -/
import Derived.Test.YtgoidfkdnkjojaaWrite3
import Derived.Test.YtgoidfkdnkjojaaSize
namespace Go.Eng

/-- every node is right where it stands -/
noncomputable def OkAll (p : List Nd) : Prop := ∀ (j : Nat) (x : Nd), p[j]? = some x → okN x j = true
theorem okFrom_of {p : List Nd} (h : OkAll p) : ∀ (k i : Nat), okFrom p i k = true
  | 0, i => rfl
  | k + 1, i => by
    simp only [okFrom, okFrom_of h k (i + 1), Bool.and_true]
    split
    · exact h _ _ ‹_›
    · rfl
theorem okPool_iff {p : List Nd} : okPool p = true ↔ OkAll p ∧ p.length ≤ 3000 := by
  constructor
  · intro h; exact ⟨fun j x hx => okPool_get h hx, okPool_len h⟩
  · rintro ⟨h, hl⟩
    simp only [okPool, okFrom_of h, Bool.true_and, decide_eq_true_eq]; omega
/-- where what is reached stands -/
noncomputable def Moved (q q' : List Nd) (m : List Bool) (to : List Int) : Prop := ∀ (i : Nat) (x : Nd), q[i]? = some x → m[i]? = some true → ∃ j : Nat, to[i]? = some (j : Int) ∧ q'[j]? = some (mvNode to x)
theorem mvNode_ext {pre r : List Int} {x : Nd} {i : Nat} (ho : okN x i = true) (hp : i ≤ pre.length) : mvNode (pre ++ r) x = mvNode pre x := by
  have g : ∀ n : Int, 0 ≤ n → n < i → (pre ++ r).getD n.toNat 0 = pre.getD n.toNat 0 := by
    intro n h0 h1
    simp only [List.getD_eq_getElem?_getD]
    rw [List.getElem?_append_left (by omega)]
  unfold mvNode
  split
  · rename_i h5
    have := okN_pair ho h5
    rw [g _ (by omega) (by omega), g _ (by omega) (by omega)]
  · split
    · rename_i h6
      have := okN_one ho h6
      rw [g _ (by omega) (by omega)]
    · rfl
theorem mvNode_ok {pre : List Int} {x : Nd} {i h : Nat} (ho : okN x i = true) (h5 : x.kind = 5 → ∃ a b : Nat, pre[x.a.toNat]? = some (a : Int) ∧ pre[x.b.toNat]? = some (b : Int) ∧ a < h ∧ b < h)
    (h6 : x.kind = 6 ∨ x.kind = 7 → ∃ a : Nat, pre[x.a.toNat]? = some (a : Int) ∧ a < h) : okN (mvNode pre x) h = true := by
  by_cases k5 : x.kind = 5
  · obtain ⟨a, b, ha, hb, h1, h2⟩ := h5 k5
    simp only [mvNode, k5, if_true, List.getD_eq_getElem?_getD, ha, hb, Option.getD_some]
    simp [okN, k5] at ho ⊢
    exact ⟨ho.1, ho.2.1, wi_iff.2 ⟨by omega, by omega⟩, wi_iff.2 ⟨by omega, by omega⟩⟩
  · by_cases k6 : x.kind = 6 ∨ x.kind = 7
    · obtain ⟨a, ha, h1⟩ := h6 k6
      simp only [mvNode, k5, k6, if_true, if_false, List.getD_eq_getElem?_getD, ha, Option.getD_some]
      rcases k6 with k6 | k6
      · simp [okN, k6] at ho ⊢; exact ⟨ho.1, ho.2.1, wi_iff.2 ⟨by omega, by omega⟩, ho.2.2.2⟩
      · simp [okN, k6] at ho ⊢; exact ⟨ho.1, ho.2.1, wi_iff.2 ⟨by omega, by omega⟩, ho.2.2.2⟩
    · have k6' : ¬ x.kind = 6 := fun h => k6 (.inl h)
      have k7' : ¬ x.kind = 7 := fun h => k6 (.inr h)
      simp only [mvNode, k5, k6, if_false]
      simp only [okN, k5, k6', k7', if_false] at ho ⊢
      exact ho
/-- all of it, along the nodes -/
theorem mvGo_inv {q : List Nd} (hq : OkAll q) {m : List Bool} (hm : m.length = q.length) (hc : Closed q m) (d : Int) : ∀ (k : Nat) (pre : List Int) (acc : List Nd), pre.length + k = q.length → OkAll acc →
    (∀ (i : Nat) (x : Nd), i < pre.length → q[i]? = some x → m[i]? = some true → ∃ j : Nat, pre[i]? = some (j : Int) ∧ acc[j]? = some (mvNode pre x)) →
    OkAll (mvGo d q m k pre acc).2 ∧ Moved q (mvGo d q m k pre acc).2 m (mvGo d q m k pre acc).1
  | 0, pre, acc, hk, ha, hi => by
    simp only [mvGo]
    exact ⟨ha, fun i x hx hmi => hi i x (by have := lt_of_get hx; omega) hx hmi⟩
  | k + 1, pre, acc, hk, ha, hi => by
    obtain ⟨x, hx⟩ := get_of_lt (l := q) (i := pre.length) (by omega)
    obtain ⟨b, hb⟩ := get_of_lt (l := m) (i := pre.length) (by omega)
    simp only [mvGo, hx, hb]
    have hox := hq _ _ hx
    have old : ∀ (u : Int) (acc' : List Nd), (∀ (j : Nat) (y : Nd), acc[j]? = some y → acc'[j]? = some y) → ∀ (i : Nat) (y : Nd), i < pre.length → q[i]? = some y → m[i]? = some true → ∃ j : Nat, (pre ++ [u])[i]? = some (j : Int) ∧ acc'[j]? = some (mvNode (pre ++ [u]) y) := by
      intro u acc' hacc i y hil hy hmi
      obtain ⟨j, h1, h2⟩ := hi i y hil hy hmi
      refine ⟨j, by rw [List.getElem?_append_left hil]; exact h1, ?_⟩
      rw [mvNode_ext (hq _ _ hy) (by omega)]
      exact hacc _ _ h2
    cases b with
    | false =>
      refine mvGo_inv hq hm hc d k (pre ++ [d]) acc (by simp; omega) ha ?_
      intro i y hil hy hmi
      by_cases e : i = pre.length
      · subst e; rw [hb] at hmi; cases hmi
      · exact old d acc (fun _ _ h => h) i y (by simp at hil; omega) hy hmi
    | true =>
      have hcx := hc _ _ hx hb
      have kid : ∀ n : Int, On m n → 0 ≤ n → n < pre.length → ∃ a : Nat, pre[n.toNat]? = some (a : Int) ∧ a < acc.length := by
        intro n hn h0 h1
        obtain ⟨y, hy⟩ := get_of_lt (l := q) (i := n.toNat) (by omega)
        obtain ⟨j, h2, h3⟩ := hi n.toNat y (by omega) hy hn
        exact ⟨j, h2, lt_of_get h3⟩
      have hok : okN (mvNode pre x) acc.length = true := mvNode_ok hox
        (fun h5 => by
          have h := okN_pair hox h5
          obtain ⟨a, ha1, ha2⟩ := kid x.a (hcx.1 h5).1 h.1 h.2.1
          obtain ⟨b, hb1, hb2⟩ := kid x.b (hcx.1 h5).2 h.2.2.1 h.2.2.2
          exact ⟨a, b, ha1, hb1, ha2, hb2⟩)
        (fun h6 => by
          have h := okN_one hox h6
          exact kid x.a (hcx.2 h6) h.1 h.2)
      have ha' : OkAll (acc ++ [mvNode pre x]) := by
        intro j y hy
        by_cases e : j < acc.length
        · rw [List.getElem?_append_left e] at hy; exact ha j y hy
        · have hl := lt_of_get hy
          have : j = acc.length := by simp at hl; omega
          subst this
          simp at hy; subst hy; exact hok
      refine mvGo_inv hq hm hc d k (pre ++ [(acc.length : Int)]) (acc ++ [mvNode pre x]) (by simp; omega) ha' ?_
      intro i y hil hy hmi
      by_cases e : i = pre.length
      · subst e; rw [hx] at hy; cases hy
        refine ⟨acc.length, by simp, ?_⟩
        rw [mvNode_ext hox (Nat.le_refl _)]; simp
      · exact old _ _ (fun j z h => by rw [List.getElem?_append_left (lt_of_get h)]; exact h) i y (by simp at hil; omega) hy hmi
/-- what was there stays -/
theorem mvGo_pre (d : Int) (q : List Nd) (m : List Bool) : ∀ (k : Nat) (pre : List Int) (acc : List Nd), ∃ r, (mvGo d q m k pre acc).2 = acc ++ r
  | 0, pre, acc => ⟨[], by simp [mvGo]⟩
  | k + 1, pre, acc => by
    simp only [mvGo]
    split
    · obtain ⟨r, h⟩ := mvGo_pre d q m k (pre ++ [(acc.length : Int)]) (acc ++ [mvNode pre ‹Nd›])
      exact ⟨_, by rw [h, List.append_assoc]⟩
    · exact mvGo_pre d q m k _ acc
theorem move_facts {q acc : List Nd} (hq : okPool q = true) (ha : OkAll acc) (rs : List Int) (d : Int) : OkAll (moveP d q rs acc).2 ∧ Moved q (moveP d q rs acc).2 (reachL q rs) (moveP d q rs acc).1 :=
  mvGo_inv (okPool_iff.1 hq).1 (reachL_length q rs) (reachL_closed hq rs) d q.length [] acc (Nat.zero_add _) ha (fun i x h => absurd h (by simp))

/-! ## what is written of it is the same -/
theorem mv_kind (to : List Int) (x : Nd) : (mvNode to x).kind = x.kind ∧ (mvNode to x).n = x.n ∧ (mvNode to x).s = x.s := by
  unfold mvNode
  split
  · exact ⟨rfl, rfl, rfl⟩
  · split <;> exact ⟨rfl, rfl, rfl⟩
theorem mv_atom (to : List Int) (x : Nd) : atomB (mvNode to x) = atomB x := by
  obtain ⟨h1, h2, h3⟩ := mv_kind to x
  unfold atomB; rw [h1, h2, h3]
theorem wr_moved {q q' : List Nd} (hq : OkAll q) (hq' : OkAll q') {m : List Bool} (hc : Closed q m) {to : List Int} (hmv : Moved q q' m to) : ∀ (g g' : Nat) (c : Bool) (v v' : Nat) (out : List UInt8),
    m[v]? = some true → to[v]? = some (v' : Int) → v < q.length → 2 * v + (if c then 2 else 1) ≤ g → 2 * v' + (if c then 2 else 1) ≤ g' → wr q g c v out = wr q' g' c v' out
  | 0, g', c, v, v', out, hm, ht, hv, hg, hg' => by split at hg <;> omega
  | g + 1, 0, c, v, v', out, hm, ht, hv, hg, hg' => by split at hg' <;> omega
  | g + 1, g' + 1, c, v, v', out, hm, ht, hv, hg, hg' => by
    obtain ⟨x, hx⟩ := get_of_lt hv
    obtain ⟨j, h1, h2⟩ := hmv v x hx hm
    rw [ht] at h1
    have hj : v' = j := by injection h1 with h1; exact Int.natCast_inj.1 h1
    subst hj
    obtain ⟨k1, k2, k3⟩ := mv_kind to x
    have kids : x.kind = 5 → ∃ a' b' : Nat, to[x.a.toNat]? = some (a' : Int) ∧ to[x.b.toNat]? = some (b' : Int) ∧ (mvNode to x).a.toNat = a' ∧ (mvNode to x).b.toNat = b' ∧ m[x.a.toNat]? = some true ∧ m[x.b.toNat]? = some true ∧ x.a.toNat < v ∧ x.b.toNat < v ∧ a' < v' ∧ b' < v' := by
      intro h5
      have ho := okN_pair (hq v x hx) h5
      have hcx := hc v x hx hm
      obtain ⟨y, hy⟩ := get_of_lt (l := q) (i := x.a.toNat) (by omega)
      obtain ⟨z, hz⟩ := get_of_lt (l := q) (i := x.b.toNat) (by omega)
      obtain ⟨a', ha1, ha2⟩ := hmv _ y hy (hcx.1 h5).1
      obtain ⟨b', hb1, hb2⟩ := hmv _ z hz (hcx.1 h5).2
      have e : mvNode to x = ⟨x.kind, x.n, x.s, a', b'⟩ := by
        simp only [mvNode, h5, if_true, List.getD_eq_getElem?_getD, ha1, hb1, Option.getD_some]
      have ho' := okN_pair (hq' v' _ h2) (by rw [k1]; exact h5)
      rw [e] at ho'
      simp only at ho'
      refine ⟨a', b', ha1, hb1, by rw [e]; simp, by rw [e]; simp, (hcx.1 h5).1, (hcx.1 h5).2, by omega, by omega, by omega, by omega⟩
    cases c with
    | false =>
      simp only [Bool.false_eq_true, if_false] at hg hg'
      simp only [wr, hx, h2, k1, mv_atom]
      split
      · rfl
      · split
        · rename_i h5
          obtain ⟨a', b', ta, tb, ea, eb, ma, mb, la, lb, la', lb'⟩ := kids h5
          rw [ea, eb, wr_moved hq hq' hc hmv g g' false x.a.toNat a' _ ma ta (by omega) (by simp; omega) (by simp; omega),
            wr_moved hq hq' hc hmv g g' true x.b.toNat b' _ mb tb (by omega) (by simp; omega) (by simp; omega)]
        · rfl
    | true =>
      simp only [if_true] at hg hg'
      simp only [wr, hx, h2, k1]
      split
      · rename_i h5
        obtain ⟨a', b', ta, tb, ea, eb, ma, mb, la, lb, la', lb'⟩ := kids h5.1
        rw [ea, eb, wr_moved hq hq' hc hmv g g' false x.a.toNat a' _ ma ta (by omega) (by simp; omega) (by simp; omega),
          wr_moved hq hq' hc hmv g g' true x.b.toNat b' _ mb tb (by omega) (by simp; omega) (by simp; omega)]
      · split
        · rfl
        · rw [wr_moved hq hq' hc hmv g g' false v v' _ hm ht hv (by simp; omega) (by simp; omega)]
theorem write_moved {q q' : List Nd} (hq : okPool q = true) (hq' : okPool q' = true) {m : List Bool} (hc : Closed q m) {to : List Int} (hmv : Moved q q' m to) {v : Int} (h0 : 0 ≤ v) (h1 : v < q.length) (hm : On m v) : writeP q' (to.getD v.toNat 0) = writeP q v := by
  obtain ⟨x, hx⟩ := get_of_lt (l := q) (i := v.toNat) (by omega)
  obtain ⟨j, h2, h3⟩ := hmv _ x hx hm
  have hj := lt_of_get h3
  have e : to.getD v.toNat 0 = (j : Int) := by rw [List.getD_eq_getElem?_getD, h2]; rfl
  have hw := wr_moved (okPool_iff.1 hq).1 (okPool_iff.1 hq').1 hc hmv (2 * v.toNat + 1) (2 * j + 1) false v.toNat j [] hm h2 (by omega) (by simp) (by simp)
  have w1 : wi v 0 ((q.length : Int) - 1) = true := wi_iff.2 ⟨h0, by omega⟩
  have w2 : wi (j : Int) 0 ((q'.length : Int) - 1) = true := wi_iff.2 ⟨by omega, by omega⟩
  unfold writeP
  rw [e, if_pos (And.intro hq' w2), if_pos (And.intro hq w1), Int.toNat_natCast, hw]
end Go.Eng
