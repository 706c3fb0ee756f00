/- what is kept is all reached, and as great as it was: the plain side -/
import Derived.Test.YtgoidfkdnkjojaaIso
namespace Go.Eng

/-! ## sizes -/
theorem szOf_ext {pre r : List Int} {x : Nd} {i : Nat} (ho : okN x i = true) (hp : i ≤ pre.length) : szOf (pre ++ r) x = szOf pre x := by
  have g : ∀ n : Int, 0 ≤ n → n < i → (pre ++ r).getD n.toNat 0 = pre.getD n.toNat 0 := by
    intro n h0 h1
    simp only [List.getD_eq_getElem?_getD]
    rw [List.getElem?_append_left (by omega)]
  unfold szOf
  split
  · rename_i h5
    have := okN_pair ho h5
    rw [g _ (by omega) (by omega), g _ (by omega) (by omega)]
  · split
    · rename_i h6
      have := okN_one ho h6
      rw [g _ (by omega) (by omega)]
    · rfl
theorem szGo_pre {p : List Nd} : ∀ (k : Nat) (pre : List Int), ∃ r, szGo p k pre = pre ++ r
  | 0, pre => ⟨[], by simp [szGo]⟩
  | k + 1, pre => by
    simp only [szGo]
    split
    · obtain ⟨r, h⟩ := szGo_pre (p := p) k (pre ++ [szOf pre ‹Nd›])
      exact ⟨_, by rw [h, List.append_assoc]⟩
    · obtain ⟨r, h⟩ := szGo_pre (p := p) k (pre ++ [0])
      exact ⟨_, by rw [h, List.append_assoc]⟩
theorem szGo_at {p : List Nd} (hp : OkAll p) : ∀ (k : Nat) (pre : List Int), pre.length + k = p.length → ∀ (i : Nat) (x : Nd), pre.length ≤ i → p[i]? = some x → (szGo p k pre)[i]? = some (szOf (szGo p k pre) x)
  | 0, pre, hk, i, x, hi, hx => by have := lt_of_get hx; omega
  | k + 1, pre, hk, i, x, hi, hx => by
    obtain ⟨y, hy⟩ := get_of_lt (l := p) (i := pre.length) (by omega)
    simp only [szGo, hy]
    by_cases e : i = pre.length
    · subst e
      rw [hx] at hy; cases hy
      obtain ⟨r, h⟩ := szGo_pre (p := p) k (pre ++ [szOf pre x])
      rw [h, List.append_assoc, szOf_ext (hp _ _ hx) (Nat.le_refl _)]
      simp
    · exact szGo_at hp k (pre ++ [szOf pre y]) (by simp; omega) i x (by simp; omega) hx
theorem size_moved' {q q' : List Nd} (hq : OkAll q) (hq' : OkAll q') {m : List Bool} (hc : Closed q m) {to : List Int} (hmv : Moved q q' m to) : ∀ (n i j : Nat), i < n → i < q.length → m[i]? = some true → to[i]? = some (j : Int) →
    (szGo q q.length []).getD i 0 = (szGo q' q'.length []).getD j 0
  | 0, i, j, h, _, _, _ => by omega
  | n + 1, i, j, hn, hi, hm, ht => by
    obtain ⟨x, hx⟩ := get_of_lt hi
    obtain ⟨j', h1, h2⟩ := hmv i x hx hm
    rw [ht] at h1
    have hj : j = j' := by injection h1 with h1; exact Int.natCast_inj.1 h1
    subst hj
    have a1 := szGo_at hq q.length [] (Nat.zero_add _) i x (Nat.zero_le _) hx
    have a2 := szGo_at hq' q'.length [] (Nat.zero_add _) j _ (Nat.zero_le _) h2
    obtain ⟨k1, k2, k3⟩ := mv_kind to x
    rw [List.getD_eq_getElem?_getD, List.getD_eq_getElem?_getD, a1, a2]
    have kid : ∀ c : Int, On m c → 0 ≤ c → c < i → (szGo q q.length []).getD c.toNat 0 = (szGo q' q'.length []).getD (to.getD c.toNat 0).toNat 0 := by
      intro c hc1 h0 h3
      obtain ⟨y, hy⟩ := get_of_lt (l := q) (i := c.toNat) (by omega)
      obtain ⟨jc, e1, e2⟩ := hmv _ y hy hc1
      have := size_moved' hq hq' hc hmv n c.toNat jc (by omega) (by omega) hc1 e1
      rw [this, List.getD_eq_getElem?_getD (l := to), e1]; rfl
    have hcx := hc i x hx hm
    simp only [Option.getD_some, szOf, k1]
    split
    · rename_i h5
      have ho := okN_pair (hq i x hx) h5
      rw [kid x.a (hcx.1 h5).1 (by omega) (by omega), kid x.b (hcx.1 h5).2 (by omega) (by omega)]
      simp only [mvNode, h5, if_true]
    · rename_i h5
      split
      · rename_i h6
        have ho := okN_one (hq i x hx) h6
        rw [kid x.a (hcx.2 h6) (by omega) (by omega)]
        simp only [mvNode, h5, h6, if_true, if_false]
      · rfl
theorem size_moved {q q' : List Nd} (hq : okPool q = true) (hq' : okPool q' = true) {m : List Bool} (hc : Closed q m) {to : List Int} (hmv : Moved q q' m to) {v : Int} (h0 : 0 ≤ v) (h1 : v < q.length) (hm : On m v) : sizeP q' (to.getD v.toNat 0) = sizeP q v := by
  obtain ⟨x, hx⟩ := get_of_lt (l := q) (i := v.toNat) (by omega)
  obtain ⟨j, h2, h3⟩ := hmv _ x hx hm
  have hj := lt_of_get h3
  have e : to.getD v.toNat 0 = (j : Int) := by rw [List.getD_eq_getElem?_getD, h2]; rfl
  have hw := size_moved' (okPool_iff.1 hq).1 (okPool_iff.1 hq').1 hc hmv (v.toNat + 1) v.toNat j (by omega) (by omega) hm h2
  have w1 : wi v 0 ((q.length : Int) - 1) = true := wi_iff.2 ⟨h0, by omega⟩
  have w2 : wi (j : Int) 0 ((q'.length : Int) - 1) = true := wi_iff.2 ⟨by omega, by omega⟩
  unfold sizeP
  rw [e, if_pos (And.intro hq' w2), if_pos (And.intro hq w1), Int.toNat_natCast, hw]

/-! ## what is reached, as a relation -/
inductive Rch (q : List Nd) (rs : List Int) : Nat → Prop
  | root {r : Int} : r ∈ rs → Rch q rs r.toNat
  | a {i : Nat} {x : Nd} : Rch q rs i → q[i]? = some x → (x.kind = 5 ∨ x.kind = 6 ∨ x.kind = 7) → Rch q rs x.a.toNat
  | b {i : Nat} {x : Nd} : Rch q rs i → q[i]? = some x → x.kind = 5 → Rch q rs x.b.toNat
theorem set_true {m : List Bool} {i j : Nat} (h : (m.set i true)[j]? = some true) : j = i ∨ m[j]? = some true := by
  by_cases e : i = j
  · exact .inl e.symm
  · rw [List.getElem?_set_ne e] at h; exact .inr h
theorem reachGo_sound {q : List Nd} {rs : List Int} : ∀ (k : Nat) {m : List Bool}, (∀ j : Nat, m[j]? = some true → Rch q rs j) → ∀ j : Nat, (reachGo q k m)[j]? = some true → Rch q rs j
  | 0, m, h, j, hj => h j hj
  | k + 1, m, h, j, hj => by
    simp only [reachGo] at hj
    refine reachGo_sound k ?_ j hj
    intro i hi
    split at hi
    · rename_i x hx hm
      have hk := h k hm
      unfold mkKids at hi
      split at hi
      · rename_i h5
        rcases set_true hi with e | hi
        · rw [e]; exact .b hk hx h5
        · rcases set_true hi with e | hi
          · rw [e]; exact .a hk hx (.inl h5)
          · exact h i hi
      · split at hi
        · rename_i h6
          rcases set_true hi with e | hi
          · rw [e]; exact .a hk hx (.inr h6)
          · exact h i hi
        · exact h i hi
    · exact h i hi
theorem rootsM_sound : ∀ {rs : List Int} {m : List Bool} {j : Nat}, (rootsM rs m)[j]? = some true → m[j]? = some true ∨ ∃ r ∈ rs, r.toNat = j
  | [], m, j, h => .inl h
  | r :: rs, m, j, h => by
    have h' : (rootsM rs (m.set r.toNat true))[j]? = some true := h
    rcases rootsM_sound h' with h | ⟨s, hs, e⟩
    · rcases set_true h with e | h
      · exact .inr ⟨r, by simp, e.symm⟩
      · exact .inl h
    · exact .inr ⟨s, by simp [hs], e⟩
theorem reach_sound {q : List Nd} {rs : List Int} {j : Nat} (h : (reachL q rs)[j]? = some true) : Rch q rs j := by
  refine reachGo_sound _ ?_ j h
  intro i hi
  rcases rootsM_sound hi with h | ⟨r, hr, e⟩
  · rw [List.getElem?_replicate] at h
    split at h <;> cases h
  · rw [← e]; exact .root hr
theorem reach_complete {q : List Nd} (hq : okPool q = true) {rs : List Int} (hr : rootsIn q rs = true) {j : Nat} (h : Rch q rs j) : (reachL q rs)[j]? = some true := by
  induction h with
  | root hm => exact reachL_root hr _ hm
  | a h hx hk ih =>
    have hc := reachL_closed hq rs _ _ hx ih
    rcases hk with hk | hk
    · exact (hc.1 hk).1
    · exact hc.2 hk
  | b h hx hk ih => exact ((reachL_closed hq rs _ _ hx ih).1 hk).2

/-! ## keeping twice -/
theorem mvGo_onto (d : Int) {q : List Nd} {m : List Bool} (hm : m.length = q.length) : ∀ (k : Nat) (pre : List Int) (acc : List Nd), pre.length + k = q.length →
    (∀ j : Nat, j < acc.length → ∃ i : Nat, m[i]? = some true ∧ pre[i]? = some (j : Int)) → ∀ j : Nat, j < (mvGo d q m k pre acc).2.length → ∃ i : Nat, m[i]? = some true ∧ (mvGo d q m k pre acc).1[i]? = some (j : Int)
  | 0, pre, acc, hk, h, j, hj => h j hj
  | k + 1, pre, acc, hk, h, j, hj => by
    obtain ⟨x, hx⟩ := get_of_lt (l := q) (i := pre.length) (by omega)
    obtain ⟨b, hb⟩ := get_of_lt (l := m) (i := pre.length) (by omega)
    simp only [mvGo, hx, hb] at hj ⊢
    have old : ∀ (u : Int) (j : Nat), j < acc.length → ∃ i : Nat, m[i]? = some true ∧ (pre ++ [u])[i]? = some (j : Int) := by
      intro u j hj
      obtain ⟨i, h1, h2⟩ := h j hj
      exact ⟨i, h1, by rw [List.getElem?_append_left (lt_of_get h2)]; exact h2⟩
    cases b with
    | false => exact mvGo_onto d hm k (pre ++ [d]) acc (by simp; omega) (old d) j hj
    | true =>
      refine mvGo_onto d hm k (pre ++ [(acc.length : Int)]) (acc ++ [mvNode pre x]) (by simp; omega) ?_ j hj
      intro i hi
      by_cases e : i < acc.length
      · exact old _ i e
      · have : i = acc.length := by simp at hi; omega
        subst this
        exact ⟨pre.length, hb, by simp⟩
theorem rch_moved {q q' : List Nd} (hq : okPool q = true) {rs : List Int} (hr : rootsIn q rs = true) {to now : List Int} (hmv : Moved q q' (reachL q rs) to) (hn : ∀ r ∈ rs, to.getD r.toNat 0 ∈ now) {i : Nat} (h : Rch q rs i) : ∀ j : Nat, to[i]? = some (j : Int) → Rch q' now j := by
  have one : ∀ {i : Nat} {x : Nd}, Rch q rs i → q[i]? = some x → ∃ j : Nat, to[i]? = some (j : Int) ∧ q'[j]? = some (mvNode to x) := fun h hx => hmv _ _ hx (reach_complete hq hr h)
  induction h with
  | root hm =>
    rename_i r
    intro j hj
    have e : to.getD r.toNat 0 = (j : Int) := by rw [List.getD_eq_getElem?_getD, hj]; rfl
    have := Rch.root (q := q') (hn r hm)
    rw [e] at this
    exact this
  | a h hx hk ih =>
    rename_i i x
    intro j hj
    obtain ⟨ji, e1, e2⟩ := one h hx
    have h' := ih ji e1
    have ea : (mvNode to x).a.toNat = j := by
      rcases hk with hk | hk
      · simp only [mvNode, hk, if_true, List.getD_eq_getElem?_getD, hj, Option.getD_some, Int.toNat_natCast]
      · have h5 : ¬ x.kind = 5 := by omega
        simp only [mvNode, h5, hk, if_true, if_false, List.getD_eq_getElem?_getD, hj, Option.getD_some, Int.toNat_natCast]
    rw [← ea]
    exact .a h' e2 (by rw [(mv_kind to x).1]; exact hk)
  | b h hx hk ih =>
    rename_i i x
    intro j hj
    obtain ⟨ji, e1, e2⟩ := one h hx
    have h' := ih ji e1
    have ea : (mvNode to x).b.toNat = j := by
      simp only [mvNode, hk, if_true, List.getD_eq_getElem?_getD, hj, Option.getD_some, Int.toNat_natCast]
    rw [← ea]
    exact .b h' e2 (by rw [(mv_kind to x).1]; exact hk)
noncomputable def ids (n : Nat) : List Int := (List.range n).map fun k : Nat => (k : Int)
theorem range_get {n i : Nat} (h : i < n) : (ids (n))[i]? = some (i : Int) := by
  rw [ids, List.getElem?_map, List.getElem?_range h]; rfl
theorem mvNode_id {x : Nd} {i : Nat} (ho : okN x i = true) : mvNode (ids (i)) x = x := by
  have g : ∀ n : Int, 0 ≤ n → n < i → (ids (i)).getD n.toNat 0 = n := by
    intro n h0 h1
    rw [List.getD_eq_getElem?_getD, range_get (by omega)]
    simp; omega
  unfold mvNode
  split
  · rename_i h5
    have := okN_pair ho h5
    rw [g _ (by omega) (by omega), g _ (by omega) (by omega)]
  · split
    · rename_i h6
      have := okN_one ho h6
      rw [g _ (by omega) (by omega)]
    · rfl
theorem mvGo_all (d : Int) {q : List Nd} (hq : OkAll q) {m : List Bool} (hm : ∀ j : Nat, j < q.length → m[j]? = some true) : ∀ (k i : Nat), i + k = q.length →
    mvGo d q m k (ids (i)) (q.take i) = (ids (q.length), q)
  | 0, i, h => by
    have : i = q.length := by omega
    subst this
    simp [mvGo]
  | k + 1, i, h => by
    obtain ⟨x, hx⟩ := get_of_lt (l := q) (i := i) (by omega)
    have hl : (ids (i)).length = i := by simp [ids]
    have ht : (q.take i).length = i := by simp; omega
    have ih := mvGo_all d hq hm k (i + 1) (by omega)
    have es : ids (i + 1) = ids i ++ [(i : Int)] := by simp [ids, List.range_succ]
    rw [es, take_at hx] at ih
    simp only [mvGo, hl, hx, hm i (by omega), ht, mvNode_id (hq _ _ hx)]
    exact ih
theorem keep_again {q : List Nd} (hq : okPool q = true) {rs : List Int} (hr : rootsIn q rs = true) (d d' : Int) : okPool (keepP d q rs).1 = true ∧ rootsIn (keepP d q rs).1 (keepP d q rs).2 = true ∧ keepP d' (keepP d q rs).1 (keepP d q rs).2 = keepP d q rs := by
  obtain ⟨h1, h2⟩ := move_facts hq (acc := []) (fun j x h => by simp at h) rs d
  have hlen := mvGo_acc d q (reachL q rs) q.length [] []
  have hok : okPool (moveP d q rs []).2 = true := okPool_iff.2 ⟨h1, by have := okPool_len hq; have := hlen; simp [moveP] at this ⊢; omega⟩
  have hto : ∀ r ∈ rs, ∃ j : Nat, (moveP d q rs []).1[r.toNat]? = some (j : Int) ∧ j < (moveP d q rs []).2.length := by
    intro r hm
    have hl := rootsIn_lt hr r hm
    obtain ⟨x, hx⟩ := get_of_lt (l := q) (i := r.toNat) (by omega)
    obtain ⟨j, e1, e2⟩ := h2 _ x hx (reachL_root hr r hm)
    exact ⟨j, e1, lt_of_get e2⟩
  have hgd : ∀ r ∈ rs, 0 ≤ (moveP d q rs []).1.getD r.toNat 0 ∧ (moveP d q rs []).1.getD r.toNat 0 < ((moveP d q rs []).2.length : Int) := by
    intro r hm
    obtain ⟨j, e1, e2⟩ := hto r hm
    rw [List.getD_eq_getElem?_getD, e1]; simp; omega
  have hri : rootsIn (keepP d q rs).1 (keepP d q rs).2 = true := by
    unfold rootsIn keepP
    rw [List.all_map, List.all_eq_true]
    intro r hm
    have := hgd r hm
    exact wi_iff.2 ⟨this.1, by simp only; omega⟩
  refine ⟨hok, hri, ?_⟩
  have hall : ∀ j : Nat, j < (keepP d q rs).1.length → (reachL (keepP d q rs).1 (keepP d q rs).2)[j]? = some true := by
    intro j hj
    obtain ⟨i, hi, ht⟩ := mvGo_onto d (reachL_length q rs) q.length [] [] (Nat.zero_add _) (fun j h => by simp at h) j hj
    exact reach_complete hok hri (rch_moved hq hr h2 (fun r hm => List.mem_map.2 ⟨r, hm, rfl⟩) (reach_sound hi) j ht)
  have hm := mvGo_all d' (okPool_iff.1 hok).1 hall (keepP d q rs).1.length 0 (Nat.zero_add _)
  have e : moveP d' (keepP d q rs).1 (keepP d q rs).2 [] = (ids ((keepP d q rs).1.length), (keepP d q rs).1) := hm
  have e2 : keepP d' (keepP d q rs).1 (keepP d q rs).2 = ((keepP d q rs).1, (keepP d q rs).2.map fun r => (ids ((keepP d q rs).1.length)).getD r.toNat 0) := by
    show (_, _) = _
    rw [e]
  rw [e2]
  refine Prod.ext rfl ?_
  show List.map _ (keepP d q rs).2 = (keepP d q rs).2
  have : ∀ r ∈ (keepP d q rs).2, (ids ((keepP d q rs).1.length)).getD r.toNat 0 = r := by
    intro r hm
    have := rootsIn_lt hri r hm
    rw [List.getD_eq_getElem?_getD, range_get (by omega)]
    simp; omega
  rw [List.map_congr_left this, List.map_id']
/-- what is kept is written as it was, and is as great -/
theorem keep_same {q : List Nd} (hq : okPool q = true) {rs : List Int} (hr : rootsIn q rs = true) (d : Int) : ∀ r ∈ rs, writeP (keepP d q rs).1 ((moveP d q rs []).1.getD r.toNat 0) = writeP q r ∧ sizeP (keepP d q rs).1 ((moveP d q rs []).1.getD r.toNat 0) = sizeP q r := by
  intro r hm
  have hl := rootsIn_lt hr r hm
  obtain ⟨h1, h2⟩ := move_facts hq (acc := []) (fun j x h => by simp at h) rs d
  have hok := (keep_again hq hr d d).1
  exact ⟨write_moved hq hok (reachL_closed hq rs) h2 hl.1 hl.2 (reachL_root hr r hm), size_moved hq hok (reachL_closed hq rs) h2 hl.1 hl.2 (reachL_root hr r hm)⟩
end Go.Eng
