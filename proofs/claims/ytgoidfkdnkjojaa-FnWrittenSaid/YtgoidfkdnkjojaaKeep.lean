/- what is reached, on both sides -/
import Derived.Test.YtgoidfkdnkjojaaVal
namespace Go.Eng
open Go.Proofs Go.Proofs.Try

theorem posB_any' {α : Type} {l : List α} {p : α → Bool} : decide (posB p l ≥ 0) = l.any p := by
  unfold posB
  cases h : l.findIdx? p with
  | none =>
    have := List.findIdx?_eq_none_iff.1 h
    symm
    simpa [List.any_eq_false] using this
  | some k =>
    have h2 : l.any p = true := by
      rw [List.findIdx?_eq_some_iff_getElem] at h
      obtain ⟨hk, h3, _⟩ := h
      exact List.any_eq_true.2 ⟨l[k], List.getElem_mem hk, h3⟩
    rw [h2]
    simp

noncomputable abbrev eI : Int → D := D.int .i64
theorem wi_iff {n lo hi : Int} : wi n lo hi = true ↔ lo ≤ n ∧ n ≤ hi := by simp [wi]

/-! ## what a right pool says of its nodes -/
theorem okFrom_get {p : List Nd} : ∀ {k i j : Nat} {x : Nd}, okFrom p i k = true → i ≤ j → j < i + k → p[j]? = some x → okN x j = true
  | 0, i, j, x, _, h1, h2, _ => by omega
  | k + 1, i, j, x, h, h1, h2, hx => by
    simp only [okFrom, Bool.and_eq_true] at h
    by_cases e : i = j
    · subst e; rw [hx] at h; exact h.1
    · exact okFrom_get h.2 (by omega) (by omega) hx
theorem okPool_get {p : List Nd} (h : okPool p = true) {j : Nat} {x : Nd} (hx : p[j]? = some x) : okN x j = true := by
  simp only [okPool, Bool.and_eq_true] at h
  exact okFrom_get h.1 (Nat.zero_le _) (by have := lt_of_get hx; omega) hx
theorem okPool_len {p : List Nd} (h : okPool p = true) : p.length ≤ 3000 := by
  simp only [okPool, Bool.and_eq_true, decide_eq_true_eq] at h; omega
theorem okN_pair {x : Nd} {h : Int} (ho : okN x h = true) (hk : x.kind = 5) : 0 ≤ x.a ∧ x.a < h ∧ 0 ≤ x.b ∧ x.b < h := by
  simp [okN, hk, wi] at ho; omega
theorem okN_one {x : Nd} {h : Int} (ho : okN x h = true) (hk : x.kind = 6 ∨ x.kind = 7) : 0 ≤ x.a ∧ x.a < h := by
  rcases hk with hk | hk <;> simp [okN, hk, wi] at ho <;> omega

/-! ## roots -/
noncomputable def rootsIn (p : List Nd) (rs : List Int) : Bool := rs.all fun r => wi r 0 ((p.length : Int) - 1)
theorem v_isNode {p : List Nd} (hl : p.length < 4611686018427387904) (r : Int) : V 59 [eP p, .int .i64 r] = some (.bool (wi r 0 ((p.length : Int) - 1)), []) := by
  rw [eimpl_isNode, oc_i_within (v_within _ _ _), List.length_map, w64 (by simp only [ni]; omega) (by simp only [ni]; omega)]
theorem v_l2Has {p : List Nd} (hl : p.length < 4611686018427387904) (r : Int) : V 68 [eP p, .int .i64 r] = some (.bool (wi r 0 ((p.length : Int) - 1)), []) := by
  rw [espec_l2Has, oc_s_l1In (v_l1In _ _ _), List.length_map, w64 (by simp only [ni]; omega) (by simp only [ni]; omega)]
theorem roots_loop {p : List Nd} (hl : p.length < 4611686018427387904) {l : List Int} (h2 : l.length < 4611686018427387904) : ∀ (k i : Nat), i + k = l.length → LIndexFunc_rootsOk_2 (l.map eI) (p.map eN) (ni (l.map eI).length) (i : Int) = some (.int .i64 (posFrom (fun r => !wi r 0 ((p.length : Int) - 1)) l i), [])
  | 0, i, hi => by
    rw [LIndexFunc_rootsOk_2_eq, br_not (by rw [List.length_map]; exact ge_idx (by omega)), posFrom_end (by omega)]
  | k + 1, i, hi => by
    obtain ⟨x, hx⟩ := get_of_lt (l := l) (i := i) (by omega)
    have ih := roots_loop hl h2 k (i + 1) (by omega)
    have hr : V 114 [.int .i64 x, .bp [.rs (5, 0) (p.map eN)]] = some (.bool (!wi x 0 ((p.length : Int) - 1)), []) := by
      rw [erootsOk_1, oc_i_isNode (v_isNode hl x)]
    rw [LIndexFunc_rootsOk_2_eq, br_of (by rw [List.length_map]; exact lt_idx (by omega)), grd_of (by rw [List.length_map]; exact in_idx (by omega)), Int.toNat_natCast, oget_map hx, asI_int, oc_i_rootsOk_1 hr]
    cases h : (!wi x 0 ((p.length : Int) - 1)) with
    | true => rw [br_true, posFrom_hit hx h]
    | false => rw [br_false, w64s (by omega), ih, posFrom_miss hx h]
theorem v_rootsOk {p : List Nd} (hf : Fits p) (hl : p.length < 4611686018427387904) {l : List Int} (h2 : l.length < 4611686018427387904) : V 55 [eP p, .rs (1, 0) (l.map eI)] = some (.bool (okPool p && rootsIn p l), []) := by
  have h : V 161 [.rs (1, 0) (l.map eI), .fn 114 [.bp [.rs (5, 0) (p.map eN)]]] = some (.int .i64 (posB (fun r => !wi r 0 ((p.length : Int) - 1)) l), []) := by
    rw [eIndexFunc_rootsOk, ← posFrom_zero]
    exact roots_loop hl h2 l.length 0 (Nat.zero_add _)
  have h3 : V 113 [.rs (1, 0) (l.map eI), .fn 114 [.bp [.rs (5, 0) (p.map eN)]]] = some (.bool (l.any fun r => !wi r 0 ((p.length : Int) - 1)), []) := by
    rw [eContainsFunc_rootsOk, oc_slices_IndexFunc_int_int h, posB_any']
  rw [eimpl_rootsOk, oc_i_PoolOk (v_impl_PoolOk hf hl), oc_slices_ContainsFunc_int_int h3, br_and]
  congr 3
  unfold rootsIn
  rw [List.any_eq_not_all_not, Bool.not_not]
  simp
theorem spec_roots_loop {p : List Nd} (hf : Fits p) (hl : p.length < 4611686018427387904) {l : List Int} (h2 : l.length < 4611686018427387904) : ∀ (k i : Nat), i + k = l.length → Lspec_l7Roots_2 (l.map eI) (i : Int) (p.map eN) = some (.bool ((l.drop i).all (fun r => wi r 0 ((p.length : Int) - 1)) && okPool p), [])
  | 0, i, hi => by
    rw [Lspec_l7Roots_2_eq, br_not (by rw [List.length_map]; exact ge_idx (by omega)), List.drop_of_length_le (by omega), oc_s_PoolOk (v_spec_PoolOk hf hl)]; rfl
  | k + 1, i, hi => by
    obtain ⟨x, hx⟩ := get_of_lt (l := l) (i := i) (by omega)
    rw [Lspec_l7Roots_2_eq, br_of (by rw [List.length_map]; exact lt_idx (by omega)), grd_of (by rw [List.length_map]; exact in_idx (by omega)), Int.toNat_natCast, oget_map hx, asI_int, oc_s_l2Has (v_l2Has hl x), w64s (by omega), spec_roots_loop hf hl h2 k (i + 1) (by omega), br_nota, Bool.not_not, drop_at hx, List.all_cons, Bool.and_assoc]
theorem v_l7Roots {p : List Nd} (hf : Fits p) (hl : p.length < 4611686018427387904) {l : List Int} (h2 : l.length < 4611686018427387904) : V 57 [eP p, .rs (1, 0) (l.map eI)] = some (.bool (okPool p && rootsIn p l), []) := by
  have h : Lspec_l7Roots_2 (l.map eI) 0 (p.map eN) = _ := spec_roots_loop hf hl h2 l.length 0 (Nat.zero_add _)
  rw [espec_l7Roots, h, Bool.and_comm]; rfl

/-! ## what is reached -/
noncomputable def mkKids (x : Nd) (m : List Bool) : List Bool := if x.kind = 5 then (m.set x.a.toNat true).set x.b.toNat true else if x.kind = 6 ∨ x.kind = 7 then m.set x.a.toNat true else m
noncomputable def reachGo (p : List Nd) : Nat → List Bool → List Bool
  | 0, m => m
  | k + 1, m => reachGo p k (match p[k]?, m[k]? with | some x, some true => mkKids x m | _, _ => m)
noncomputable def rootsM (rs : List Int) (m : List Bool) : List Bool := rs.foldl (fun m r => m.set r.toNat true) m
noncomputable def reachL (p : List Nd) (rs : List Int) : List Bool := reachGo p p.length (rootsM rs (List.replicate p.length false))
theorem mkKids_length (x : Nd) (m : List Bool) : (mkKids x m).length = m.length := by
  unfold mkKids
  split
  · simp
  · split <;> simp
theorem reachGo_length {p : List Nd} : ∀ (k : Nat) (m : List Bool), (reachGo p k m).length = m.length
  | 0, m => rfl
  | k + 1, m => by
    simp only [reachGo]
    rw [reachGo_length k]
    split
    · exact mkKids_length _ _
    · rfl
theorem rootsM_length : ∀ (rs : List Int) (m : List Bool), (rootsM rs m).length = m.length
  | [], m => rfl
  | r :: rs, m => by
    have := rootsM_length rs (m.set r.toNat true)
    simpa [rootsM] using this
theorem in_int {n : Int} {l : Nat} (h0 : 0 ≤ n) (h1 : n < l) : (decide (0 ≤ n) && decide (n < ni l)) = true := by
  simp only [ni, Bool.and_eq_true, decide_eq_true_eq]; omega
theorem get_int {α : Type} {l : List α} {n : Int} (h0 : 0 ≤ n) (h1 : n < l.length) : ∃ x, l[n.toNat]? = some x := get_of_lt (by omega)
theorem set_map {m : List Bool} {j : Nat} : List.set (m.map D.bool) j (D.bool true) = (m.set j true).map D.bool := by rw [List.map_set]

theorem impl_reach_loop {p : List Nd} (hp : okPool p = true) : ∀ (k : Nat) (m : List Bool) (i : Int), i = (k : Int) - 1 → k ≤ p.length → m.length = p.length → Limpl_reach_8 i (p.map eN) (m.map D.bool) = some (.os (1, 0) ((reachGo p k m).map D.bool), [])
  | 0, m, i, hi, hk, hm => by
    rw [Limpl_reach_8_eq, br_not (decide_eq_false (by omega))]; rfl
  | k + 1, m, i, hi, hk, hm => by
    have hl := okPool_len hp
    have ei : i = (k : Int) := by omega
    subst ei
    obtain ⟨x, hx⟩ := get_of_lt (l := p) (i := k) (by omega)
    obtain ⟨b, hb⟩ := get_of_lt (l := m) (i := k) (by omega)
    have ho := okPool_get hp hx
    have hw : IntKind.wrap .i64 ((k : Int) - 1) = (k : Int) - 1 := w64 (by omega) (by omega)
    rw [Limpl_reach_8_eq, br_of (decide_eq_true (by omega)), grd_of (by rw [List.length_map]; exact in_idx (by omega)), Int.toNat_natCast, oget_map hb, asB_bool, hw]
    simp only [reachGo, hx, hb]
    cases b with
    | false => rw [Bool.not_false, br_true]; exact impl_reach_loop hp k m _ rfl (by omega) hm
    | true =>
      show _ = some (D.os (1, 0) ((reachGo p k (mkKids x m)).map D.bool), [])
      rw [Bool.not_true, br_false, grd_of (by rw [List.length_map]; exact in_idx (by omega)), oget_map hx, nd_all]
      by_cases h5 : x.kind = 5
      · obtain ⟨a0, a1, b0, b1⟩ := okN_pair ho h5
        obtain ⟨u, hu⟩ := get_int (l := m) (n := x.a) a0 (by omega)
        obtain ⟨v, hv⟩ := get_int (l := m.set x.a.toNat true) (n := x.b) b0 (by simp; omega)
        rw [br_of (by simp [h5]), grd_of (by rw [List.length_map]; exact in_int a0 (by omega)), oget_map hu, nam_eq, set_map, grd_of (by rw [List.length_map]; exact in_int b0 (by simp; omega)), oget_map hv, nam_eq, set_map]
        simp only [mkKids, h5, if_true]
        exact impl_reach_loop hp k _ _ rfl (by omega) (by simp; omega)
      rw [br_not (by simp [h5])]
      by_cases h6 : x.kind = 6
      · obtain ⟨a0, a1⟩ := okN_one ho (.inl h6)
        obtain ⟨u, hu⟩ := get_int (l := m) (n := x.a) a0 (by omega)
        rw [br_of (by simp [h6]), br_of (by simp [h6]), grd_of (by rw [List.length_map]; exact in_int a0 (by omega)), oget_map hu, nam_eq, set_map]
        have e : mkKids x m = m.set x.a.toNat true := by simp [mkKids, h6]
        rw [e]
        exact impl_reach_loop hp k _ _ rfl (by omega) (by simp; omega)
      rw [br_not (by simp [h6])]
      by_cases h7 : x.kind = 7
      · obtain ⟨a0, a1⟩ := okN_one ho (.inr h7)
        obtain ⟨u, hu⟩ := get_int (l := m) (n := x.a) a0 (by omega)
        rw [br_of (by simp [h7]), grd_of (by rw [List.length_map]; exact in_int a0 (by omega)), oget_map hu, nam_eq, set_map]
        have e : mkKids x m = m.set x.a.toNat true := by simp [mkKids, h7]
        rw [e]
        exact impl_reach_loop hp k _ _ rfl (by omega) (by simp; omega)
      rw [br_not (by simp [h7])]
      have e : mkKids x m = m := by simp [mkKids, h5, h6, h7]
      rw [e]
      exact impl_reach_loop hp k _ _ rfl (by omega) hm
theorem spec_reach_loop {p : List Nd} (hp : okPool p = true) : ∀ (k : Nat) (m : List Bool) (i : Int), i = (k : Int) - 1 → k ≤ p.length → m.length = p.length → Lspec_l7Reach_7 i (p.map eN) (m.map D.bool) = some (.os (1, 0) ((reachGo p k m).map D.bool), [])
  | 0, m, i, hi, hk, hm => by
    rw [Lspec_l7Reach_7_eq, br_not (decide_eq_false (by omega))]; rfl
  | k + 1, m, i, hi, hk, hm => by
    have hl := okPool_len hp
    have ei : i = (k : Int) := by omega
    subst ei
    obtain ⟨x, hx⟩ := get_of_lt (l := p) (i := k) (by omega)
    obtain ⟨b, hb⟩ := get_of_lt (l := m) (i := k) (by omega)
    have ho := okPool_get hp hx
    have hw : IntKind.wrap .i64 ((k : Int) - 1) = (k : Int) - 1 := w64 (by omega) (by omega)
    rw [Lspec_l7Reach_7_eq, br_of (decide_eq_true (by omega)), grd_of (by rw [List.length_map]; exact in_idx (by omega)), Int.toNat_natCast, oget_map hx, nd_all, grd_of (by rw [List.length_map]; exact in_idx (by omega)), oget_map hb, asB_bool, hw]
    simp only [reachGo, hx, hb]
    cases b with
    | false => rw [Bool.not_false, br_true]; exact spec_reach_loop hp k m _ rfl (by omega) hm
    | true =>
      show _ = some (D.os (1, 0) ((reachGo p k (mkKids x m)).map D.bool), [])
      rw [Bool.not_true, br_false]
      by_cases h5 : x.kind = 5
      · obtain ⟨a0, a1, b0, b1⟩ := okN_pair ho h5
        obtain ⟨u, hu⟩ := get_int (l := m) (n := x.a) a0 (by omega)
        obtain ⟨v, hv⟩ := get_int (l := m.set x.a.toNat true) (n := x.b) b0 (by simp; omega)
        rw [br_of (by simp [h5]), grd_of (by rw [List.length_map]; exact in_int a0 (by omega)), oget_map hu, nam_eq, set_map, grd_of (by rw [List.length_map]; exact in_int b0 (by simp; omega)), oget_map hv, nam_eq, set_map]
        simp only [mkKids, h5, if_true]
        exact spec_reach_loop hp k _ _ rfl (by omega) (by simp; omega)
      rw [br_not (by simp [h5])]
      by_cases h6 : x.kind = 6
      · obtain ⟨a0, a1⟩ := okN_one ho (.inl h6)
        obtain ⟨u, hu⟩ := get_int (l := m) (n := x.a) a0 (by omega)
        rw [br_of (by simp [h6]), br_of (by simp [h6]), grd_of (by rw [List.length_map]; exact in_int a0 (by omega)), oget_map hu, nam_eq, set_map]
        have e : mkKids x m = m.set x.a.toNat true := by simp [mkKids, h6]
        rw [e]
        exact spec_reach_loop hp k _ _ rfl (by omega) (by simp; omega)
      rw [br_not (by simp [h6])]
      by_cases h7 : x.kind = 7
      · obtain ⟨a0, a1⟩ := okN_one ho (.inr h7)
        obtain ⟨u, hu⟩ := get_int (l := m) (n := x.a) a0 (by omega)
        rw [br_of (by simp [h7]), grd_of (by rw [List.length_map]; exact in_int a0 (by omega)), oget_map hu, nam_eq, set_map]
        have e : mkKids x m = m.set x.a.toNat true := by simp [mkKids, h7]
        rw [e]
        exact spec_reach_loop hp k _ _ rfl (by omega) (by simp; omega)
      rw [br_not (by simp [h7])]
      have e : mkKids x m = m := by simp [mkKids, h5, h6, h7]
      rw [e]
      exact spec_reach_loop hp k _ _ rfl (by omega) hm

theorem impl_mark_loop {p : List Nd} (hp : okPool p = true) {l : List Int} (h2 : l.length < 4611686018427387904) (hr : rootsIn p l = true) : ∀ (k i : Nat) (m : List Bool), i + k = l.length → m.length = p.length → Limpl_reach_3 (l.map eI) (ni (l.map eI).length) (i : Int) (p.map eN) (m.map D.bool) = some (.os (1, 0) ((reachGo p p.length (rootsM (l.drop i) m)).map D.bool), [])
  | 0, i, m, hi, hm => by
    have hl := okPool_len hp
    rw [Limpl_reach_3_eq, br_not (by rw [List.length_map]; exact ge_idx (by omega)), List.drop_of_length_le (by omega), List.length_map, w64 (by simp only [ni]; omega) (by simp only [ni]; omega)]
    exact impl_reach_loop hp p.length m _ rfl (Nat.le_refl _) hm
  | k + 1, i, m, hi, hm => by
    obtain ⟨x, hx⟩ := get_of_lt (l := l) (i := i) (by omega)
    have hx2 := wi_iff.1 (List.all_eq_true.1 hr x (List.mem_of_getElem? hx))
    obtain ⟨u, hu⟩ := get_int (l := m) (n := x) hx2.1 (by omega)
    rw [Limpl_reach_3_eq, br_of (by rw [List.length_map]; exact lt_idx (by omega)), grd_of (by rw [List.length_map]; exact in_idx (by omega)), Int.toNat_natCast, oget_map hx, asI_int, grd_of (by rw [List.length_map]; exact in_int hx2.1 (by omega)), oget_map hu, nam_eq, set_map, w64s (by omega), drop_at hx]
    exact impl_mark_loop hp h2 hr k (i + 1) _ (by omega) (by simp; omega)
theorem spec_mark_loop {p : List Nd} (hp : okPool p = true) {l : List Int} (h2 : l.length < 4611686018427387904) (hr : rootsIn p l = true) : ∀ (k i : Nat) (m : List Bool), i + k = l.length → m.length = p.length → Lspec_l7Reach_3 (l.map eI) (i : Int) (p.map eN) (m.map D.bool) = some (.os (1, 0) ((reachGo p p.length (rootsM (l.drop i) m)).map D.bool), [])
  | 0, i, m, hi, hm => by
    have hl := okPool_len hp
    rw [Lspec_l7Reach_3_eq, br_not (by rw [List.length_map]; exact ge_idx (by omega)), List.drop_of_length_le (by omega), List.length_map, w64 (by simp only [ni]; omega) (by simp only [ni]; omega)]
    exact spec_reach_loop hp p.length m _ rfl (Nat.le_refl _) hm
  | k + 1, i, m, hi, hm => by
    obtain ⟨x, hx⟩ := get_of_lt (l := l) (i := i) (by omega)
    have hx2 := wi_iff.1 (List.all_eq_true.1 hr x (List.mem_of_getElem? hx))
    obtain ⟨u, hu⟩ := get_int (l := m) (n := x) hx2.1 (by omega)
    rw [Lspec_l7Reach_3_eq, br_of (by rw [List.length_map]; exact lt_idx (by omega)), grd_of (by rw [List.length_map]; exact in_idx (by omega)), Int.toNat_natCast, oget_map hx, asI_int, grd_of (by rw [List.length_map]; exact in_int hx2.1 (by omega)), oget_map hu, nam_eq, set_map, w64s (by omega), drop_at hx]
    exact spec_mark_loop hp h2 hr k (i + 1) _ (by omega) (by simp; omega)
theorem lim_len {α : Type} {f : α → D} {l : List α} (h : l.length ≤ 4294967296) : (decide (0 ≤ ni (l.map f).length) && decide (ni (l.map f).length ≤ LIM)) = true := by
  rw [Bool.and_eq_true]
  exact ⟨decide_eq_true (by simp only [ni]; omega), decide_eq_true (by rw [LIM_eq, List.length_map]; simp only [ni]; omega)⟩
theorem rep_false {n : Nat} : List.replicate (Int.toNat (ni n)) (D.bool false) = (List.replicate n false).map D.bool := by simp [ni]
theorem v_reach {p : List Nd} (hp : okPool p = true) {l : List Int} (h2 : l.length < 4611686018427387904) (hr : rootsIn p l = true) : V 162 [eP p, .rs (1, 0) (l.map eI)] = some (.os (1, 0) ((reachL p l).map D.bool), []) := by
  have hl := okPool_len hp
  have h : Limpl_reach_3 (l.map eI) (ni (l.map eI).length) 0 (p.map eN) ((List.replicate p.length false).map D.bool) = _ := impl_mark_loop hp h2 hr l.length 0 _ (Nat.zero_add _) (by simp)
  have e : (p.map eN).length = p.length := List.length_map _
  rw [eimpl_reach, grd_of (lim_len (by omega)), rep_false, e, h]; rfl
theorem v_l7Reach {p : List Nd} (hp : okPool p = true) {l : List Int} (h2 : l.length < 4611686018427387904) (hr : rootsIn p l = true) : V 117 [eP p, .rs (1, 0) (l.map eI)] = some (.os (1, 0) ((reachL p l).map D.bool), []) := by
  have hl := okPool_len hp
  have h : Lspec_l7Reach_3 (l.map eI) 0 (p.map eN) ((List.replicate p.length false).map D.bool) = _ := spec_mark_loop hp h2 hr l.length 0 _ (Nat.zero_add _) (by simp)
  have e : (p.map eN).length = p.length := List.length_map _
  rw [espec_l7Reach, grd_of (lim_len (by omega)), rep_false, e, h]; rfl
end Go.Eng
