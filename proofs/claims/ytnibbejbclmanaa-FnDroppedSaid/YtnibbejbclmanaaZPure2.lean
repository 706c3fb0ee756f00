/- what the functions on leases come to, second part -/
import Derived.Test.YtnibbejbclmanaaZPure
namespace Go.Eng
open Go.Proofs Go.Proofs.Try

/-! ## Kept -/
def keptP (a b : Int) (x : Ls) : Bool := x.id == a && decide (x.un ≥ b)

theorem v_Kept_1 (x : Ls) (a b : Int) : V 43 [eL x, .bp [.int .i64 a], .bp [.int .i64 b]] = some (.bool (keptP a b x), []) := by
  unfold eL
  rw [eKept_1]
  unfold keptP
  cases h : x.id == a <;> simp [br]

theorem kept_loop {l : List Ls} (hl : l.length < 4611686018427387904) (a b : Int) : ∀ (k i : Nat), i + k = l.length → LIndexFunc_Kept_2 (l.map eL) a b (l.length : Int) (i : Int) = some (.int .i64 (posFrom (keptP a b) l i), [])
  | 0, i, hi => by
    rw [LIndexFunc_Kept_2_eq, br_not (by simp; omega), posFrom_end (by omega)]
  | k + 1, i, hi => by
    obtain ⟨x, hx⟩ := get_of_lt (l := l) (i := i) (by omega)
    rw [LIndexFunc_Kept_2_eq, br_of (by simp; omega), grd_of (by rw [List.length_map]; exact in_idx (by omega)), Int.toNat_natCast, oget_map hx]
    have h52 := v_Kept_1 x a b
    rw [eL_mk x] at h52 ⊢
    simp only [asAgg_agg, unc_cons, unn_nil, asI_int]
    rw [ocall_some h52]
    simp only [asB_bool, unn_nil]
    cases hp : keptP a b x with
    | true => rw [br_true, posFrom_hit hx hp]
    | false => rw [br_false, w64s (by omega), posFrom_miss hx hp]; exact kept_loop hl a b k (i + 1) (by omega)

theorem v_contains {l : List Ls} (hl : l.length < 4611686018427387904) (a b : Int) : V 42 [.rs (3, 0) (l.map eL), .fn 43 [.bp [.int .i64 a], .bp [.int .i64 b]]] = some (.bool (l.any (keptP a b)), []) := by
  rw [eContainsFunc_Kept, ocall_some ((eIndexFunc_Kept (l.map eL) a b).trans ((by simp [ni] : LIndexFunc_Kept_2 (l.map eL) a b (ni (l.map eL).length) 0 = LIndexFunc_Kept_2 (l.map eL) a b (l.length : Int) ((0 : Nat) : Int)).trans (kept_loop hl a b l.length 0 (by omega)))), posFrom_zero]
  simp only [asI_int, unn_nil, posB_neg]

theorem v_impl_Kept {l : List Ls} (hl : l.length < 4611686018427387904) (a b : Int) : V 20 [.rs (3, 0) (l.map eL), .int .i64 a, .int .i64 b] = some (.bool (okL l && l.any (keptP a b)), []) := by
  rw [eimpl_Kept, ocall_some (v_impl_ok hl)]
  simp only [asB_bool, unn_nil]
  cases okL l with
  | false => rfl
  | true =>
    rw [br_true, ocall_some (v_contains hl a b)]
    simp only [asB_bool, unn_nil, Bool.true_and]

theorem spec_kept_loop {l : List Ls} (hl : l.length < 4611686018427387904) (a b : Int) : ∀ (k i : Nat), i + k = l.length → Lspec_Kept_2 (l.map eL) a b (i : Int) = some (.bool (okL l && (l.drop i).any (keptP a b)), [])
  | 0, i, hi => by
    rw [Lspec_Kept_2_eq, br_not (by rw [List.length_map]; exact ge_idx (by omega)), List.drop_of_length_le (by omega)]
    simp
  | k + 1, i, hi => by
    obtain ⟨x, hx⟩ := get_of_lt (l := l) (i := i) (by omega)
    have hin : (decide (0 ≤ (i : Int)) && decide ((i : Int) < ni (l.map eL).length)) = true := by rw [List.length_map]; exact in_idx (by omega)
    have ih := spec_kept_loop hl a b k (i + 1) (by omega)
    rw [Lspec_Kept_2_eq, br_of (by rw [List.length_map]; exact lt_idx (by omega)), ocall_some (v_spec_ok hl)]
    simp only [asB_bool, unn_nil]
    cases hok : okL l with
    | false => simp [br_false]
    | true =>
      rw [hok] at ih
      simp only [br_true, grd_of hin, Int.toNat_natCast, oget_map hx, eL_mk x, asAgg_agg, oget_lit0, oget_lit2, asI_int, w64s (show i < 4611686018427387904 by omega), drop_at hx, List.any_cons, ih]
      unfold keptP
      cases x.id == a
      · simp [br_false]
      · cases decide (x.un ≥ b) <;> simp [br]

theorem v_spec_Kept {l : List Ls} (hl : l.length < 4611686018427387904) (a b : Int) : V 19 [.rs (3, 0) (l.map eL), .int .i64 a, .int .i64 b] = some (.bool (okL l && l.any (keptP a b)), []) := by
  rw [espec_Kept]
  exact spec_kept_loop hl a b l.length 0 (by omega)

/-! ## LeaseDrop -/
def dropF (now : Int) (l : List Ls) : List Ls := if okL l then l.filter fun x => decide (x.un ≥ now) else []
theorem dropF_length (now : Int) (l : List Ls) : (dropF now l).length ≤ l.length := by
  unfold dropF; split
  · exact List.length_filter_le _ _
  · simp

theorem impl_drop_loop {l : List Ls} (hl : l.length ≤ 4294967296) (now : Int) : ∀ (k i : Nat), i + k = l.length → ∀ acc : List Ls, acc.length ≤ i → Limpl_LeaseDrop_5 now (l.map eL) (l.length : Int) (i : Int) (acc.map eL) = some (.os (3, 0) ((acc ++ (l.drop i).filter fun x => decide (x.un ≥ now)).map eL), [])
  | 0, i, hi, acc, ha => by
    rw [Limpl_LeaseDrop_5_eq, br_not (by simp; omega), List.drop_of_length_le (by omega)]
    simp
  | k + 1, i, hi, acc, ha => by
    obtain ⟨x, hx⟩ := get_of_lt (l := l) (i := i) (by omega)
    have hin : (decide (0 ≤ (i : Int)) && decide ((i : Int) < ni (l.map eL).length)) = true := by rw [List.length_map]; exact in_idx (by omega)
    rw [Limpl_LeaseDrop_5_eq, br_of (by simp; omega)]
    simp only [grd_of hin, Int.toNat_natCast, oget_map hx]
    simp only [eL_mk x, asAgg_agg, unc_cons, unn_nil, asI_int, drop_at hx, List.filter_cons, w64s (show i < 4611686018427387904 by omega), nam_eq]
    cases h : decide (x.un ≥ now) with
    | true =>
      rw [br_true, grd_of (by simp [ni, LIM]; omega), ← eL_mk x]
      have ih := impl_drop_loop hl now k (i + 1) (by omega) (acc ++ [x]) (by simp; omega)
      simp only [List.map_append, List.map_cons, List.map_nil, List.append_assoc, List.cons_append, List.nil_append] at ih
      rw [ih]; simp
    | false =>
      rw [br_false, impl_drop_loop hl now k (i + 1) (by omega) acc (by omega)]
      simp

theorem v_impl_drop {l : List Ls} (hl : l.length ≤ 4294967296) (now : Int) : V 22 [.rs (3, 0) (l.map eL), .int .i64 now] = some (.os (3, 0) ((dropF now l).map eL), []) := by
  rw [eimpl_LeaseDrop, ocall_some (v_impl_ok (by omega))]
  simp only [asB_bool, unn_nil]
  unfold dropF
  cases okL l with
  | false => rfl
  | true =>
    have := impl_drop_loop hl now l.length 0 (by omega) [] (by simp)
    simpa [br, ni] using this

theorem spec_drop_loop {l : List Ls} (hl : l.length ≤ 4294967296) (now : Int) (hok : okL l = true) : ∀ (k i : Nat), i + k = l.length → ∀ acc : List Ls, acc.length ≤ i → Lspec_LeaseDrop_3 (l.map eL) now (i : Int) (acc.map eL) = some (.os (3, 0) ((acc ++ (l.drop i).filter fun x => decide (x.un ≥ now)).map eL), [])
  | 0, i, hi, acc, ha => by
    rw [Lspec_LeaseDrop_3_eq, br_not (by rw [List.length_map]; exact ge_idx (by omega)), List.drop_of_length_le (by omega)]
    simp
  | k + 1, i, hi, acc, ha => by
    obtain ⟨x, hx⟩ := get_of_lt (l := l) (i := i) (by omega)
    have hin : (decide (0 ≤ (i : Int)) && decide ((i : Int) < ni (l.map eL).length)) = true := by rw [List.length_map]; exact in_idx (by omega)
    rw [Lspec_LeaseDrop_3_eq, br_of (by rw [List.length_map]; exact lt_idx (by omega)), ocall_some (v_spec_ok (by omega)), hok]
    simp only [asB_bool, unn_nil, br_true, grd_of hin, Int.toNat_natCast, oget_map hx]
    simp only [eL_mk x, asAgg_agg, oget_lit2, unc_cons, unn_nil, asI_int, drop_at hx, List.filter_cons, w64s (show i < 4611686018427387904 by omega), nam_eq]
    cases h : decide (x.un ≥ now) with
    | true =>
      rw [br_true, grd_of (by simp [ni, LIM]; omega), ← eL_mk x]
      have ih := spec_drop_loop hl now hok k (i + 1) (by omega) (acc ++ [x]) (by simp; omega)
      simp only [List.map_append, List.map_cons, List.map_nil, List.append_assoc, List.cons_append, List.nil_append] at ih
      rw [ih]; simp
    | false =>
      rw [br_false, spec_drop_loop hl now hok k (i + 1) (by omega) acc (by omega)]
      simp

theorem v_spec_drop {l : List Ls} (hl : l.length ≤ 4294967296) (now : Int) : V 21 [.rs (3, 0) (l.map eL), .int .i64 now] = some (.os (3, 0) ((dropF now l).map eL), []) := by
  rw [espec_LeaseDrop]
  unfold dropF
  cases hok : okL l with
  | true =>
    have := spec_drop_loop hl now hok l.length 0 (by omega) [] (by simp)
    simpa using this
  | false =>
    rw [Lspec_LeaseDrop_3_eq]
    by_cases h : 0 < l.length
    · rw [br_of (by simpa [ni] using h), ocall_some (v_spec_ok (by omega)), hok]; rfl
    · rw [br_not (by simpa [ni] using h)]; rfl

/-! ## Clone, Delete -/
theorem v_clone {l : List D} (hl : l.length ≤ 4294967296) : V 44 [.rs (3, 0) l] = some (.os (3, 0) l, []) := by
  rw [eslices_Clone_impl_Lease_impl_Lease, grd_of (decide_eq_true (by simp only [ni, LIM, List.nil_append]; omega))]
  exact nilb_clone _ _

theorem v_delete {l : List D} {i : Nat} (hi : i < l.length) : V 45 [.os (3, 0) l, .int .i64 (i : Int), .int .i64 ((i + 1 : Nat) : Int)] = some (.os (3, 0) (l.eraseIdx i), []) := by
  rw [eslices_Delete_impl_Lease_impl_Lease]
  rw [grd_of (by simp [ni, cutOk]; omega), br_not (by simp; omega), grd_of (by simp [cutOk]; omega), grd_of (by simp [cutOk]; omega)]
  have hp : part l (cutR l.length none (some ((i + 1 : Nat) : Int)) none) = l.drop (i + 1) := by
    simp only [cutR, part, Int.toNat_natCast]
    exact List.take_of_length_le (by rw [List.length_drop]; omega)
  have h1 : Int.toNat (i : Int) + (l.drop (i + 1)).length = l.length - 1 := by rw [List.length_drop, Int.toNat_natCast]; omega
  rw [hp, h1, grd_of (by simp), nam_eq]
  have h2 : (l.take (Int.toNat (i : Int)) ++ l.drop (i + 1) ++ l.drop (l.length - 1)).length = l.length := by simp; omega
  rw [grd_of (by rw [h2]; simp only [cutOkX, ni]; simp), grd_of (by rw [h2]; simp only [ni, Int.toNat_natCast]; simp), nam_eq]
  simp only [ni, Int.toNat_natCast, part, Nat.zero_add, List.drop_zero]
  rw [List.eraseIdx_eq_take_drop_succ]
  have h3 : (l.take i ++ l.drop (i + 1)).length = l.length - 1 := by simp; omega
  congr 3
  rw [List.take_append_of_le_length (show l.length - 1 ≤ (l.take i ++ l.drop (i + 1)).length by omega)]
  rw [List.append_assoc, List.take_append_of_le_length (by rw [List.length_take]; simp; omega)]
  rw [List.take_take, Nat.min_self, List.take_of_length_le (by omega)]
end Go.Eng
