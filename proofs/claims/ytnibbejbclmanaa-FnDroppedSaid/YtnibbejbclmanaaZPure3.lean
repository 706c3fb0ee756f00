/- what the functions on leases come to, third part -/
import Derived.Test.YtnibbejbclmanaaZPure2
namespace Go.Eng
open Go.Proofs Go.Proofs.Try

theorem find_some {α : Type} {p : α → Bool} {l : List α} {k : Nat} (h : l.findIdx? p = some k) : ∃ x, l[k]? = some x ∧ p x = true := by
  obtain ⟨h1, h2, _⟩ := List.findIdx?_eq_some_iff_getElem.1 h
  exact ⟨l[k], List.getElem?_eq_getElem h1, h2⟩
theorem posB_none {α : Type} {p : α → Bool} {l : List α} (h : l.findIdx? p = none) : posB p l = -1 := by simp [posB, h]
theorem posB_some {α : Type} {p : α → Bool} {l : List α} {k : Nat} (h : l.findIdx? p = some k) : posB p l = (k : Int) := by simp [posB, h]
theorem sameL_eq {a b : Int} {x : Ls} (h : sameL a b x = true) : x = ⟨a, b, x.un⟩ := by
  obtain ⟨c, d, e⟩ := x
  simp only [sameL, Bool.and_eq_true, beq_iff_eq] at h
  rw [h.1, h.2]

/-! ## LeaseGive -/
def lsGive (a b n : Int) (l : List Ls) : List Ls × Bool :=
  match l.findIdx? (sameL a b) with
  | none => (l, false)
  | some k => match l[k]? with
    | none => (l, false)
    | some x => if x.un < n then (l, false) else (l.eraseIdx k, true)
def giveF (a b n : Int) (l : List Ls) : List Ls × Bool := if okL l then lsGive a b n l else ([], false)
theorem lsGive_length (a b n : Int) (l : List Ls) : (lsGive a b n l).1.length ≤ l.length := by
  unfold lsGive
  repeat' split
  all_goals first | exact Nat.le_refl _ | exact List.length_eraseIdx_le _ _
theorem giveF_length (a b n : Int) (l : List Ls) : (giveF a b n l).1.length ≤ l.length := by
  unfold giveF; split
  · exact lsGive_length a b n l
  · simp

theorem v_impl_give {l : List Ls} (hl : l.length ≤ 4294967296) (a b n : Int) : V 26 [.rs (3, 0) (l.map eL), .int .i64 a, .int .i64 b, .int .i64 n] = some (.tup [.os (3, 0) ((giveF a b n l).1.map eL), .bool (giveF a b n l).2], []) := by
  rw [eimpl_LeaseGive, ocall_some (v_impl_ok (by omega))]
  simp only [asB_bool, unn_nil, giveF]
  cases okL l with
  | false => rfl
  | true =>
    simp only [Bool.not_true, br_false, if_true]
    rw [ocall_some (v_clone (by rw [List.length_map]; exact hl))]
    simp only [asOs_os, unn_nil]
    rw [ocall_some (v_leaseAt (by omega) a b)]
    simp only [asI_int, unn_nil, lsGive]
    cases h : l.findIdx? (sameL a b) with
    | none => rw [posB_none h]; rfl
    | some k =>
      obtain ⟨x, hx, hp⟩ := find_some h
      have hk := lt_of_get hx
      rw [posB_some h, br_not (by simp), grd_of (by rw [List.length_map]; exact in_idx hk), Int.toNat_natCast, oget_map hx]
      simp only [hx, eL_mk x, asAgg_agg, oget_lit2, asI_int, w64s (show k < 4611686018427387904 by omega)]
      by_cases hn : x.un < n
      · rw [br_of (by simpa using hn), if_pos hn]
      · rw [br_not (by simpa using hn), if_neg hn, ocall_some (v_delete (by rw [List.length_map]; exact hk))]
        simp only [asOs_os, unn_nil, List.eraseIdx_eq_take_drop_succ, List.map_append, List.map_take, List.map_drop]

theorem v_spec_give {l : List Ls} (hl : l.length ≤ 4294967296) (a b n : Int) : V 25 [.rs (3, 0) (l.map eL), .int .i64 a, .int .i64 b, .int .i64 n] = some (.tup [.os (3, 0) ((giveF a b n l).1.map eL), .bool (giveF a b n l).2], []) := by
  rw [espec_LeaseGive, ocall_some (v_spec_ok (by omega))]
  simp only [asB_bool, unn_nil, giveF]
  cases okL l with
  | false => rfl
  | true =>
    simp only [Bool.not_true, br_false, if_true]
    rw [ocall_some (v_l11At (by omega) a b)]
    simp only [asI_int, unn_nil, lsGive]
    rw [grd_of (decide_eq_true (by simp only [ni, LIM, List.nil_append, List.length_map]; omega)), nam_eq]
    simp only [List.nil_append]
    cases h : l.findIdx? (sameL a b) with
    | none => rw [posB_none h]; rfl
    | some k =>
      obtain ⟨x, hx, hp⟩ := find_some h
      have hk := lt_of_get hx
      rw [posB_some h, br_not (by simp), grd_of (by rw [List.length_map]; exact in_idx hk), Int.toNat_natCast, oget_map hx]
      simp only [hx, eL_mk x, asAgg_agg, oget_lit2, asI_int, w64s (show k < 4611686018427387904 by omega)]
      by_cases hn : x.un < n
      · rw [br_of (by simpa using hn), if_pos hn]
      · rw [br_not (by simpa using hn), if_neg hn]
        have hp : part (l.map eL) (cutR (l.map eL).length none (some ((k + 1 : Nat) : Int)) none) = (l.map eL).drop (k + 1) := by
          simp only [cutR, part, Int.toNat_natCast]
          exact List.take_of_length_le (by rw [List.length_drop]; omega)
        rw [grd_of (by simp [cutOk]; omega), grd_of (by simp [cutOk]; omega), hp, grd_of (by simp; omega), nam_eq]
        simp only [part, List.drop_zero]
        have hll : k + (List.drop (k + 1) (List.map eL l)).length = (List.take k (List.map eL l) ++ List.drop (k + 1) (List.map eL l)).length := by simp; omega
        rw [List.eraseIdx_eq_take_drop_succ, hll, List.take_left]
        simp only [List.map_append, List.map_take, List.map_drop]

/-! ## LeaseAsk -/
def askL (a b n : Int) (l : List Ls) : List Ls :=
  match l.findIdx? (sameL a b) with
  | none => l ++ [⟨a, b, IntKind.wrap .i64 (n + 20)⟩]
  | some k => l.set k ⟨a, b, IntKind.wrap .i64 (n + 20)⟩
def askF (a b n : Int) (l : List Ls) : List Ls × Int × Int × Bool :=
  if okL l then
    if wi n 0 1000000000 then
      if okL (askL a b n l) then (askL a b n l, a, IntKind.wrap .i64 (IntKind.wrap .i64 (n + 20) - 3), true) else (l, 0, 0, false)
    else (l, 0, 0, false)
  else ([], 0, 0, false)
theorem askL_length (a b n : Int) (l : List Ls) : (askL a b n l).length ≤ l.length + 1 := by
  unfold askL; split <;> simp
theorem askF_length (a b n : Int) (l : List Ls) : (askF a b n l).1.length ≤ l.length + 1 := by
  have := askL_length a b n l
  unfold askF; repeat' split
  all_goals first | exact this | simp

def askD (r : List Ls × Int × Int × Bool) : D := .tup [.os (3, 0) (r.1.map eL), .agg [.int .i64 r.2.1, .int .i64 r.2.2.1], .bool r.2.2.2]

theorem v_impl_ask {l : List Ls} (hl : l.length < 4294967296) (a b n : Int) : V 28 [.rs (3, 0) (l.map eL), .int .i64 a, .int .i64 b, .int .i64 n] = some (askD (askF a b n l), []) := by
  rw [eimpl_LeaseAsk, ocall_some (v_impl_ok (by omega))]
  simp only [asB_bool, unn_nil, askF]
  have hc : V 44 [.rs (3, 0) (l.map eL)] = some (.os (3, 0) (l.map eL), []) := v_clone (by rw [List.length_map]; omega)
  cases okL l with
  | false => rfl
  | true =>
    simp only [Bool.not_true, br_false, if_true, ocall_some hc, asOs_os, unn_nil]
    rw [ocall_some (v_within _ _ _)]
    simp only [asB_bool, unn_nil]
    cases wi n 0 1000000000 with
    | false => rfl
    | true =>
      simp only [Bool.not_true, br_false, if_true]
      rw [ocall_some (v_leaseAt (by omega) a b)]
      simp only [asI_int, unn_nil]
      have hlen := askL_length a b n l
      have hok : V 17 [.rs (3, 0) ((askL a b n l).map eL)] = some (.bool (okL (askL a b n l)), []) := v_impl_ok (by omega)
      cases h : l.findIdx? (sameL a b) with
      | none =>
        have he : l.map eL ++ [D.agg [D.int IntKind.i64 a, D.int IntKind.i64 b, D.int IntKind.i64 (IntKind.wrap IntKind.i64 (n + 20))]] = (askL a b n l).map eL := by simp [askL, h, eL]
        rw [posB_none h, br_not (by decide), he, grd_of (decide_eq_true (by simp only [ni, LIM, List.length_map]; omega)), nam_eq, ocall_some hok]
        simp only [asB_bool, unn_nil]
        cases okL (askL a b n l) <;> rfl
      | some k =>
        obtain ⟨x, hx, hp⟩ := find_some h
        have hk := lt_of_get hx
        have he : (l.map eL).set k (D.agg [D.int IntKind.i64 a, D.int IntKind.i64 b, D.int IntKind.i64 (IntKind.wrap IntKind.i64 (n + 20))]) = (askL a b n l).map eL := by simp only [askL, h, List.map_set]; rfl
        rw [posB_some h, br_of (by simp), grd_of (by rw [List.length_map]; exact in_idx hk), Int.toNat_natCast, oget_map hx, he, nam_eq, ocall_some hok]
        simp only [asB_bool, unn_nil]
        cases okL (askL a b n l) <;> rfl

theorem v_spec_ask {l : List Ls} (hl : l.length < 4294967296) (a b n : Int) : V 27 [.rs (3, 0) (l.map eL), .int .i64 a, .int .i64 b, .int .i64 n] = some (askD (askF a b n l), []) := by
  rw [espec_LeaseAsk, ocall_some (v_spec_ok (by omega))]
  simp only [asB_bool, unn_nil, askF]
  cases okL l with
  | false => rfl
  | true =>
    simp only [Bool.not_true, br_false, if_true, List.nil_append, nam_eq]
    rw [grd_of (decide_eq_true (by simp only [ni, LIM, List.length_map]; omega)), grd_of (decide_eq_true (by simp only [ni, LIM, List.length_map]; omega)), ocall_some (v_l1In _ _ _)]
    simp only [asB_bool, unn_nil]
    cases wi n 0 1000000000 with
    | false => rfl
    | true =>
      simp only [Bool.not_true, br_false, if_true]
      rw [ocall_some (v_l11At (by omega) a b)]
      simp only [asI_int, unn_nil]
      have hlen := askL_length a b n l
      have hok : V 15 [.rs (3, 0) ((askL a b n l).map eL)] = some (.bool (okL (askL a b n l)), []) := v_spec_ok (by omega)
      cases h : l.findIdx? (sameL a b) with
      | none =>
        rw [posB_none h, br_of (by decide), grd_of (decide_eq_true (by simp only [ni, LIM, List.length_append, List.length_map, List.length_cons, List.length_nil]; omega))]
        have hin : (decide (0 ≤ ni (l.map eL).length) && decide (ni (l.map eL).length < ni (l.map eL ++ [D.agg [D.int IntKind.i64 a, D.int IntKind.i64 b, D.int IntKind.i64 0]]).length)) = true := by
          simp [ni]; omega
        have hg : oget (R := Ret) (l.map eL ++ [D.agg [D.int IntKind.i64 a, D.int IntKind.i64 b, D.int IntKind.i64 0]]) (Int.toNat (ni (l.map eL).length)) = fun K => K (D.agg [D.int IntKind.i64 a, D.int IntKind.i64 b, D.int IntKind.i64 0]) := by
          funext K; simp [oget, ni]
        have he : (l.map eL ++ [D.agg [D.int IntKind.i64 a, D.int IntKind.i64 b, D.int IntKind.i64 0]]).set (Int.toNat (ni (l.map eL).length)) (D.agg [D.int IntKind.i64 a, D.int IntKind.i64 b, D.int IntKind.i64 (IntKind.wrap IntKind.i64 (n + 20))]) = (askL a b n l).map eL := by
          simp [askL, h, eL, ni]
        rw [grd_of hin, hg]
        simp only [asAgg_agg, List.take_succ_cons, List.take_zero, List.drop_succ_cons, List.drop_zero, List.cons_append, List.nil_append, he]
        rw [ocall_some hok]
        simp only [asB_bool, unn_nil]
        cases okL (askL a b n l) <;> rfl
      | some k =>
        obtain ⟨x, hx, hp⟩ := find_some h
        have hk := lt_of_get hx
        have hxe := sameL_eq hp
        have he : (l.map eL).set k (D.agg [D.int IntKind.i64 x.id, D.int IntKind.i64 x.who, D.int IntKind.i64 (IntKind.wrap IntKind.i64 (n + 20))]) = (askL a b n l).map eL := by
          rw [hxe]; simp only [askL, h, List.map_set]; rfl
        rw [posB_some h, br_not (by simp), grd_of (by rw [List.length_map]; exact in_idx hk), Int.toNat_natCast, oget_map hx]
        simp only [eL_mk x, asAgg_agg, List.take_succ_cons, List.take_zero, List.drop_succ_cons, List.drop_zero, List.cons_append, List.nil_append]
        rw [he, ocall_some hok]
        simp only [asB_bool, unn_nil]
        cases okL (askL a b n l) <;> rfl

theorem v_eqGrip (a b c d : Int) : V 29 [.agg [.int .i64 a, .int .i64 b], .agg [.int .i64 c, .int .i64 d]] = some (.bool (a == c && b == d), []) := by
  rw [elaws_eqGrip]
  by_cases h1 : a = c
  · rw [br_not (by simp [h1])]
    by_cases h2 : b = d
    · rw [br_not (by simp [h2])]; simp [h1, h2]
    · rw [br_of (by simp [h2])]; simp [h2]
  · rw [br_of (by simp [h1])]; simp [h1]
end Go.Eng
