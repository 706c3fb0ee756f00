/- nodes of bytes, on both sides -/
import Derived.Test.YtgoidfkdnkjojaaGreatWire2
namespace Go.Eng
open Go.Proofs Go.Proofs.Tryz
set_option maxHeartbeats 4000000

noncomputable abbrev RS := Nat × Bool
noncomputable abbrev rO (b : List UInt8) (s : RS) : D := .op [.os (1, 0) (b.map eU), .int .i64 (s.1 : Int), .bool s.2]
noncomputable def InB (b : List UInt8) (s : RS) : Prop := s.1 ≤ b.length
noncomputable def numI (b : List UInt8) (s : RS) : Nat × RS := match getN 9 (b.drop s.1) with | some (v, c) => (v, (s.1 + c, s.2)) | none => (0, (s.1, false))
noncomputable def numS (b : List UInt8) (s : RS) : Nat × RS := match getN 9 (b.drop s.1) with | some (v, c) => (match s.2 with | true => (v, (s.1 + c, true)) | false => (0, (s.1, false))) | none => (0, (s.1, false))
noncomputable def getT (b : List UInt8) (i : Nat) : Option (List UInt8 × Nat) := match getN 9 (b.drop i) with | some (v, c) => (if i + c + v ≤ b.length then some ((b.drop (i + c)).take v, i + c + v) else none) | none => none
noncomputable def txtI (b : List UInt8) (s : RS) : List UInt8 × RS := match getT b s.1 with | some (t, i) => (t, (i, s.2)) | none => ([], (s.1, false))
noncomputable def txtS (b : List UInt8) (s : RS) : List UInt8 × RS := match getT b s.1 with | some (t, i) => (t, (i, s.2)) | none => ([], (0, false))
theorem getA_0 (b : List UInt8) (i : Nat) : getA b i 0 0 = match getN 9 (b.drop i) with | some (v, c) => .tup [.int .i64 (v : Int), .int .i64 ((i + c : Nat) : Int), .bool true] | none => noN := by
  unfold getA
  simp only [Nat.add_zero, Nat.sub_zero]
  cases getN 9 (b.drop i) with
  | none => rfl
  | some p => simp
theorem getN_le {b : List UInt8} {i v c : Nat} (h : getN 9 (b.drop i) = some (v, c)) : v < 9223372036854775808 ∧ i + c ≤ b.length ∧ 1 ≤ c := by
  have h1 := getN_bound 9 _ v c h
  rw [List.length_drop] at h1
  have e : (128 : Nat) ^ 9 = 9223372036854775808 := rfl
  omega
section
variable {b : List UInt8} (hb : b.length < 4611686018427387904)
include hb
theorem v_reader_num {s : RS} (hs : InB b s) : V 36 [rO b s] = some (.int .i64 ((numI b s).1 : Int), [rO b (numI b s).2]) := by
  have h := v_impl_GetNum hb hs
  rw [getA_0] at h
  rw [eimpl_reader_num]
  unfold numI
  cases e : getN 9 (b.drop s.1) with
  | none => rw [e] at h; simp (disch := first | omega | (simp only [List.length_append, List.length_cons, List.length_nil, List.length_map, mk_size, nat_cast_eq]; omega)) only [↓ocall_ocont, ocont_some, ↓br_true, ↓unn_nil, ↓unc_cons, ↓asI_int, ↓asB_bool, ↓asTup_tup, Bool.not_false, h]; rfl
  | some p => obtain ⟨v, c⟩ := p; rw [e] at h; simp (disch := first | omega | (simp only [List.length_append, List.length_cons, List.length_nil, List.length_map, mk_size, nat_cast_eq]; omega)) only [↓ocall_ocont, ocont_some, ↓br_false, ↓unn_nil, ↓unc_cons, ↓asI_int, ↓asB_bool, ↓asTup_tup, Bool.not_true, h]
theorem v_l8Num {s : RS} (hs : InB b s) : V 30 [rO b s] = some (.int .i64 ((numS b s).1 : Int), [rO b (numS b s).2]) := by
  have h := v_spec_GetNum hb hs
  rw [getA_0] at h
  rw [espec_l8Num]
  unfold numS
  cases e : getN 9 (b.drop s.1) with
  | none => rw [e] at h; simp (disch := first | omega | (simp only [List.length_append, List.length_cons, List.length_nil, List.length_map, mk_size, nat_cast_eq]; omega)) only [↓ocall_ocont, ocont_some, ↓br_true, ↓unn_nil, ↓unc_cons, ↓asI_int, ↓asB_bool, ↓asTup_tup, Bool.not_false, h]; rfl
  | some p =>
    obtain ⟨v, c⟩ := p
    rw [e] at h
    obtain ⟨i, k⟩ := s
    cases k with
    | false => simp (disch := first | omega | (simp only [List.length_append, List.length_cons, List.length_nil, List.length_map, mk_size, nat_cast_eq]; omega)) only [↓ocall_ocont, ocont_some, ↓br_true, ↓br_false, ↓unn_nil, ↓unc_cons, ↓asI_int, ↓asB_bool, ↓asTup_tup, Bool.not_true, Bool.not_false, h]; rfl
    | true => simp (disch := first | omega | (simp only [List.length_append, List.length_cons, List.length_nil, List.length_map, mk_size, nat_cast_eq]; omega)) only [↓ocall_ocont, ocont_some, ↓br_false, ↓unn_nil, ↓unc_cons, ↓asI_int, ↓asB_bool, ↓asTup_tup, Bool.not_true, h]
noncomputable def getTD (r : Option (List UInt8 × Nat)) : D := match r with | some (t, i) => .tup [.str (mk t), .int .i64 (i : Int), .bool true] | none => .tup [.str ⟨#[]⟩, .int .i64 0, .bool false]
omit hb in
theorem cut_u (i v : Nat) : cutL (cutH (b.map eU) ((i + v : Nat) : Int)) (i : Int) = ((b.drop i).take v).map eU := by
  simp only [cutL, cutH, Int.toNat_natCast, ← List.map_take, ← List.map_drop]
  rw [List.drop_take]
  congr 2
  omega
theorem v_impl_GetText {i : Nat} (hi : i ≤ b.length) : V 127 [.rs (1, 0) (b.map eU), .int .i64 (i : Int)] = some (getTD (getT b i), []) := by
  have h := v_impl_GetNum hb hi
  rw [getA_0] at h
  rw [eimpl_GetText]
  unfold getT
  cases e : getN 9 (b.drop i) with
  | none => rw [e] at h; simp (disch := first | omega | (simp only [List.length_append, List.length_cons, List.length_nil, List.length_map, mk_size, nat_cast_eq]; omega)) only [↓ocall_ocont, ocont_some, ↓br_true, ↓unn_nil, ↓unc_cons, ↓asI_int, ↓asB_bool, ↓asTup_tup, Bool.not_false, h]; rfl
  | some p =>
    obtain ⟨v, c⟩ := p
    rw [e] at h
    have hle := getN_le e
    by_cases ht : i + c + v ≤ b.length
    · have hc := cut_u (b := b) (i + c) v
      have hw : IntKind.wrap IntKind.i64 (((i + c : Nat) : Int) + (v : Int)) = ((i + c + v : Nat) : Int) := by rw [w64 (by omega) (by omega)]; omega
      have hk : cutOk b.length (some ((i + c : Nat) : Int)) (some ((i + c + v : Nat) : Int)) = true := by
        simp only [cutOk, Bool.and_eq_true, decide_eq_true_eq]; omega
      simp only [if_pos ht]
      simp (disch := first | omega | (simp only [List.length_append, List.length_cons, List.length_nil, List.length_map, mk_size, nat_cast_eq]; omega)) only [↓ocall_ocont, ocont_some, ↓br_false, ↓grd_true, ↓unn_nil, ↓unc_cons, ↓asI_int, ↓asB_bool, ↓asTup_tup, dec_f, Bool.not_true, List.length_map, wS, nat_cast_eq, h, hw, hk, hc, ↓obytes_map]
      rfl
    · simp only [if_neg ht]
      simp (disch := first | omega | (simp only [List.length_append, List.length_cons, List.length_nil, List.length_map, mk_size, nat_cast_eq]; omega)) only [↓ocall_ocont, ocont_some, ↓br_true, ↓br_false, ↓unn_nil, ↓unc_cons, ↓asI_int, ↓asB_bool, ↓asTup_tup, dec_t, Bool.not_true, List.length_map, wS, nat_cast_eq, h]
      rfl
theorem v_spec_GetText {i : Nat} (hi : i ≤ b.length) : V 68 [.rs (1, 0) (b.map eU), .int .i64 (i : Int)] = some (getTD (getT b i), []) := by
  have h := v_spec_GetNum hb hi
  rw [getA_0] at h
  rw [espec_GetText]
  unfold getT
  cases e : getN 9 (b.drop i) with
  | none => rw [e] at h; simp (disch := first | omega | (simp only [List.length_append, List.length_cons, List.length_nil, List.length_map, mk_size, nat_cast_eq]; omega)) only [↓ocall_ocont, ocont_some, ↓br_true, ↓unn_nil, ↓unc_cons, ↓asI_int, ↓asB_bool, ↓asTup_tup, Bool.not_false, h]; rfl
  | some p =>
    obtain ⟨v, c⟩ := p
    rw [e] at h
    have hle := getN_le e
    by_cases ht : i + c + v ≤ b.length
    · have hc := cut_u (b := b) (i + c) v
      have hw : IntKind.wrap IntKind.i64 (((i + c : Nat) : Int) + (v : Int)) = ((i + c + v : Nat) : Int) := by rw [w64 (by omega) (by omega)]; omega
      have hk : cutOk b.length (some ((i + c : Nat) : Int)) (some ((i + c + v : Nat) : Int)) = true := by
        simp only [cutOk, Bool.and_eq_true, decide_eq_true_eq]; omega
      simp only [if_pos ht]
      simp (disch := first | omega | (simp only [List.length_append, List.length_cons, List.length_nil, List.length_map, mk_size, nat_cast_eq]; omega)) only [↓ocall_ocont, ocont_some, ↓br_false, ↓grd_true, ↓unn_nil, ↓unc_cons, ↓asI_int, ↓asB_bool, ↓asTup_tup, dec_f, Bool.not_true, List.length_map, wS, nat_cast_eq, h, hw, hk, hc, ↓obytes_map]
      rfl
    · simp only [if_neg ht]
      simp (disch := first | omega | (simp only [List.length_append, List.length_cons, List.length_nil, List.length_map, mk_size, nat_cast_eq]; omega)) only [↓ocall_ocont, ocont_some, ↓br_true, ↓br_false, ↓unn_nil, ↓unc_cons, ↓asI_int, ↓asB_bool, ↓asTup_tup, dec_t, Bool.not_true, List.length_map, wS, nat_cast_eq, h]
      rfl
theorem v_reader_text {s : RS} (hs : InB b s) : V 107 [rO b s] = some (.str (mk (txtI b s).1), [rO b (txtI b s).2]) := by
  have h := v_impl_GetText hb hs
  rw [eimpl_reader_text]
  unfold txtI
  cases e : getT b s.1 with
  | none => rw [e, getTD] at h; simp (disch := first | omega | (simp only [List.length_append, List.length_cons, List.length_nil, List.length_map, mk_size, nat_cast_eq]; omega)) only [↓ocall_ocont, ocont_some, ↓br_true, ↓unn_nil, ↓unc_cons, ↓asI_int, ↓asB_bool, ↓asS_str, ↓asTup_tup, Bool.not_false, h]; rfl
  | some p => obtain ⟨t, i⟩ := p; rw [e, getTD] at h; simp (disch := first | omega | (simp only [List.length_append, List.length_cons, List.length_nil, List.length_map, mk_size, nat_cast_eq]; omega)) only [↓ocall_ocont, ocont_some, ↓br_false, ↓unn_nil, ↓unc_cons, ↓asI_int, ↓asB_bool, ↓asS_str, ↓asTup_tup, Bool.not_true, h]
omit hb in
theorem numI_in {s : RS} (hs : InB b s) : InB b (numI b s).2 := by
  unfold numI
  split
  · rename_i v c e; exact (getN_le e).2.1
  · exact hs
omit hb in
theorem numS_in {s : RS} (hs : InB b s) : InB b (numS b s).2 := by
  unfold numS
  split
  · rename_i v c e
    split
    · exact (getN_le e).2.1
    · exact hs
  · exact hs
omit hb in
theorem getT_le {i j : Nat} {t : List UInt8} (h : getT b i = some (t, j)) : j ≤ b.length := by
  unfold getT at h
  split at h
  · split at h
    · cases h; assumption
    · cases h
  · cases h
omit hb in
theorem getT_len {i j : Nat} {t : List UInt8} (h : getT b i = some (t, j)) : t.length ≤ b.length := by
  unfold getT at h
  split at h
  · split at h
    · cases h; simp; omega
    · cases h
  · cases h
omit hb in
theorem txtI_in {s : RS} (hs : InB b s) : InB b (txtI b s).2 := by
  unfold txtI
  split
  · rename_i t i e; exact getT_le e
  · exact hs
omit hb in
theorem txtS_in {s : RS} (hs : InB b s) : InB b (txtS b s).2 := by
  unfold txtS
  split
  · rename_i t i e; exact getT_le e
  · exact Nat.zero_le _
omit hb in
theorem numI_lt (s : RS) : (numI b s).1 < 9223372036854775808 := by
  unfold numI
  split
  · rename_i v c e; exact (getN_le e).1
  · simp
omit hb in
theorem numS_lt (s : RS) : (numS b s).1 < 9223372036854775808 := by
  unfold numS
  split
  · rename_i v c e
    split
    · exact (getN_le e).1
    · simp
  · simp
end
noncomputable abbrev nilS : ByteArray := ⟨#[]⟩
/-- a node, read -/
noncomputable def nodeR (num : RS → Nat × RS) (txt : RS → List UInt8 × RS) (s : RS) : Nd × RS :=
  if (num s).1 = 2 ∨ (num s).1 = 8 ∨ (num s).1 = 9 then (⟨(num s).1, (num (num s).2).1, nilS, 0, 0⟩, (num (num s).2).2)
  else if (num s).1 = 3 then (⟨(num s).1, (num (num s).2).1 - 1000000000, nilS, 0, 0⟩, (num (num s).2).2)
  else if (num s).1 = 4 then (⟨(num s).1, 0, mk (txt (num s).2).1, 0, 0⟩, (txt (num s).2).2)
  else if (num s).1 = 5 then (⟨(num s).1, 0, nilS, (num (num s).2).1, (num (num (num s).2).2).1⟩, (num (num (num s).2).2).2)
  else if (num s).1 = 6 then (⟨(num s).1, (num (num s).2).1, nilS, (num (num (num s).2).2).1, 0⟩, (num (num (num s).2).2).2)
  else if (num s).1 = 7 then (⟨(num s).1, 0, nilS, (num (num s).2).1, 0⟩, (num (num s).2).2)
  else (⟨(num s).1, 0, nilS, 0, 0⟩, (num s).2)
theorem nodeR_in {b : List UInt8} {num : RS → Nat × RS} {txt : RS → List UInt8 × RS} (hn : ∀ s, InB b s → InB b (num s).2) (ht : ∀ s, InB b s → InB b (txt s).2) {s : RS} (hs : InB b s) : InB b (nodeR num txt s).2 := by
  unfold nodeR
  repeat' split
  all_goals (first | exact hn _ (hn _ (hn _ hs)) | exact hn _ (hn _ hs) | exact ht _ (hn _ hs) | exact hn _ hs)
theorem v_reader_node {b : List UInt8} (hb : b.length < 4611686018427387904) {s : RS} (hs : InB b s) : V 77 [rO b s] = some (eN (nodeR (numI b) (txtI b) s).1, [rO b (nodeR (numI b) (txtI b) s).2]) := by
  have h1 := v_reader_num hb hs
  have i1 := numI_in hs
  have h2 := v_reader_num hb i1
  have i2 := numI_in i1
  have h3 := v_reader_num hb i2
  have h4 := v_reader_text hb i1
  have l2 := numI_lt (b := b) (numI b s).2
  have hw : IntKind.wrap IntKind.i64 (((numI b (numI b s).2).1 : Int) - 1000000000) = ((numI b (numI b s).2).1 : Int) - 1000000000 := wfull (by omega) (by omega)
  rw [eimpl_reader_node]
  unfold nodeR
  by_cases k2 : (numI b s).1 = 2
  · rw [if_pos (.inl k2)]; simp (disch := first | omega | (simp only [List.length_append, List.length_cons, List.length_nil, List.length_map, mk_size, nat_cast_eq]; omega)) only [↓ocall_ocont, ocont_some, ↓br_true, ↓unn_nil, ↓unc_cons, ↓asI_int, ↓asB_bool, ↓asOs_os, ↓asOp_op, beq_t, h1, h2]
  by_cases k8 : (numI b s).1 = 8
  · rw [if_pos (.inr (.inl k8))]; simp (disch := first | omega | (simp only [List.length_append, List.length_cons, List.length_nil, List.length_map, mk_size, nat_cast_eq]; omega)) only [↓ocall_ocont, ocont_some, ↓br_true, ↓br_false, ↓unn_nil, ↓unc_cons, ↓asI_int, ↓asB_bool, ↓asOs_os, ↓asOp_op, beq_t, beq_f, h1, h2]
  by_cases k9 : (numI b s).1 = 9
  · rw [if_pos (.inr (.inr k9))]; simp (disch := first | omega | (simp only [List.length_append, List.length_cons, List.length_nil, List.length_map, mk_size, nat_cast_eq]; omega)) only [↓ocall_ocont, ocont_some, ↓br_true, ↓br_false, ↓unn_nil, ↓unc_cons, ↓asI_int, ↓asB_bool, ↓asOs_os, ↓asOp_op, beq_t, beq_f, h1, h2]
  rw [if_neg (by omega)]
  by_cases k3 : (numI b s).1 = 3
  · rw [if_pos k3]; simp (disch := first | omega | (simp only [List.length_append, List.length_cons, List.length_nil, List.length_map, mk_size, nat_cast_eq]; omega)) only [↓ocall_ocont, ocont_some, ↓br_true, ↓br_false, ↓unn_nil, ↓unc_cons, ↓asI_int, ↓asB_bool, ↓asOs_os, ↓asOp_op, beq_t, beq_f, h1, h2, hw]
  rw [if_neg k3]
  by_cases k4 : (numI b s).1 = 4
  · rw [if_pos k4]; simp (disch := first | omega | (simp only [List.length_append, List.length_cons, List.length_nil, List.length_map, mk_size, nat_cast_eq]; omega)) only [↓ocall_ocont, ocont_some, ↓br_true, ↓br_false, ↓unn_nil, ↓unc_cons, ↓asI_int, ↓asB_bool, ↓asS_str, ↓asOs_os, ↓asOp_op, beq_t, beq_f, h1, h4]
  rw [if_neg k4]
  by_cases k5 : (numI b s).1 = 5
  · rw [if_pos k5]; simp (disch := first | omega | (simp only [List.length_append, List.length_cons, List.length_nil, List.length_map, mk_size, nat_cast_eq]; omega)) only [↓ocall_ocont, ocont_some, ↓br_true, ↓br_false, ↓unn_nil, ↓unc_cons, ↓asI_int, ↓asB_bool, ↓asOs_os, ↓asOp_op, beq_t, beq_f, h1, h2, h3]
  rw [if_neg k5]
  by_cases k6 : (numI b s).1 = 6
  · rw [if_pos k6]; simp (disch := first | omega | (simp only [List.length_append, List.length_cons, List.length_nil, List.length_map, mk_size, nat_cast_eq]; omega)) only [↓ocall_ocont, ocont_some, ↓br_true, ↓br_false, ↓unn_nil, ↓unc_cons, ↓asI_int, ↓asB_bool, ↓asOs_os, ↓asOp_op, beq_t, beq_f, h1, h2, h3]
  rw [if_neg k6]
  by_cases k7 : (numI b s).1 = 7
  · rw [if_pos k7]; simp (disch := first | omega | (simp only [List.length_append, List.length_cons, List.length_nil, List.length_map, mk_size, nat_cast_eq]; omega)) only [↓ocall_ocont, ocont_some, ↓br_true, ↓br_false, ↓unn_nil, ↓unc_cons, ↓asI_int, ↓asB_bool, ↓asOs_os, ↓asOp_op, beq_t, beq_f, h1, h2]
  rw [if_neg k7]
  simp (disch := first | omega | (simp only [List.length_append, List.length_cons, List.length_nil, List.length_map, mk_size, nat_cast_eq]; omega)) only [↓ocall_ocont, ocont_some, ↓br_false, ↓unn_nil, ↓unc_cons, ↓asI_int, ↓asB_bool, ↓asOs_os, ↓asOp_op, beq_f, h1]

/-! ## nodes -/
noncomputable def goI (b : List UInt8) (cnt : Nat) : Nat → Nat → RS → List Nd → List Nd × RS
  | 0, _, s, p => (p, s)
  | k + 1, i, s, p => if i < cnt ∧ s.2 = true ∧ i ≤ 3000 then goI b cnt k (i + 1) (nodeR (numI b) (txtI b) s).2 (p ++ [(nodeR (numI b) (txtI b) s).1]) else (p, s)
noncomputable def goS (b : List UInt8) (cnt : Nat) : Nat → Nat → RS → List Nd → List Nd × RS
  | 0, _, s, p => (p, s)
  | k + 1, i, s, p => if i < cnt ∧ s.2 = true then goS b cnt k (i + 1) (nodeR (numS b) (txtS b) s).2 (p ++ [(nodeR (numS b) (txtS b) s).1]) else (p, s)
theorem snoc_nd (p : List Nd) (x : Nd) : p.map eN ++ [D.agg [.int .i64 x.kind, .int .i64 x.n, .str x.s, .int .i64 x.a, .int .i64 x.b]] = (p ++ [x]).map eN := by simp
theorem goI_loop {b : List UInt8} (hb : b.length < 4611686018427387904) (cnt : Nat) (hcnt : cnt < 9223372036854775808) : ∀ (k i : Nat) (s : RS) (p : List Nd), i + k = 3002 → InB b s → p.length ≤ i →
    Limpl_reader_nodes_4v1 (cnt : Int) (i : Int) (s.1 : Int) s.2 (b.map eU) (p.map eN) = some (oP (goI b cnt k i s p).1, [rO b (goI b cnt k i s p).2])
  | 0, i, s, p, hi, hs, hp => by
    rw [Limpl_reader_nodes_4v1_eq]
    obtain ⟨a, o⟩ := s
    simp only [goI]
    cases h1 : decide ((i : Int) < (cnt : Int)) with
    | false => rfl
    | true =>
      cases o with
      | false => rfl
      | true => simp (disch := first | omega | (simp only [List.length_append, List.length_cons, List.length_nil, List.length_map, mk_size, nat_cast_eq]; omega)) only [↓br_true, ↓br_false, dec_f]
  | k + 1, i, s, p, hi, hs, hp => by
    obtain ⟨a, o⟩ := s
    have hn := v_reader_node hb hs
    have hin := nodeR_in (fun s h => numI_in h) (fun s h => txtI_in h) hs
    rw [Limpl_reader_nodes_4v1_eq]
    simp only [goI]
    by_cases h1 : i < cnt
    · cases o with
      | false => rw [if_neg (by simp)]; simp (disch := first | omega | (simp only [List.length_append, List.length_cons, List.length_nil, List.length_map, mk_size, nat_cast_eq]; omega)) only [↓br_true, ↓br_false, dec_t]
      | true =>
        by_cases h3 : i ≤ 3000
        · have ih := goI_loop hb cnt hcnt k (i + 1) _ (p ++ [(nodeR (numI b) (txtI b) (a, true)).1]) (by omega) hin (by simp; omega)
          have hw : IntKind.wrap IntKind.i64 ((i : Int) + 1) = ((i + 1 : Nat) : Int) := w64s (by omega)
          rw [if_pos ⟨h1, rfl, h3⟩]
          simp (disch := first | omega | (simp only [List.length_append, List.length_cons, List.length_nil, List.length_map, mk_size, nat_cast_eq]; omega)) only [↓ocall_ocont, ocont_some, ↓br_true, ↓grd_true, ↓unn_nil, ↓unc_cons, ↓asI_int, ↓asB_bool, ↓asS_str, ↓asOs_os, ↓asAgg_agg, ↓asOp_op, ↓nam_eq, dec_t, List.length_map, List.length_append, List.length_cons, List.length_nil, LIM_eq, nat_cast_eq, hn, snoc_nd, hw]
          exact ih
        · rw [if_neg (fun h => h3 h.2.2)]; simp (disch := first | omega | (simp only [List.length_append, List.length_cons, List.length_nil, List.length_map, mk_size, nat_cast_eq]; omega)) only [↓br_true, ↓br_false, dec_t, dec_f]
    · rw [if_neg (fun h => h1 h.1)]; simp (disch := first | omega | (simp only [List.length_append, List.length_cons, List.length_nil, List.length_map, mk_size, nat_cast_eq]; omega)) only [↓br_false, dec_f]
/-- nodes, read by the program -/
noncomputable def nodesI (b : List UInt8) (s : RS) : List Nd × RS := goI b (numI b s).1 3002 0 (numI b s).2 []
theorem v_reader_nodes {b : List UInt8} (hb : b.length < 4611686018427387904) {s : RS} (hs : InB b s) : V 37 [rO b s] = some (oP (nodesI b s).1, [rO b (nodesI b s).2]) := by
  have h1 := v_reader_num hb hs
  have i1 := numI_in hs
  have l1 := numI_lt (b := b) s
  rw [eimpl_reader_nodes]
  unfold nodesI
  generalize numI b s = m at *
  obtain ⟨cnt, s⟩ := m
  have hn := v_reader_node hb i1
  have hin := nodeR_in (fun s h => numI_in h) (fun s h => txtI_in h) i1
  have ih := goI_loop hb cnt l1 3001 1 _ [(nodeR (numI b) (txtI b) s).1] (by omega) hin (by simp)
  have e : goI b cnt 3002 0 s [] = if 0 < cnt ∧ s.2 = true ∧ 0 ≤ 3000 then goI b cnt 3001 1 (nodeR (numI b) (txtI b) s).2 [(nodeR (numI b) (txtI b) s).1] else ([], s) := rfl
  rw [e]
  obtain ⟨a, o⟩ := s
  have hf : Limpl_reader_nodes_4 (cnt : Int) 0 (a : Int) o (b.map eU) = some (oP (if 0 < cnt ∧ (a, o).2 = true ∧ 0 ≤ 3000 then goI b cnt 3001 1 (nodeR (numI b) (txtI b) (a, o)).2 [(nodeR (numI b) (txtI b) (a, o)).1] else ([], (a, o))).1, [rO b (if 0 < cnt ∧ (a, o).2 = true ∧ 0 ≤ 3000 then goI b cnt 3001 1 (nodeR (numI b) (txtI b) (a, o)).2 [(nodeR (numI b) (txtI b) (a, o)).1] else ([], (a, o))).2]) := by
    rw [Limpl_reader_nodes_4_eq]
    by_cases hz : 0 < cnt
    · cases o with
      | false => rw [if_neg (by simp)]; simp (disch := first | omega | (simp only [List.length_append, List.length_cons, List.length_nil, List.length_map, mk_size, nat_cast_eq]; omega)) only [↓br_true, ↓br_false, dec_t]; rfl
      | true =>
        rw [if_pos ⟨hz, rfl, by omega⟩]
        have hw : IntKind.wrap IntKind.i64 ((0 : Int) + 1) = 1 := by decide
        have ih' : Limpl_reader_nodes_4v1 (cnt : Int) 1 ((nodeR (numI b) (txtI b) (a, true)).2.1 : Int) (nodeR (numI b) (txtI b) (a, true)).2.2 (b.map eU) [D.agg [.int .i64 (nodeR (numI b) (txtI b) (a, true)).1.kind, .int .i64 (nodeR (numI b) (txtI b) (a, true)).1.n, .str (nodeR (numI b) (txtI b) (a, true)).1.s, .int .i64 (nodeR (numI b) (txtI b) (a, true)).1.a, .int .i64 (nodeR (numI b) (txtI b) (a, true)).1.b]] = _ := ih
        simp (disch := first | omega | (simp only [List.length_append, List.length_cons, List.length_nil, List.length_map, mk_size, nat_cast_eq]; omega)) only [↓ocall_ocont, ocont_some, ↓br_true, ↓grd_true, ↓unn_nil, ↓unc_cons, ↓asI_int, ↓asB_bool, ↓asS_str, ↓asOs_os, ↓asAgg_agg, ↓asOp_op, Int.reduceAdd, dec_t, LIM_eq, wS, nat_cast_eq, hn]
        exact ih'
    · rw [if_neg (fun h => hz h.1)]; simp (disch := first | omega | (simp only [List.length_append, List.length_cons, List.length_nil, List.length_map, mk_size, nat_cast_eq]; omega)) only [↓br_false, dec_f]; rfl
  simp (disch := first | omega | (simp only [List.length_append, List.length_cons, List.length_nil, List.length_map, mk_size, nat_cast_eq]; omega)) only [↓ocall_ocont, ocont_some, ↓unn_nil, ↓unc_cons, ↓asI_int, ↓asB_bool, ↓asOs_os, ↓asOp_op, h1]
  exact hf
end Go.Eng
