/- nodes of bytes: the reference's side, and what both come to -/
import Derived.Test.YtgoidfkdnkjojaaGreatWire3
namespace Go.Eng
open Go.Proofs Go.Proofs.Tryz
set_option maxHeartbeats 4000000

noncomputable def restS (b : List UInt8) (r : List Nd × RS) : List Nd × RS := (r.1, (r.2.1, r.2.2 && (decide (r.2.1 = b.length) && okPool r.1)))
theorem spec_node_v1 {b : List UInt8} (hb : b.length < 4611686018427387904) {n i a : Nat} (hs : InB b (a, true)) {p : List Nd} (hp : p.length ≤ 3000) (hi : i < n) (hi2 : i < 4611686018427387904) : Lspec_l8Read_6v1 (n : Int) (i : Int) (a : Int) true (b.map eU) (p.map eN) = Lspec_l8Read_6v1 (n : Int) ((i + 1 : Nat) : Int) ((nodeR (numS b) (txtS b) (a, true)).2.1 : Int) (nodeR (numS b) (txtS b) (a, true)).2.2 (b.map eU) ((p ++ [(nodeR (numS b) (txtS b) (a, true)).1]).map eN) := by
  have h1 := v_l8Num hb hs
  have i1 := numS_in hs
  have h2 := v_l8Num hb i1
  have i2 := numS_in i1
  have h3 := v_l8Num hb i2
  have h4 := v_spec_GetText hb i1
  have l2 := numS_lt (b := b) (numS b (a, true)).2
  have hw : IntKind.wrap IntKind.i64 (((numS b (numS b (a, true)).2).1 : Int) - 1000000000) = ((numS b (numS b (a, true)).2).1 : Int) - 1000000000 := wfull (by omega) (by omega)
  have hW : IntKind.wrap IntKind.i64 ((i : Int) + 1) = ((i + 1 : Nat) : Int) := w64s hi2

  rw [Lspec_l8Read_6v1_eq]
  unfold nodeR
  by_cases k2 : (numS b (a, true)).1 = 2
  · rw [if_pos (.inl k2)]; simp (disch := first | omega | (simp only [List.length_append, List.length_cons, List.length_nil, List.length_map, mk_size, nat_cast_eq]; omega)) only [↓ocall_ocont, ocont_some, ↓br_true, ↓grd_true, ↓unn_nil, ↓unc_cons, ↓asI_int, ↓asB_bool, ↓asOs_os, ↓asOp_op, ↓nam_eq, dec_t, beq_t, List.length_map, List.length_append, List.length_cons, List.length_nil, LIM_eq, nat_cast_eq, h1, h2, hW]; (rw [List.map_append]; rfl)
  by_cases k8 : (numS b (a, true)).1 = 8
  · rw [if_pos (.inr (.inl k8))]; simp (disch := first | omega | (simp only [List.length_append, List.length_cons, List.length_nil, List.length_map, mk_size, nat_cast_eq]; omega)) only [↓ocall_ocont, ocont_some, ↓br_true, ↓br_false, ↓grd_true, ↓unn_nil, ↓unc_cons, ↓asI_int, ↓asB_bool, ↓asOs_os, ↓asOp_op, ↓nam_eq, dec_t, beq_t, beq_f, List.length_map, List.length_append, List.length_cons, List.length_nil, LIM_eq, nat_cast_eq, h1, h2, hW]; (rw [List.map_append]; rfl)
  by_cases k9 : (numS b (a, true)).1 = 9
  · rw [if_pos (.inr (.inr k9))]; simp (disch := first | omega | (simp only [List.length_append, List.length_cons, List.length_nil, List.length_map, mk_size, nat_cast_eq]; omega)) only [↓ocall_ocont, ocont_some, ↓br_true, ↓br_false, ↓grd_true, ↓unn_nil, ↓unc_cons, ↓asI_int, ↓asB_bool, ↓asOs_os, ↓asOp_op, ↓nam_eq, dec_t, beq_t, beq_f, List.length_map, List.length_append, List.length_cons, List.length_nil, LIM_eq, nat_cast_eq, h1, h2, hW]; (rw [List.map_append]; rfl)
  rw [if_neg (by omega)]
  by_cases k3 : (numS b (a, true)).1 = 3
  · rw [if_pos k3]; simp (disch := first | omega | (simp only [List.length_append, List.length_cons, List.length_nil, List.length_map, mk_size, nat_cast_eq]; omega)) only [↓ocall_ocont, ocont_some, ↓br_true, ↓br_false, ↓grd_true, ↓unn_nil, ↓unc_cons, ↓asI_int, ↓asB_bool, ↓asOs_os, ↓asOp_op, ↓nam_eq, dec_t, beq_t, beq_f, List.length_map, List.length_append, List.length_cons, List.length_nil, LIM_eq, nat_cast_eq, h1, h2, hw, hW]; (rw [List.map_append]; rfl)
  rw [if_neg k3]
  by_cases k4 : (numS b (a, true)).1 = 4
  · rw [if_pos k4]
    unfold txtS
    cases hT : getT b (numS b (a, true)).2.1 with
    | none =>
      rw [hT, getTD] at h4
      cases ho : (numS b (a, true)).2.2 <;> (have h1' := h1; unfold rO at h1'; simp only [ho] at h1'; simp (disch := first | omega | (simp only [List.length_append, List.length_cons, List.length_nil, List.length_map, mk_size, nat_cast_eq]; omega)) only [↓ocall_ocont, ocont_some, ↓br_true, ↓br_false, ↓grd_true, ↓unn_nil, ↓unc_cons, ↓asI_int, ↓asB_bool, ↓asS_str, ↓asOs_os, ↓asTup_tup, ↓asOp_op, ↓nam_eq, dec_t, beq_t, beq_f, List.length_map, List.length_append, List.length_cons, List.length_nil, LIM_eq, nat_cast_eq, h1', h4, hW];  first | rfl | (rw [List.map_append]; rfl))
    | some q =>
      obtain ⟨t, j⟩ := q
      rw [hT, getTD] at h4
      cases ho : (numS b (a, true)).2.2 <;> (have h1' := h1; unfold rO at h1'; simp only [ho] at h1'; simp (disch := first | omega | (simp only [List.length_append, List.length_cons, List.length_nil, List.length_map, mk_size, nat_cast_eq]; omega)) only [↓ocall_ocont, ocont_some, ↓br_true, ↓br_false, ↓grd_true, ↓unn_nil, ↓unc_cons, ↓asI_int, ↓asB_bool, ↓asS_str, ↓asOs_os, ↓asTup_tup, ↓asOp_op, ↓nam_eq, dec_t, beq_t, beq_f, List.length_map, List.length_append, List.length_cons, List.length_nil, LIM_eq, nat_cast_eq, h1', h4, hW];  first | rfl | (rw [List.map_append]; rfl))
  rw [if_neg k4]
  by_cases k5 : (numS b (a, true)).1 = 5
  · rw [if_pos k5]; simp (disch := first | omega | (simp only [List.length_append, List.length_cons, List.length_nil, List.length_map, mk_size, nat_cast_eq]; omega)) only [↓ocall_ocont, ocont_some, ↓br_true, ↓br_false, ↓grd_true, ↓unn_nil, ↓unc_cons, ↓asI_int, ↓asB_bool, ↓asOs_os, ↓asOp_op, ↓nam_eq, dec_t, beq_t, beq_f, List.length_map, List.length_append, List.length_cons, List.length_nil, LIM_eq, nat_cast_eq, h1, h2, h3, hW]; (rw [List.map_append]; rfl)
  rw [if_neg k5]
  by_cases k6 : (numS b (a, true)).1 = 6
  · rw [if_pos k6]; simp (disch := first | omega | (simp only [List.length_append, List.length_cons, List.length_nil, List.length_map, mk_size, nat_cast_eq]; omega)) only [↓ocall_ocont, ocont_some, ↓br_true, ↓br_false, ↓grd_true, ↓unn_nil, ↓unc_cons, ↓asI_int, ↓asB_bool, ↓asOs_os, ↓asOp_op, ↓nam_eq, dec_t, beq_t, beq_f, List.length_map, List.length_append, List.length_cons, List.length_nil, LIM_eq, nat_cast_eq, h1, h2, h3, hW]; (rw [List.map_append]; rfl)
  rw [if_neg k6]
  by_cases k7 : (numS b (a, true)).1 = 7
  · rw [if_pos k7]; simp (disch := first | omega | (simp only [List.length_append, List.length_cons, List.length_nil, List.length_map, mk_size, nat_cast_eq]; omega)) only [↓ocall_ocont, ocont_some, ↓br_true, ↓br_false, ↓grd_true, ↓unn_nil, ↓unc_cons, ↓asI_int, ↓asB_bool, ↓asOs_os, ↓asOp_op, ↓nam_eq, dec_t, beq_t, beq_f, List.length_map, List.length_append, List.length_cons, List.length_nil, LIM_eq, nat_cast_eq, h1, h2, hW]; (rw [List.map_append]; rfl)
  rw [if_neg k7]
  simp (disch := first | omega | (simp only [List.length_append, List.length_cons, List.length_nil, List.length_map, mk_size, nat_cast_eq]; omega)) only [↓ocall_ocont, ocont_some, ↓br_true, ↓br_false, ↓grd_true, ↓unn_nil, ↓unc_cons, ↓asI_int, ↓asB_bool, ↓asOs_os, ↓asOp_op, ↓nam_eq, dec_t, beq_f, List.length_map, List.length_append, List.length_cons, List.length_nil, LIM_eq, nat_cast_eq, h1, hW]; (rw [List.map_append]; rfl)
theorem spec_node_v0 {b : List UInt8} (hb : b.length < 4611686018427387904) {n a : Nat} (hs : InB b (a, true)) (hi : 0 < n) : Lspec_l8Read_6 (n : Int) 0 (a : Int) true (b.map eU) = Lspec_l8Read_6v1 (n : Int) 1 ((nodeR (numS b) (txtS b) (a, true)).2.1 : Int) (nodeR (numS b) (txtS b) (a, true)).2.2 (b.map eU) [eN (nodeR (numS b) (txtS b) (a, true)).1] := by
  have h1 := v_l8Num hb hs
  have i1 := numS_in hs
  have h2 := v_l8Num hb i1
  have i2 := numS_in i1
  have h3 := v_l8Num hb i2
  have h4 := v_spec_GetText hb i1
  have l2 := numS_lt (b := b) (numS b (a, true)).2
  have hw : IntKind.wrap IntKind.i64 (((numS b (numS b (a, true)).2).1 : Int) - 1000000000) = ((numS b (numS b (a, true)).2).1 : Int) - 1000000000 := wfull (by omega) (by omega)
  have hW : IntKind.wrap IntKind.i64 ((0 : Int) + 1) = 1 := by decide
  rw [Lspec_l8Read_6_eq]
  unfold nodeR
  by_cases k2 : (numS b (a, true)).1 = 2
  · rw [if_pos (.inl k2)]; simp (disch := first | omega | (simp only [List.length_append, List.length_cons, List.length_nil, List.length_map, mk_size, nat_cast_eq]; omega)) only [↓ocall_ocont, ocont_some, ↓br_true, ↓grd_true, ↓unn_nil, ↓unc_cons, ↓asI_int, ↓asB_bool, ↓asOs_os, ↓asOp_op, Int.reduceAdd, dec_t, beq_t, LIM_eq, wS, nat_cast_eq, h1, h2]
  by_cases k8 : (numS b (a, true)).1 = 8
  · rw [if_pos (.inr (.inl k8))]; simp (disch := first | omega | (simp only [List.length_append, List.length_cons, List.length_nil, List.length_map, mk_size, nat_cast_eq]; omega)) only [↓ocall_ocont, ocont_some, ↓br_true, ↓br_false, ↓grd_true, ↓unn_nil, ↓unc_cons, ↓asI_int, ↓asB_bool, ↓asOs_os, ↓asOp_op, Int.reduceAdd, dec_t, beq_t, beq_f, LIM_eq, wS, nat_cast_eq, h1, h2]
  by_cases k9 : (numS b (a, true)).1 = 9
  · rw [if_pos (.inr (.inr k9))]; simp (disch := first | omega | (simp only [List.length_append, List.length_cons, List.length_nil, List.length_map, mk_size, nat_cast_eq]; omega)) only [↓ocall_ocont, ocont_some, ↓br_true, ↓br_false, ↓grd_true, ↓unn_nil, ↓unc_cons, ↓asI_int, ↓asB_bool, ↓asOs_os, ↓asOp_op, Int.reduceAdd, dec_t, beq_t, beq_f, LIM_eq, wS, nat_cast_eq, h1, h2]
  rw [if_neg (by omega)]
  by_cases k3 : (numS b (a, true)).1 = 3
  · rw [if_pos k3]; simp (disch := first | omega | (simp only [List.length_append, List.length_cons, List.length_nil, List.length_map, mk_size, nat_cast_eq]; omega)) only [↓ocall_ocont, ocont_some, ↓br_true, ↓br_false, ↓grd_true, ↓unn_nil, ↓unc_cons, ↓asI_int, ↓asB_bool, ↓asOs_os, ↓asOp_op, Int.reduceAdd, dec_t, beq_t, beq_f, LIM_eq, wS, nat_cast_eq, h1, h2, hw]
  rw [if_neg k3]
  by_cases k4 : (numS b (a, true)).1 = 4
  · rw [if_pos k4]
    unfold txtS
    cases hT : getT b (numS b (a, true)).2.1 with
    | none =>
      rw [hT, getTD] at h4
      cases ho : (numS b (a, true)).2.2 <;> (have h1' := h1; unfold rO at h1'; simp only [ho] at h1'; simp (disch := first | omega | (simp only [List.length_append, List.length_cons, List.length_nil, List.length_map, mk_size, nat_cast_eq]; omega)) only [↓ocall_ocont, ocont_some, ↓br_true, ↓br_false, ↓grd_true, ↓unn_nil, ↓unc_cons, ↓asI_int, ↓asB_bool, ↓asS_str, ↓asOs_os, ↓asTup_tup, ↓asOp_op, Int.reduceAdd, dec_t, beq_t, beq_f, LIM_eq, wS, nat_cast_eq, h1', h4]; try rfl)
    | some q =>
      obtain ⟨t, j⟩ := q
      rw [hT, getTD] at h4
      cases ho : (numS b (a, true)).2.2 <;> (have h1' := h1; unfold rO at h1'; simp only [ho] at h1'; simp (disch := first | omega | (simp only [List.length_append, List.length_cons, List.length_nil, List.length_map, mk_size, nat_cast_eq]; omega)) only [↓ocall_ocont, ocont_some, ↓br_true, ↓br_false, ↓grd_true, ↓unn_nil, ↓unc_cons, ↓asI_int, ↓asB_bool, ↓asS_str, ↓asOs_os, ↓asTup_tup, ↓asOp_op, Int.reduceAdd, dec_t, beq_t, beq_f, LIM_eq, wS, nat_cast_eq, h1', h4]; try rfl)
  rw [if_neg k4]
  by_cases k5 : (numS b (a, true)).1 = 5
  · rw [if_pos k5]; simp (disch := first | omega | (simp only [List.length_append, List.length_cons, List.length_nil, List.length_map, mk_size, nat_cast_eq]; omega)) only [↓ocall_ocont, ocont_some, ↓br_true, ↓br_false, ↓grd_true, ↓unn_nil, ↓unc_cons, ↓asI_int, ↓asB_bool, ↓asOs_os, ↓asOp_op, Int.reduceAdd, dec_t, beq_t, beq_f, LIM_eq, wS, nat_cast_eq, h1, h2, h3]
  rw [if_neg k5]
  by_cases k6 : (numS b (a, true)).1 = 6
  · rw [if_pos k6]; simp (disch := first | omega | (simp only [List.length_append, List.length_cons, List.length_nil, List.length_map, mk_size, nat_cast_eq]; omega)) only [↓ocall_ocont, ocont_some, ↓br_true, ↓br_false, ↓grd_true, ↓unn_nil, ↓unc_cons, ↓asI_int, ↓asB_bool, ↓asOs_os, ↓asOp_op, Int.reduceAdd, dec_t, beq_t, beq_f, LIM_eq, wS, nat_cast_eq, h1, h2, h3]
  rw [if_neg k6]
  by_cases k7 : (numS b (a, true)).1 = 7
  · rw [if_pos k7]; simp (disch := first | omega | (simp only [List.length_append, List.length_cons, List.length_nil, List.length_map, mk_size, nat_cast_eq]; omega)) only [↓ocall_ocont, ocont_some, ↓br_true, ↓br_false, ↓grd_true, ↓unn_nil, ↓unc_cons, ↓asI_int, ↓asB_bool, ↓asOs_os, ↓asOp_op, Int.reduceAdd, dec_t, beq_t, beq_f, LIM_eq, wS, nat_cast_eq, h1, h2]
  rw [if_neg k7]
  simp (disch := first | omega | (simp only [List.length_append, List.length_cons, List.length_nil, List.length_map, mk_size, nat_cast_eq]; omega)) only [↓ocall_ocont, ocont_some, ↓br_true, ↓br_false, ↓grd_true, ↓unn_nil, ↓unc_cons, ↓asI_int, ↓asB_bool, ↓asOs_os, ↓asOp_op, Int.reduceAdd, dec_t, beq_f, LIM_eq, wS, nat_cast_eq, h1]

theorem fits_of {p : List Nd} {n : Nat} (hn : n < 4611686018427387904) (h : ∀ x ∈ p, x.s.size ≤ n) : Fits p := fun x hx => by have := h x hx; omega
theorem nodeR_sz {b : List UInt8} {num : RS → Nat × RS} {txt : RS → List UInt8 × RS} (ht : ∀ s, (txt s).1.length ≤ b.length) (s : RS) : (nodeR num txt s).1.s.size ≤ b.length := by
  unfold nodeR
  have h0 : nilS.size ≤ b.length := by show 0 ≤ _; omega
  repeat' split
  all_goals (first | exact h0 | (show (mk _).size ≤ _; rw [mk_size]; exact ht _))
theorem txtS_len {b : List UInt8} (s : RS) : (txtS b s).1.length ≤ b.length := by
  unfold txtS
  split
  · rename_i t i e; exact getT_len e
  · simp
theorem txtI_len {b : List UInt8} (s : RS) : (txtI b s).1.length ≤ b.length := by
  unfold txtI
  split
  · rename_i t i e; exact getT_len e
  · simp
theorem spec_end {b : List UInt8} (hb : b.length < 4611686018427387904) {n i : Nat} {s : RS} {p : List Nd} (hp : p.length ≤ 3000) (hf : Fits p) (hn : ¬ (i < n ∧ s.2 = true)) :
    Lspec_l8Read_6v1 (n : Int) (i : Int) (s.1 : Int) s.2 (b.map eU) (p.map eN) = some (oP p, [rO b (restS b (p, s)).2]) := by
  obtain ⟨a, o⟩ := s
  rw [Lspec_l8Read_6v1_eq]
  unfold restS
  cases o with
  | false =>
    cases hd : decide ((i : Int) < (n : Int)) <;> rfl
  | true =>
    have hin : ¬ i < n := fun h => hn ⟨h, rfl⟩
    by_cases ha : a = b.length
    · have hk := v_spec_PoolOk hf (by omega)
      simp only [ha, decide_true, Bool.true_and]
      simp (disch := first | omega | (simp only [List.length_append, List.length_cons, List.length_nil, List.length_map, mk_size, nat_cast_eq]; omega)) only [↓ocall_ocont, ocont_some, ↓br_true, ↓br_false, ↓unn_nil, ↓asB_bool, dec_f, beq_t, List.length_map, nat_cast_eq, hk]
    · simp only [ha, decide_false, Bool.false_and, Bool.and_false]
      simp (disch := first | omega | (simp only [List.length_append, List.length_cons, List.length_nil, List.length_map, mk_size, nat_cast_eq]; omega)) only [↓br_true, ↓br_false, dec_f, beq_f, List.length_map, nat_cast_eq]
theorem goS_loop {b : List UInt8} (hb : b.length < 4611686018427387904) (n : Nat) (hn : n ≤ 3000) : ∀ (k i : Nat) (s : RS) (p : List Nd), i + k = 3001 → i ≤ n → InB b s → p.length = i → (∀ x ∈ p, x.s.size ≤ b.length) →
    Lspec_l8Read_6v1 (n : Int) (i : Int) (s.1 : Int) s.2 (b.map eU) (p.map eN) = some (oP (restS b (goS b n k i s p)).1, [rO b (restS b (goS b n k i s p)).2])
  | 0, i, s, p, hi, hin', hs, hp, hz => by omega
  | k + 1, i, s, p, hi, hin', hs, hp, hz => by
    simp only [goS]
    by_cases hc : i < n ∧ s.2 = true
    · obtain ⟨a, o⟩ := s
      obtain ⟨h1, h2⟩ := hc
      simp only at h2
      subst h2
      have hin := nodeR_in (fun s h => numS_in h) (fun s h => txtS_in h) hs
      rw [if_pos ⟨h1, rfl⟩, spec_node_v1 hb hs (by omega) h1 (by omega)]
      refine goS_loop hb n hn k (i + 1) _ _ (by omega) (by omega) hin (by simp; omega) ?_
      intro x hx
      rcases List.mem_append.1 hx with hx | hx
      · exact hz x hx
      · simp at hx; subst hx; exact nodeR_sz (fun s => txtS_len s) _
    · rw [if_neg hc]
      exact spec_end hb (by omega) (fits_of hb hz) hc
/-- nodes, read by the reference -/
noncomputable def nodesS (b : List UInt8) (s : RS) : List Nd × RS :=
  if (numS b s).1 > 3000 then restS b ([], ((numS b s).2.1, false)) else restS b (goS b (numS b s).1 3001 0 (numS b s).2 [])
theorem v_l8Read {b : List UInt8} (hb : b.length < 4611686018427387904) {s : RS} (hs : InB b s) : V 31 [rO b s] = some (oP (nodesS b s).1, [rO b (nodesS b s).2]) := by
  have h1 := v_l8Num hb hs
  have i1 := numS_in hs
  have l1 := numS_lt (b := b) s
  rw [espec_l8Read]
  unfold nodesS
  generalize numS b s = m at *
  obtain ⟨cnt, a, o⟩ := m
  have h0 : ∀ o' : Bool, ¬ (0 < cnt ∧ o' = true) → Lspec_l8Read_6 (cnt : Int) 0 (a : Int) o' (b.map eU) = some (oP [], [rO b (restS b ([], (a, o'))).2]) := by
    intro o' hc
    rw [Lspec_l8Read_6_eq]
    unfold restS
    cases o' with
    | false => cases hd : decide ((0 : Int) < (cnt : Int)) <;> rfl
    | true =>
      have hin : ¬ 0 < cnt := fun h => hc ⟨h, rfl⟩
      have hk : V 69 [.agg [.rs (5, 0) []]] = some (.bool (okPool []), []) := v_spec_PoolOk (p := []) (fun x h => by simp at h) (by simp)
      by_cases ha : a = b.length
      · simp only [ha, decide_true, Bool.true_and]
        simp (disch := first | omega | (simp only [List.length_append, List.length_cons, List.length_nil, List.length_map, mk_size, nat_cast_eq]; omega)) only [↓ocall_ocont, ocont_some, ↓br_true, ↓br_false, ↓unn_nil, ↓asB_bool, dec_f, beq_t, List.length_map, nat_cast_eq, hk]
        rfl
      · simp only [ha, decide_false, Bool.false_and, Bool.and_false]
        simp (disch := first | omega | (simp only [List.length_append, List.length_cons, List.length_nil, List.length_map, mk_size, nat_cast_eq]; omega)) only [↓br_true, ↓br_false, dec_f, beq_f, List.length_map, nat_cast_eq]
        rfl
  by_cases hbig : cnt > 3000
  · have := h0 false (by simp)
    rw [if_pos hbig]
    simp (disch := first | omega | (simp only [List.length_append, List.length_cons, List.length_nil, List.length_map, mk_size, nat_cast_eq]; omega)) only [↓ocall_ocont, ocont_some, ↓br_true, ↓unn_nil, ↓unc_cons, ↓asI_int, ↓asB_bool, ↓asOs_os, ↓asOp_op, dec_t, h1, this]
    rfl
  · rw [if_neg hbig]
    have e : goS b cnt 3001 0 (a, o) [] = if 0 < cnt ∧ o = true then goS b cnt 3000 1 (nodeR (numS b) (txtS b) (a, o)).2 [(nodeR (numS b) (txtS b) (a, o)).1] else ([], (a, o)) := rfl
    have hq : Lspec_l8Read_6 (cnt : Int) 0 (a : Int) o (b.map eU) = some (oP (restS b (goS b cnt 3001 0 (a, o) [])).1, [rO b (restS b (goS b cnt 3001 0 (a, o) [])).2]) := by
      rw [e]
      by_cases hc : 0 < cnt ∧ o = true
      · obtain ⟨hc1, hc2⟩ := hc
        subst hc2
        have hin := nodeR_in (fun s h => numS_in h) (fun s h => txtS_in h) i1
        rw [if_pos ⟨hc1, rfl⟩, spec_node_v0 hb i1 hc1]
        exact goS_loop hb cnt (by omega) 3000 1 _ [(nodeR (numS b) (txtS b) (a, true)).1] (by omega) (by omega) hin (by simp) (by
          intro x hx
          simp at hx; subst hx; exact nodeR_sz (fun s => txtS_len s) _)
      · rw [if_neg hc]; exact h0 o hc
    simp (disch := first | omega | (simp only [List.length_append, List.length_cons, List.length_nil, List.length_map, mk_size, nat_cast_eq]; omega)) only [↓ocall_ocont, ocont_some, ↓br_false, ↓unn_nil, ↓unc_cons, ↓asI_int, ↓asB_bool, ↓asOs_os, ↓asOp_op, dec_f, h1]
    exact hq
end Go.Eng
