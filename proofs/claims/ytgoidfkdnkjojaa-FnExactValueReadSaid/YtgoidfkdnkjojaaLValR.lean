/- the program's ValueRead returns what the reference's returns -/
import Derived.Test.YtgoidfkdnkjojaaWire6
import Derived.Test.YtgoidfkdnkjojaaMark
namespace Go.Eng
open Go.Proofs Go.Proofs.Try
set_option maxHeartbeats 4000000

theorem readV_len {s : List UInt8} {p : List Nd} (h : readV s = some p) : p.length ≤ 3000 := by
  unfold readV at h
  split at h
  · rename_i hc
    cases h
    exact okPool_len (packV_some hc.2).1
  · cases h
theorem law_FnExactValueRead (s : ByteArray) : V 6 [.str s] = some (.bool true, []) := by
  have hz := bytes_len s
  rw [elaws_FnExactValueRead]
  by_cases hbig : s.size > 1048576
  · simp (disch := first | omega | (simp only [List.length_append, List.length_cons, List.length_nil, List.length_map, mk_size, nat_cast_eq]; omega)) only [↓br_true, dec_t, nat_cast_eq]
  have h1 := v_impl_ValueRead (s := s.data.toList) (by omega)
  have h2 := v_spec_ValueRead (s := s.data.toList) (by omega)
  rw [mk_of] at h1 h2
  cases e : readV s.data.toList with
  | none =>
    rw [e, readD] at h1 h2
    have q1 : V 25 [.agg [.rs (5, 0) []], .agg [.rs (5, 0) []]] = some (.bool true, []) := v_eqPool (l := []) (by simp)
    have q2 : V 27 [.agg [.os (5, 0) []], .int .i64 1] = some (.int .i64 1, [.agg [.os (5, 0) []]]) := v_markPool (l := []) (c := 1) (by omega) (by omega) (by simp)
    have q3 : V 29 [.agg [.rs (5, 0) []], .int .i64 1] = some (.int .i64 1, []) := v_heldPool (n := 0) (c := 1) (by omega) (by omega) (by omega)
    simp (disch := first | omega | (simp only [List.length_append, List.length_cons, List.length_nil, List.length_map, mk_size, nat_cast_eq]; omega)) only [↓ocall_ocont, ocont_some, ↓br_false, ↓unn_nil, ↓unc_cons, ↓asI_int, ↓asB_bool, ↓asOs_os, ↓asAgg_agg, ↓asTup_tup, dec_f, bne_f, Bool.not_true, nat_cast_eq, h1, h2, q1, q2, q3]
    rfl
  | some p =>
    rw [e, readD] at h1 h2
    have hl := readV_len e
    have q1 := v_eqPool (l := p) (by omega)
    have q2 := v_markPool (l := p) (c := 1) (by omega) (by omega) (by omega)
    have q3 := v_heldPool (n := p.length) (c := 1) (by omega) (by omega) (by omega)
    simp (disch := first | omega | (simp only [List.length_append, List.length_cons, List.length_nil, List.length_map, mk_size, nat_cast_eq]; omega)) only [↓ocall_ocont, ocont_some, ↓br_false, ↓unn_nil, ↓unc_cons, ↓asI_int, ↓asB_bool, ↓asOs_os, ↓asAgg_agg, ↓asTup_tup, dec_f, bne_f, Bool.not_true, nat_cast_eq, h1, h2, q1, q2, q3]
    rfl
theorem core_FnExactValueRead (xs : List D) (h : All2 (fun t x => ShapeV Try.prog t x) Try.f6.params.toList xs) : V 6 xs = some (.bool true, []) := by
  rw [Try.params6] at h
  cases h with | cons h1 h =>
  cases h
  obtain ⟨s, rfl, hs⟩ := h1.str Try.underlying9
  exact law_FnExactValueRead s
end Go.Eng
