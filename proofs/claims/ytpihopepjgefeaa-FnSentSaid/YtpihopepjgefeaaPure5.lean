/- the laws on LinkAck and LinkSend -/
import Derived.Test.YtpihopepjgefeaaPure4
namespace Go.Eng
open Go.Proofs Go.Proofs.Try

theorem pure_LinkAck {l : Lk} (hf : l.Fits) (n : Int) : V 9 [eK l, .int .i64 n] = some (.bool true, []) := by
  obtain ⟨m, h1, h2, h3⟩ := v_sz hf (n := 1048576) (by omega) (by omega)
  have e : V 9 [eK l, .int .i64 n] = _ := elaws_FnExactLinkAck l.sent l.acked (l.queue.map .str) l.got (l.held.map eP) n
  rw [e]
  have hek : ∀ l : Lk, D.agg [.int .i64 l.sent, .int .i64 l.acked, .rs (1, 0) (l.queue.map .str), .int .i64 l.got, .rs (2, 0) (l.held.map eP)] = eK l := fun l => rfl
  have hok : ∀ l : Lk, D.agg [.int .i64 l.sent, .int .i64 l.acked, .os (1, 0) (l.queue.map .str), .int .i64 l.got, .os (2, 0) (l.held.map eP)] = oK l := fun l => rfl
  rw [hek, ocall_some h1, asI_int, unn_nil]
  by_cases h : m < 0
  · rw [br_of (decide_eq_true h)]
  rw [br_not (decide_eq_false h)]
  obtain ⟨h5, h6⟩ := h3 (by omega)
  have hk := v_toK (l := l) (by omega) (by omega)
  have hs := v_spec_ack (l := l) (by omega) (by omega) n
  have hi := v_impl_ack (l := l) (by omega) (by omega) n
  have he := v_eqK (l := l) (by omega) (by omega)
  have hrl := ackF_length n l
  generalize ackF n l = r at hs hi hrl
  have her := v_eqK (l := r.1) (by omega) (by omega)
  have hm := v_markK (l := l) (by omega) (by omega)
  have hmr := v_markK (l := r.1) (by omega) (by omega)
  have hhr := v_heldK (l := r.1) r.1.queue.length r.1.held.length (by omega) (by omega)
  have hbb : ∀ b : Bool, (!b == b) = false := fun b => by cases b <;> rfl
  unfold oK at hk hs hi
  rw [ocall_some hk, asAgg_agg, unc_cons, asI_int, unc_cons, asI_int, unc_cons, asOs_os, unc_cons, asI_int, unc_cons, asOs_os, unn_nil, unn_nil]
  try rw [hek]
  rw [ocall_some hs, asTup_tup, unc_cons, asAgg_agg, unc_cons, asI_int, unc_cons, asI_int, unc_cons, asOs_os, unc_cons, asI_int, unc_cons, asOs_os, unn_nil, unc_cons, asB_bool, unn_nil, unn_nil]
  rw [ocall_some hk, asAgg_agg, unc_cons, asI_int, unc_cons, asI_int, unc_cons, asOs_os, unc_cons, asI_int, unc_cons, asOs_os, unn_nil, unn_nil]
  try rw [hek]
  rw [ocall_some hi, asTup_tup, unc_cons, asAgg_agg, unc_cons, asI_int, unc_cons, asI_int, unc_cons, asOs_os, unc_cons, asI_int, unc_cons, asOs_os, unn_nil, unc_cons, asB_bool, unn_nil, unn_nil]
  try rw [hek]
  rw [ocall_some her, asB_bool, unn_nil, br_not (by rfl), br_not (hbb _)]
  rw [ocall_some hk, asAgg_agg, unc_cons, asI_int, unc_cons, asI_int, unc_cons, asOs_os, unc_cons, asI_int, unc_cons, asOs_os, unn_nil, unn_nil]
  try rw [hek]
  rw [ocall_some he, asB_bool, unn_nil, br_not (by rfl)]
  try rw [hok]
  rw [ocall_some hm, asI_int, unc_cons]
  unfold oK
  rw [asAgg_agg, unc_cons, asI_int, unc_cons, asI_int, unc_cons, asOs_os, unc_cons, asI_int, unc_cons, asOs_os, unn_nil, unn_nil, br_not (decide_eq_false (by omega))]
  try rw [hek]
  rw [ocall_some her, asB_bool, unn_nil, br_not (by rfl), br_not (hbb _)]
  try rw [hok]
  rw [ocall_some hmr, asI_int, unc_cons]
  unfold oK
  rw [asAgg_agg, unc_cons, asI_int, unc_cons, asI_int, unc_cons, asOs_os, unc_cons, asI_int, unc_cons, asOs_os, unn_nil, unn_nil]
  unfold eK at hhr
  rw [ocall_some hhr, asI_int, unn_nil, br_not (decide_eq_false (by omega)), br_not (by simp)]
  try rw [hek]
  rw [ocall_some hk, asAgg_agg, unc_cons, asI_int, unc_cons, asI_int, unc_cons, asOs_os, unc_cons, asI_int, unc_cons, asOs_os, unn_nil, unn_nil]
  try rw [hek]
  rw [ocall_some hi, asTup_tup, unc_cons, asAgg_agg, unc_cons, asI_int, unc_cons, asI_int, unc_cons, asOs_os, unc_cons, asI_int, unc_cons, asOs_os, unn_nil, unc_cons, asB_bool, unn_nil, unn_nil]
  try rw [hek]
  rw [ocall_some her, asB_bool, unn_nil, br_not (by rfl), br_not (hbb _)]
  rw [ocall_some hhr, asI_int, unn_nil, br_not (decide_eq_false (by omega)), br_not (by simp)]
theorem core_FnExactLinkAck (xs : List D) (h : All2 (fun t x => ShapeV Try.prog t x) Try.f9.params.toList xs) : V 9 xs = some (.bool true, []) := by
  rw [Try.params9] at h
  cases h with | cons h1 h =>
  cases h with | cons h2 h =>
  cases h
  obtain ⟨l, rfl, hl⟩ := arg_link h1
  obtain ⟨a, rfl, _⟩ := h2.int Try.underlying3
  exact pure_LinkAck hl a
end Go.Eng
