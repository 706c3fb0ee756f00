/- the law on LinkSend -/
import Derived.Test.YtpihopepjgefeaaPure5
namespace Go.Eng
open Go.Proofs Go.Proofs.Try

def sendL (s : ByteArray) (l : Lk) : Lk := ⟨IntKind.wrap .i64 (l.sent + 1), l.acked, l.queue ++ [s], l.got, l.held⟩
def sendF (s : ByteArray) (l : Lk) : Lk × Bool := if okK l then if okK (sendL s l) then (sendL s l, true) else (l, false) else (zK, false)
theorem sendF_length (s : ByteArray) (l : Lk) : ((sendF s l).1.queue.length ≤ l.queue.length ∨ (sendF s l).1.queue.length ≤ 31) ∧ (sendF s l).1.held.length ≤ l.held.length := by
  unfold sendF
  by_cases h : okK l = true
  · rw [if_pos h]
    have hf := okK_facts h
    split
    · simp only [sendL, List.length_append, List.length_cons, List.length_nil]; omega
    · exact ⟨.inl (Nat.le_refl _), Nat.le_refl _⟩
  · rw [if_neg h]; simp [zK]

theorem v_impl_send {l : Lk} (h1 : l.queue.length < 4294967296) (h2 : l.held.length ≤ 4294967296) (s : ByteArray) : V 27 [eK l, .str s] = some (.tup [oK (sendF s l).1, .bool (sendF s l).2], []) := by
  have hs := v_impl_okK (l := l) (by omega) (by omega)
  have hs2 := v_impl_okK (l := sendL s l) (by simp only [sendL, List.length_append, List.length_cons, List.length_nil]; omega) (by simp only [sendL]; omega)
  have hc := v_copyK (l := l) (by omega) h2
  have e : V 27 [eK l, .str s] = _ := eimpl_LinkSend l.sent l.acked (l.queue.map .str) l.got (l.held.map eP) s
  rw [e]
  have hq : l.queue.map D.str ++ [D.str s] = (l.queue ++ [s]).map D.str := by simp
  unfold eK at hs hs2 hc
  simp only [sendL] at hs2
  unfold oK at hc
  rw [ocall_some hs, asB_bool, unn_nil]
  unfold sendF
  cases hok : okK l with
  | false => rfl
  | true =>
    rw [Bool.not_true, br_false, ocall_some hc, asAgg_agg, unc_cons, asI_int, unc_cons, asI_int, unc_cons, asOs_os, unc_cons, asI_int, unc_cons, asOs_os, unn_nil, unn_nil, hq, grd_of (decide_eq_true (by simp only [ni, LIM, List.length_append, List.length_map, List.length_cons, List.length_nil]; omega)), nam_eq, ocall_some hs2, asB_bool, unn_nil]
    simp only [if_true]
    cases hok2 : okK (sendL s l) with
    | true =>
      simp only [sendL] at hok2
      rw [hok2, Bool.not_true, br_false]
      rfl
    | false =>
      simp only [sendL] at hok2
      rw [hok2, Bool.not_false, br_true, ocall_some hc, asAgg_agg, unc_cons, asI_int, unc_cons, asI_int, unc_cons, asOs_os, unc_cons, asI_int, unc_cons, asOs_os, unn_nil, unn_nil]
      rfl

theorem v_spec_send {l : Lk} (h1 : l.queue.length < 4294967296) (h2 : l.held.length ≤ 4294967296) (s : ByteArray) : V 28 [eK l, .str s] = some (.tup [oK (sendF s l).1, .bool (sendF s l).2], []) := by
  have hs := v_spec_okK (l := l) (by omega) (by omega)
  have hs2 := v_spec_okK (l := sendL s l) (by simp only [sendL, List.length_append, List.length_cons, List.length_nil]; omega) (by simp only [sendL]; omega)
  have hc := v_copyKs (l := l) (by omega) h2
  have e : V 28 [eK l, .str s] = _ := espec_LinkSend l.sent l.acked (l.queue.map .str) l.got (l.held.map eP) s
  rw [e]
  have hq : l.queue.map D.str ++ [D.str s] = (l.queue ++ [s]).map D.str := by simp
  unfold eK at hs hs2 hc
  simp only [sendL] at hs2
  unfold oK at hc
  rw [ocall_some hs, asB_bool, unn_nil]
  unfold sendF
  cases hok : okK l with
  | false => rfl
  | true =>
    rw [Bool.not_true, br_false, ocall_some hc, asAgg_agg, unc_cons, asI_int, unc_cons, asI_int, unc_cons, asOs_os, unc_cons, asI_int, unc_cons, asOs_os, unn_nil, unn_nil, hq, grd_of (decide_eq_true (by simp only [ni, LIM, List.length_append, List.length_map, List.length_cons, List.length_nil]; omega)), nam_eq, ocall_some hs2, asB_bool, unn_nil]
    simp only [if_true]
    cases hok2 : okK (sendL s l) with
    | true =>
      simp only [sendL] at hok2
      rw [hok2, Bool.not_true, br_false]
      rfl
    | false =>
      simp only [sendL] at hok2
      rw [hok2, Bool.not_false, br_true, ocall_some hc, asAgg_agg, unc_cons, asI_int, unc_cons, asI_int, unc_cons, asOs_os, unc_cons, asI_int, unc_cons, asOs_os, unn_nil, unn_nil]
      rfl

theorem pure_LinkSend {l : Lk} (hf : l.Fits) (s : ByteArray) : V 10 [eK l, .str s] = some (.bool true, []) := by
  obtain ⟨m, h1, h2, h3⟩ := v_sz hf (n := 1048576) (by omega) (by omega)
  have e : V 10 [eK l, .str s] = _ := elaws_FnExactLinkSend l.sent l.acked (l.queue.map .str) l.got (l.held.map eP) s
  rw [e]
  by_cases hsz : ni s.size > 1048576
  · rw [br_of (decide_eq_true hsz)]
  rw [br_not (decide_eq_false hsz)]
  have hek : ∀ l : Lk, D.agg [.int .i64 l.sent, .int .i64 l.acked, .rs (1, 0) (l.queue.map .str), .int .i64 l.got, .rs (2, 0) (l.held.map eP)] = eK l := fun l => rfl
  have hok : ∀ l : Lk, D.agg [.int .i64 l.sent, .int .i64 l.acked, .os (1, 0) (l.queue.map .str), .int .i64 l.got, .os (2, 0) (l.held.map eP)] = oK l := fun l => rfl
  rw [hek, ocall_some h1, asI_int, unn_nil]
  by_cases h : m < 0
  · rw [br_of (decide_eq_true h)]
  rw [br_not (decide_eq_false h)]
  obtain ⟨h5, h6⟩ := h3 (by omega)
  have hk := v_toK (l := l) (by omega) (by omega)
  have hs := v_spec_send (l := l) (by omega) (by omega) s
  have hi := v_impl_send (l := l) (by omega) (by omega) s
  have he := v_eqK (l := l) (by omega) (by omega)
  have hrl := sendF_length s l
  generalize sendF s l = r at hs hi hrl
  have her := v_eqK (l := r.1) (by omega) (by omega)
  have hm := v_markK (l := l) (by omega) (by omega)
  have hmr := v_markK (l := r.1) (by omega) (by omega)
  have hhr := v_heldK (l := r.1) r.1.queue.length r.1.held.length (by omega) (by omega)
  have hbb : ∀ b : Bool, (!b == b) = false := fun b => by cases b <;> rfl
  unfold oK at hk hs hi
  rw [ocall_some hk, asAgg_agg, unc_cons, asI_int, unc_cons, asI_int, unc_cons, asOs_os, unc_cons, asI_int, unc_cons, asOs_os, unn_nil, unn_nil]
  try rw [hek]
  rw [ocall_some hs, asTup_tup, unc_cons, asAgg_agg, unc_cons, asI_int, unc_cons, asI_int, unc_cons, asOs_os, unc_cons, asI_int, unc_cons, asOs_os, unn_nil, unc_cons, asB_bool, unn_nil, unn_nil]
  rw [ocall_some hk, asAgg_agg, unc_cons, asI_int, unc_cons, asI_int, unc_cons, asOs_os, unc_cons, asI_int, unc_cons, asOs_os, unn_nil, unn_nil]
  try rw [hek]
  rw [ocall_some hi, asTup_tup, unc_cons, asAgg_agg, unc_cons, asI_int, unc_cons, asI_int, unc_cons, asOs_os, unc_cons, asI_int, unc_cons, asOs_os, unn_nil, unc_cons, asB_bool, unn_nil, unn_nil]
  try rw [hek]
  rw [ocall_some her, asB_bool, unn_nil, br_not (by rfl), br_not (hbb _)]
  rw [ocall_some hk, asAgg_agg, unc_cons, asI_int, unc_cons, asI_int, unc_cons, asOs_os, unc_cons, asI_int, unc_cons, asOs_os, unn_nil, unn_nil]
  try rw [hek]
  rw [ocall_some he, asB_bool, unn_nil, br_not (by rfl)]
  try rw [hok]
  rw [ocall_some hm, asI_int, unc_cons]
  unfold oK
  rw [asAgg_agg, unc_cons, asI_int, unc_cons, asI_int, unc_cons, asOs_os, unc_cons, asI_int, unc_cons, asOs_os, unn_nil, unn_nil, br_not (decide_eq_false (by omega))]
  try rw [hek]
  rw [ocall_some her, asB_bool, unn_nil, br_not (by rfl), br_not (hbb _)]
  try rw [hok]
  rw [ocall_some hmr, asI_int, unc_cons]
  unfold oK
  rw [asAgg_agg, unc_cons, asI_int, unc_cons, asI_int, unc_cons, asOs_os, unc_cons, asI_int, unc_cons, asOs_os, unn_nil, unn_nil]
  unfold eK at hhr
  rw [ocall_some hhr, asI_int, unn_nil, br_not (decide_eq_false (by omega)), br_not (by simp)]
  try rw [hek]
  rw [ocall_some hk, asAgg_agg, unc_cons, asI_int, unc_cons, asI_int, unc_cons, asOs_os, unc_cons, asI_int, unc_cons, asOs_os, unn_nil, unn_nil]
  try rw [hek]
  rw [ocall_some hi, asTup_tup, unc_cons, asAgg_agg, unc_cons, asI_int, unc_cons, asI_int, unc_cons, asOs_os, unc_cons, asI_int, unc_cons, asOs_os, unn_nil, unc_cons, asB_bool, unn_nil, unn_nil]
  try rw [hek]
  rw [ocall_some her, asB_bool, unn_nil, br_not (by rfl), br_not (hbb _)]
  rw [ocall_some hhr, asI_int, unn_nil, br_not (decide_eq_false (by omega)), br_not (by simp)]
theorem core_FnExactLinkSend (xs : List D) (h : All2 (fun t x => ShapeV Try.prog t x) Try.f10.params.toList xs) : V 10 xs = some (.bool true, []) := by
  rw [Try.params10] at h
  cases h with | cons h1 h =>
  cases h with | cons h2 h =>
  cases h
  obtain ⟨l, rfl, hl⟩ := arg_link h1
  obtain ⟨a, rfl, _⟩ := h2.str Try.underlying9
  exact pure_LinkSend hl a
end Go.Eng
