/- what the functions on links come to, fourth part: LinkAck, LinkSend -/
import Derived.Test.YtpihopepjgefeaaPure3
namespace Go.Eng
open Go.Proofs Go.Proofs.Try

def zK : Lk := ⟨0, 0, [], 0, []⟩
theorem v_cloneS {l : List D} (hl : l.length ≤ 4294967296) : V 55 [.rs (1, 0) l] = some (.os (1, 0) l, []) := by
  rw [eslices_Clone_string_string, grd_of (decide_eq_true (by simp only [ni, LIM, List.nil_append]; omega))]
  exact nilb_clone _ _
theorem v_cloneP {l : List D} (hl : l.length ≤ 4294967296) : V 63 [.rs (2, 0) l] = some (.os (2, 0) l, []) := by
  rw [eslices_Clone_impl_Piece_impl_Piece, grd_of (decide_eq_true (by simp only [ni, LIM, List.nil_append]; omega))]
  exact nilb_clone _ _
theorem v_copyK {l : Lk} (h1 : l.queue.length ≤ 4294967296) (h2 : l.held.length ≤ 4294967296) : V 54 [eK l] = some (oK l, []) := by
  unfold eK oK
  rw [eimpl_copyLink, ocall_some (v_cloneS (by rw [List.length_map]; exact h1)), asOs_os, unn_nil, ocall_some (v_cloneP (by rw [List.length_map]; exact h2)), asOs_os, unn_nil]
theorem v_copyKs {l : Lk} (h1 : l.queue.length ≤ 4294967296) (h2 : l.held.length ≤ 4294967296) : V 56 [eK l] = some (oK l, []) := by
  unfold eK oK
  rw [espec_l10Copy, grd_of (decide_eq_true (by simp only [ni, LIM, List.nil_append, List.length_map]; omega)), nam_eq, grd_of (decide_eq_true (by simp only [ni, LIM, List.nil_append, List.length_map]; omega)), nam_eq]
  rfl

theorem okK_facts {l : Lk} (h : okK l = true) : 0 ≤ l.acked ∧ l.acked ≤ l.got ∧ l.got ≤ l.sent ∧ l.sent ≤ 100000 ∧ (l.queue.length : Int) = l.sent - l.acked ∧ (l.queue.length : Int) ≤ 30 := by
  simp only [okK, wi, Bool.and_eq_true, decide_eq_true_eq, beq_iff_eq, Bool.not_eq_true', decide_eq_false_iff_not] at h
  omega

def ackL (n : Int) (l : Lk) : Lk := ⟨l.sent, n, l.queue.drop (n - l.acked).toNat, l.got, l.held⟩
def ackF (n : Int) (l : Lk) : Lk × Bool := if okK l then if wi n (l.acked + 1) l.got then (ackL n l, true) else (l, false) else (zK, false)
theorem ackF_length (n : Int) (l : Lk) : (ackF n l).1.queue.length ≤ l.queue.length ∧ (ackF n l).1.held.length ≤ l.held.length := by
  unfold ackF
  repeat' split
  · simp [ackL]
  · exact ⟨Nat.le_refl _, Nat.le_refl _⟩
  · simp [zK]

theorem v_impl_ack {l : Lk} (h1 : l.queue.length ≤ 4294967296) (h2 : l.held.length ≤ 4294967296) (n : Int) : V 23 [eK l, .int .i64 n] = some (.tup [oK (ackF n l).1, .bool (ackF n l).2], []) := by
  have hs := v_impl_okK (l := l) (by omega) (by omega)
  have hc := v_copyK h1 h2
  have e : V 23 [eK l, .int .i64 n] = _ := eimpl_LinkAck l.sent l.acked (l.queue.map .str) l.got (l.held.map eP) n
  rw [e]
  unfold eK at hs hc
  unfold oK at hc
  rw [ocall_some hs, asB_bool, unn_nil]
  unfold ackF
  cases hok : okK l with
  | false => rfl
  | true =>
    have hf := okK_facts hok
    rw [Bool.not_true, br_false, ocall_some hc, asAgg_agg, unc_cons, asI_int, unc_cons, asI_int, unc_cons, asOs_os, unc_cons, asI_int, unc_cons, asOs_os, unn_nil, unn_nil]
    by_cases ha : n ≤ l.acked
    · rw [br_of (decide_eq_true ha), show wi n (l.acked + 1) l.got = false by simp [wi]; omega]; rfl
    · rw [br_not (decide_eq_false ha)]
      by_cases hb : n > l.got
      · rw [br_of (decide_eq_true hb), show wi n (l.acked + 1) l.got = false by simp [wi]; omega]; rfl
      · rw [br_not (decide_eq_false hb), show wi n (l.acked + 1) l.got = true by simp [wi]; omega, w64 (n := n - l.acked) (by omega) (by omega), grd_of (by simp [cutOk]; omega)]
        have hp : part (l.queue.map D.str) (cutR (l.queue.map D.str).length none (some (n - l.acked)) none) = (l.queue.drop (n - l.acked).toNat).map .str := by
          simp only [cutR, part, ← List.map_drop]
          exact List.take_of_length_le (by simp)
        rw [hp, ocall_some (v_cloneS (by simp; omega)), asOs_os, unn_nil]
        rfl

theorem v_spec_ack {l : Lk} (h1 : l.queue.length ≤ 4294967296) (h2 : l.held.length ≤ 4294967296) (n : Int) : V 24 [eK l, .int .i64 n] = some (.tup [oK (ackF n l).1, .bool (ackF n l).2], []) := by
  have hs := v_spec_okK (l := l) (by omega) (by omega)
  have hc := v_copyKs h1 h2
  have e : V 24 [eK l, .int .i64 n] = _ := espec_LinkAck l.sent l.acked (l.queue.map .str) l.got (l.held.map eP) n
  rw [e]
  unfold eK at hs hc
  unfold oK at hc
  rw [ocall_some hs, asB_bool, unn_nil]
  unfold ackF
  cases hok : okK l with
  | false => rfl
  | true =>
    have hf := okK_facts hok
    rw [Bool.not_true, br_false, ocall_some hc, asAgg_agg, unc_cons, asI_int, unc_cons, asI_int, unc_cons, asOs_os, unc_cons, asI_int, unc_cons, asOs_os, unn_nil, unn_nil, w64 (n := l.acked + 1) (by omega) (by omega), ocall_some (v_l1In _ _ _), asB_bool, unn_nil]
    cases hw : wi n (l.acked + 1) l.got with
    | false => rfl
    | true =>
      simp only [wi, Bool.and_eq_true, decide_eq_true_eq] at hw
      rw [Bool.not_true, br_false, w64 (n := n - l.acked) (by omega) (by omega), grd_of (by simp [cutOk]; omega), grd_of (decide_eq_true (by simp only [ni, LIM, cutL, List.nil_append, List.length_drop, List.length_map]; omega)), nam_eq]
      simp only [cutL, List.nil_append, ← List.map_drop]
      rfl
end Go.Eng
