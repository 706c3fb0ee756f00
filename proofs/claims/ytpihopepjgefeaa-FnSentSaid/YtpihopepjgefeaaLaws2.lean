/- the laws on drawn links: FnShown, FnAcked, FnSent -/
import Derived.Test.YtpihopepjgefeaaDraw
namespace Go.Eng
open Go.Proofs Go.Proofs.Try

theorem same_loop {l : List ByteArray} (hl : l.length < 4611686018427387904) : ∀ (k i : Nat), i + k = l.length → Llaws_sameTexts_4 (l.map .str) (l.map .str) (i : Int) = some (.bool true, [])
  | 0, i, hi => by rw [Llaws_sameTexts_4_eq, br_not (by rw [List.length_map]; exact ge_idx (by omega))]
  | k + 1, i, hi => by
    obtain ⟨x, hx⟩ := get_of_lt (l := l) (i := i) (by omega)
    rw [Llaws_sameTexts_4_eq, br_of (by rw [List.length_map]; exact lt_idx (by omega)), grd_of (by rw [List.length_map]; exact in_idx (by omega)), Int.toNat_natCast, oget_map hx, asS_str, grd_of (by rw [List.length_map]; exact in_idx (by omega)), oget_map hx, asS_str, br_not (by rw [strEq_refl]; rfl), w64s (by omega)]
    exact same_loop hl k (i + 1) (by omega)
theorem v_same {l : List ByteArray} (hl : l.length < 4611686018427387904) : V 25 [.rs (1, 0) (l.map .str), .rs (1, 0) (l.map .str)] = some (.bool true, []) := by
  rw [elaws_sameTexts, br_not (by simp)]
  exact same_loop hl l.length 0 (by omega)

theorem heldFrom_congr (l l' : Lk) (h1 : l.got = l'.got) (h2 : l.sent = l'.sent) (h3 : l.held = l'.held) : ∀ k i, heldFrom l i k = heldFrom l' i k
  | 0, i => rfl
  | k + 1, i => by simp only [heldFrom, h1, h2, h3, heldFrom_congr l l' h1 h2 h3 k (i + 1)]

theorem draw_show {b : List Int} (hb : b.length < 4611686018427387904) : ∃ l, V 19 [.rs (1, 0) (b.map eB)] = some (oK l, []) ∧ l.queue.length ≤ 31 ∧ l.held.length ≤ 23 := by
  obtain ⟨c, h1, a1⟩ := cur_new hb
  obtain ⟨l, c2, h2, a2, q1, q2⟩ := draw_link hb a1
  unfold oK at h2
  rw [espec_DrawLinkShow, oc_s_l1New h1, oc_s_l10Draw h2]
  exact ⟨l, rfl, q1, q2⟩
theorem draw_ack {b : List Int} (hb : b.length < 4611686018427387904) : ∃ l n, V 22 [.rs (1, 0) (b.map eB)] = some (.tup [oK l, .int .i64 n], []) ∧ l.queue.length ≤ 31 ∧ l.held.length ≤ 23 := by
  obtain ⟨c, h1, a1⟩ := cur_new hb
  obtain ⟨l, c2, h2, a2, q1, q2⟩ := draw_link hb a1
  obtain ⟨m, c3, h3, a3, -⟩ := cur_below hb a2 5
  unfold oK at h2
  rw [espec_DrawLinkAck, oc_s_l1New h1, oc_s_l10Draw h2, oc_s_l1Below h3]
  exact ⟨l, _, rfl, q1, q2⟩
theorem draw_send {b : List Int} (hb : b.length < 4611686018427387904) : ∃ l s, V 26 [.rs (1, 0) (b.map eB)] = some (.tup [oK l, .str s], []) ∧ l.queue.length ≤ 31 ∧ l.held.length ≤ 23 := by
  obtain ⟨c, h1, a1⟩ := cur_new hb
  obtain ⟨l, c2, h2, a2, q1, q2⟩ := draw_link hb a1
  obtain ⟨m, c3, h3, a3, -⟩ := cur_pick hb a2 (l := [⟨#[]⟩, ⟨#[97]⟩, ⟨#[98, 98]⟩]) (by simp)
  simp only [List.map_cons, List.map_nil] at h3
  unfold oK at h2
  rw [espec_DrawLinkSend, oc_s_l1New h1, oc_s_l10Draw h2, oc_s_l1Pick h3]
  exact ⟨l, _, rfl, q1, q2⟩

/-! ## FnShown -/
theorem showFrom_get (l : Lk) : ∀ (k i j : Nat), i + k ≤ l.queue.length → j < k → ∃ s, l.queue[i + j]? = some s ∧ (showFrom l i k)[j]? = some ⟨IntKind.wrap .i64 (l.acked + ((i + j : Nat) : Int)), s⟩
  | 0, i, j, _, h => by omega
  | k + 1, i, j, h1, h2 => by
    obtain ⟨s, hs⟩ := get_of_lt (l := l.queue) (i := i) (by omega)
    cases j with
    | zero => exact ⟨s, hs, by simp [showFrom, hs]⟩
    | succ j =>
      obtain ⟨s', h3, h4⟩ := showFrom_get l k (i + 1) j (by omega) (by omega)
      rw [show i + 1 + j = i + (j + 1) by omega] at h3 h4
      exact ⟨s', h3, by simp only [showFrom, hs]; simpa using h4⟩
theorem showFrom_full (l : Lk) : ∀ (k i : Nat), i + k ≤ l.queue.length → (showFrom l i k).length = k
  | 0, i, _ => rfl
  | k + 1, i, h => by
    obtain ⟨s, hs⟩ := get_of_lt (l := l.queue) (i := i) (by omega)
    simp only [showFrom, hs]
    simp [showFrom_full l k (i + 1) (by omega)]
theorem shown_loop {l : Lk} (hq : l.queue.length ≤ 31) (hh : l.held.length ≤ 23) (h0 : okK l = true) {m : Nat} (hm : m = min 4 l.queue.length) : ∀ (k i : Nat), i + k = m →
    Llaws_FnShown_8 i l.sent l.acked l.got ((showFrom l 0 m).map eP) (l.queue.map .str) (l.held.map eP) = some (.bool true, [])
  | 0, i, hi => by
    have hs := v_spec_okK (l := l) (by omega) (by omega)
    have hlen := showFrom_full l m 0 (by omega)
    unfold eK at hs
    rw [Llaws_FnShown_8_eq, br_not (by rw [List.length_map, hlen]; exact ge_idx (by omega)), oc_s_LinkOk hs, h0, br_not (by rfl)]
    by_cases h4 : m = 4
    · rw [br_of (by rw [List.length_map, hlen, h4]; rfl)]
    · rw [br_not (by rw [List.length_map, hlen]; simp [ni]; omega)]
      have : (ni (List.map eP (showFrom l 0 m)).length == ni (List.map D.str l.queue).length) = true := by
        rw [List.length_map, List.length_map, hlen]; simp [ni]; omega
      rw [this]
  | k + 1, i, hi => by
    have hlen := showFrom_full l m 0 (by omega)
    obtain ⟨s, h1, h2⟩ := showFrom_get l m 0 i (by omega) (by omega)
    rw [Nat.zero_add] at h1 h2
    rw [Llaws_FnShown_8_eq, br_of (by rw [List.length_map, hlen]; exact lt_idx (by omega)), grd_of (by rw [List.length_map, hlen]; exact in_idx (by omega)), Int.toNat_natCast, oget_map h2, eP_mk, asAgg_agg, oget_lit0, asI_int, br_not (by simp), grd_of (by rw [List.length_map, hlen]; exact in_idx (by omega)), oget_map h2, eP_mk, asAgg_agg, oget_lit1, asS_str, grd_of (by rw [List.length_map]; exact in_idx (by omega)), oget_map h1, asS_str, br_not (by rw [strEq_refl]; rfl), w64s (by omega)]
    exact shown_loop hq hh h0 hm k (i + 1) (by omega)
theorem law_FnShown {b : List Int} (hb : b.length < 4611686018427387904) : V 4 [.rs (1, 0) (b.map eB)] = some (.bool true, []) := by
  rw [elaws_FnShown, oc_w_big (v_big b)]
  by_cases hbig : (b.length : Int) > 1048576
  · rw [br_of (decide_eq_true hbig)]
  rw [br_not (decide_eq_false hbig)]
  obtain ⟨l, h1, q1, q2⟩ := draw_show hb
  have hi := v_impl_show (l := l) (by omega) (by omega)
  have hs := v_spec_show (l := l) (by omega) (by omega)
  have hk := v_spec_okK (l := l) (by omega) (by omega)
  have hlen := showK_length l
  unfold oK at h1
  unfold eK at hi hs hk
  rw [oc_s_DrawLinkShow h1, oc_i_LinkShow hi, oc_s_LinkShow hs, br_not (by simp), br_not (decide_eq_false (by simp only [ni, List.length_map]; omega))]
  cases hok : okK l with
  | true =>
    simp only [showK, hok, if_true]
    exact shown_loop q1 q2 hok rfl _ 0 (Nat.zero_add _)
  | false =>
    simp only [showK, hok]
    rw [Llaws_FnShown_8_eq, br_not (by rfl), oc_s_LinkOk hk, hok, br_of (by rfl)]

/-! ## FnAcked -/
theorem okK_ack {l : Lk} {n : Int} (h : okK l = true) (h2 : wi n (l.acked + 1) l.got = true) : okK (ackL n l) = true := by
  have hf := okK_facts h
  simp only [wi, Bool.and_eq_true, decide_eq_true_eq] at h2
  have hl : ((l.queue.drop (n - l.acked).toNat).length : Int) = l.sent - n := by rw [List.length_drop]; omega
  simp only [okK, wi, Bool.and_eq_true, decide_eq_true_eq, beq_iff_eq, Bool.not_eq_true', decide_eq_false_iff_not] at h ⊢
  refine ⟨h.1, h.2.1, ⟨by simp only [ackL]; omega, by simp only [ackL]; omega⟩, by simp only [ackL]; omega, by simp only [ackL]; omega, ?_⟩
  rw [← h.2.2.2.2.2]
  exact heldFrom_congr (ackL n l) l rfl rfl rfl _ _
theorem law_FnAcked {b : List Int} (hb : b.length < 4611686018427387904) : V 5 [.rs (1, 0) (b.map eB)] = some (.bool true, []) := by
  rw [elaws_FnAcked, oc_w_big (v_big b)]
  by_cases hbig : (b.length : Int) > 1048576
  · rw [br_of (decide_eq_true hbig)]
  rw [br_not (decide_eq_false hbig)]
  obtain ⟨l, n, h1, q1, q2⟩ := draw_ack hb
  have hi := v_impl_okK (l := l) (by omega) (by omega)
  have hs := v_spec_okK (l := l) (by omega) (by omega)
  have hai := v_impl_ack (l := l) (by omega) (by omega) n
  have has := v_spec_ack (l := l) (by omega) (by omega) n
  have hbb : ∀ b : Bool, (!b == b) = false := fun b => by cases b <;> rfl
  unfold oK at h1 hai has
  unfold eK at hi hs hai has
  rw [oc_s_DrawLinkAck h1, oc_i_LinkOk hi, oc_s_LinkOk hs, br_not (hbb _), oc_s_DrawLinkAck h1, oc_i_LinkAck hai, oc_s_LinkAck has, br_not (hbb _)]
  unfold ackF
  cases hok : okK l with
  | false =>
    rw [if_neg (by simp), br_of (by rfl)]
    unfold br
    split <;> rfl
  | true =>
    rw [if_pos rfl]
    have hf := okK_facts hok
    cases hw : wi n (l.acked + 1) l.got with
    | false =>
      rw [if_neg (by simp), br_of (by rfl), br_of (by simp)]
    | true =>
      have h3 := v_impl_okK (l := ackL n l) (by simp [ackL]; omega) (by simp [ackL]; omega)
      rw [okK_ack hok hw] at h3
      unfold eK at h3
      simp only [wi, Bool.and_eq_true, decide_eq_true_eq] at hw
      have hd := v_same (l := l.queue.drop (n - l.acked).toNat) (by rw [List.length_drop]; omega)
      rw [if_pos rfl, br_not (by rfl)]
      simp only [ackL] at h3 ⊢
      rw [br_of (by simp), br_of (decide_eq_true hw.2), w64 (n := l.sent - n) (by omega) (by omega), br_of (by rw [List.length_map, List.length_drop]; simp only [ni, beq_iff_eq]; omega), w64 (n := n - l.acked) (by omega) (by omega)]
      rw [grd_of (by simp only [cutOk, List.length_map, Bool.and_eq_true, decide_eq_true_eq]; omega)]
      have hp : part (l.queue.map D.str) (cutR (l.queue.map D.str).length none (some (n - l.acked)) none) = (l.queue.drop (n - l.acked).toNat).map D.str := by
        simp only [cutR, part]
        rw [← List.map_drop, List.take_of_length_le (by simp)]
      rw [hp, oc_w_sameTexts hd, br_true, oc_i_LinkOk h3]

/-! ## FnSent -/
theorem law_FnSent {b : List Int} (hb : b.length < 4611686018427387904) : V 6 [.rs (1, 0) (b.map eB)] = some (.bool true, []) := by
  rw [elaws_FnSent, oc_w_big (v_big b)]
  by_cases hbig : (b.length : Int) > 1048576
  · rw [br_of (decide_eq_true hbig)]
  rw [br_not (decide_eq_false hbig)]
  obtain ⟨l, s, h1, q1, q2⟩ := draw_send hb
  have hi := v_impl_okK (l := l) (by omega) (by omega)
  have hs := v_spec_okK (l := l) (by omega) (by omega)
  have hai := v_impl_send (l := l) (by omega) (by omega) s
  have has := v_spec_send (l := l) (by omega) (by omega) s
  have hbb : ∀ b : Bool, (!b == b) = false := fun b => by cases b <;> rfl
  unfold oK at h1 hai has
  unfold eK at hi hs hai has
  rw [oc_s_DrawLinkSend h1, oc_i_LinkSend hai, oc_s_LinkSend has, br_not (hbb _), oc_i_LinkOk hi, oc_s_LinkOk hs, br_not (hbb _)]
  unfold sendF
  cases hok : okK l with
  | false =>
    rw [if_neg (by simp), br_of (by rfl)]
    unfold br
    split <;> rfl
  | true =>
    rw [if_pos rfl]
    have hf := okK_facts hok
    cases hw : okK (sendL s l) with
    | false => rw [if_neg (by simp), br_of (by rfl), br_of (by simp)]
    | true =>
      have h3 := v_impl_okK (l := sendL s l) (by simp [sendL]; omega) (by simp [sendL]; omega)
      rw [hw] at h3
      unfold eK at h3
      have hd := v_same (l := l.queue) (by omega)
      rw [if_pos rfl, br_not (by rfl)]
      simp only [sendL] at h3 ⊢
      have hx : (l.queue ++ [s])[l.queue.length]? = some s := by simp
      have hp : part ((l.queue ++ [s]).map D.str) (cutR ((l.queue ++ [s]).map D.str).length none none (some (ni (l.queue.map D.str).length))) = l.queue.map D.str := by
        simp [cutR, part, ni]
      have hc : cutOk ((l.queue ++ [s]).map D.str).length none (some (ni (l.queue.map D.str).length)) = true := by
        simp only [cutOk, ni, List.length_map, List.length_append, List.length_cons, List.length_nil, Bool.and_eq_true, decide_eq_true_eq]; omega
      rw [br_of (by simp), w64 (n := ni (l.queue.map D.str).length + 1) (by simp only [ni]; omega) (by simp only [ni, List.length_map]; omega), br_of (by simp [ni])]
      rw [grd_of (by simp [ni]; omega), List.length_map, Int.toNat_natCast, oget_map hx, asS_str, br_of (strEq_refl s)]
      rw [List.length_map] at hp hc
      rw [List.length_map] at hp hc
      rw [List.length_map, grd_of hc, hp, oc_w_sameTexts hd, br_true, br_of (by simp), oc_i_LinkOk h3]
theorem core_FnShown (xs : List D) (h : All2 (fun t x => ShapeV Try.prog t x) Try.f4.params.toList xs) : V 4 xs = some (.bool true, []) := by
  rw [Try.params4] at h
  cases h with | cons h1 h =>
  cases h
  obtain ⟨b, rfl, hb⟩ := arg_code h1
  exact law_FnShown hb
theorem core_FnAcked (xs : List D) (h : All2 (fun t x => ShapeV Try.prog t x) Try.f5.params.toList xs) : V 5 xs = some (.bool true, []) := by
  rw [Try.params5] at h
  cases h with | cons h1 h =>
  cases h
  obtain ⟨b, rfl, hb⟩ := arg_code h1
  exact law_FnAcked hb
theorem core_FnSent (xs : List D) (h : All2 (fun t x => ShapeV Try.prog t x) Try.f6.params.toList xs) : V 6 xs = some (.bool true, []) := by
  rw [Try.params6] at h
  cases h with | cons h1 h =>
  cases h
  obtain ⟨b, rfl, hb⟩ := arg_code h1
  exact law_FnSent hb
end Go.Eng
