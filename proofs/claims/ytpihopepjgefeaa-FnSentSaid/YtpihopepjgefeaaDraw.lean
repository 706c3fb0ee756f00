/- what is drawn: links -/
import Derived.Test.YtpihopepjgefeaaTake
import Derived.Test.YtpihopepjgefeaaCur
import Derived.Test.YtpihopepjgefeaaCalls
namespace Go.Eng
open Go.Proofs Go.Proofs.Try

theorem sendF_bound (s : ByteArray) (l : Lk) : (sendF s l).1.queue.length ≤ l.queue.length + 1 ∧ (sendF s l).1.held.length ≤ l.held.length ∧ ((sendF s l).1.got = l.got ∨ (sendF s l).1.got = 0) := by
  unfold sendF
  split
  · split <;> simp [sendL]
  · simp [zK]
theorem ackF_bound (n : Int) (l : Lk) : (ackF n l).1.queue.length ≤ l.queue.length ∧ (ackF n l).1.held.length ≤ l.held.length ∧ ((ackF n l).1.got = l.got ∨ (ackF n l).1.got = 0) := by
  unfold ackF
  split
  · split <;> simp [ackL]
  · simp [zK]
theorem takeF_bound (l : Lk) (p : Pc) (h0 : 0 ≤ l.got) : (takeF l p).1.queue.length ≤ l.queue.length ∧ (takeF l p).1.held.length ≤ l.held.length + 1 ∧ 0 ≤ (takeF l p).1.got ∧ (takeF l p).1.got ≤ l.got + 1 + l.held.length := by
  have h1 := holdF_length p l.held
  have h2 := popF_facts l.held (l.got + 1)
  unfold takeF
  split
  · split
    · split
      · simp; omega
      · simp [upL]; omega
    · simp; omega
  · simp [zK]; omega

theorem draw_v1 {b : List Int} (hb : b.length < 4611686018427387904) (n : Nat) (hn : n ≤ 22) : ∀ (k i : Nat) (l : Lk) (ss : List ByteArray) (c : Int × Int), i + k = n → CurOk b c → ss.length ≤ i → l.queue.length ≤ i → l.held.length ≤ i → 0 ≤ l.got → l.got ≤ 100 * i →
    ∃ l' c', Lspec_l10DrawRight_5v1 n i (b.map eB) c.1 c.2 0 0 0 l.sent l.acked l.got (ss.map .str) (l.queue.map .str) (l.held.map eP) = some (oK l', [eC b c']) ∧ CurOk b c' ∧ l'.queue.length ≤ 22 ∧ l'.held.length ≤ 22 ∧ 0 ≤ l'.got ∧ l'.got ≤ 2200
  | 0, i, l, ss, c, hi, hc, hs, hq, hh, hg, hg2 => by
    rw [Lspec_l10DrawRight_5v1_eq, br_not (decide_eq_false (by omega))]
    exact ⟨l, c, rfl, hc, by omega, by omega, by omega, by omega⟩
  | k + 1, i, l, ss, c, hi, hc, hs, hq, hh, hg, hg2 => by
    obtain ⟨r, c1, h1, a1, -, -⟩ := cur_below hb hc 4
    rw [Lspec_l10DrawRight_5v1_eq, br_of (decide_eq_true (by omega)), oc_s_l1Below h1]
    by_cases r0 : r = 0
    · rw [br_of (by simp [r0]), br_of (by simp [r0])]
      obtain ⟨s, c2, h2, a2, -⟩ := cur_pick hb a1 (l := [⟨#[97]⟩, ⟨#[98]⟩, ⟨#[]⟩, ⟨#[99, 99]⟩]) (by simp)
      simp only [List.map_cons, List.map_nil] at h2
      have h3 := v_spec_send (l := l) (by (try simp only [List.length_nil]); omega) (by (try simp only [List.length_nil]); omega) s
      have h4 := sendF_bound s l
      unfold eK at h3
      unfold oK at h3
      try simp only [List.map_nil] at h3
      rw [oc_s_l1Pick h2, oc_s_LinkSend h3]
      have hlim : decide (ni (ss.map D.str ++ [D.str s]).length ≤ LIM) = true := decide_eq_true (by simp only [ni, LIM, List.length_append, List.length_map, List.length_cons, List.length_nil]; omega)
      have hmap : ss.map D.str ++ [D.str s] = (ss ++ [s]).map D.str := by simp
      try simp only [List.length_nil] at h4
      cases hok : (sendF s l).2 with
      | true =>
        rw [br_true, grd_of hlim, nam_eq, hmap, w64s (by omega)]
        exact draw_v1 hb n hn k (i + 1) (sendF s l).1 (ss ++ [s]) c2 (by omega) a2 (by simp; omega) (by omega) (by omega) (by omega) (by omega)
      | false =>
        rw [br_false, w64s (by omega)]
        exact draw_v1 hb n hn k (i + 1) l ss c2 (by omega) a2 (by omega) (by omega) (by omega) (by omega) (by omega)
    by_cases r1 : r = 1
    · rw [br_not (by simp [r0]), br_of (by simp [r1])]
      obtain ⟨s, c2, h2, a2, -⟩ := cur_pick hb a1 (l := [⟨#[97]⟩, ⟨#[98]⟩, ⟨#[]⟩, ⟨#[99, 99]⟩]) (by simp)
      simp only [List.map_cons, List.map_nil] at h2
      have h3 := v_spec_send (l := l) (by (try simp only [List.length_nil]); omega) (by (try simp only [List.length_nil]); omega) s
      have h4 := sendF_bound s l
      unfold eK at h3
      unfold oK at h3
      try simp only [List.map_nil] at h3
      rw [oc_s_l1Pick h2, oc_s_LinkSend h3]
      have hlim : decide (ni (ss.map D.str ++ [D.str s]).length ≤ LIM) = true := decide_eq_true (by simp only [ni, LIM, List.length_append, List.length_map, List.length_cons, List.length_nil]; omega)
      have hmap : ss.map D.str ++ [D.str s] = (ss ++ [s]).map D.str := by simp
      try simp only [List.length_nil] at h4
      cases hok : (sendF s l).2 with
      | true =>
        rw [br_true, grd_of hlim, nam_eq, hmap, w64s (by omega)]
        exact draw_v1 hb n hn k (i + 1) (sendF s l).1 (ss ++ [s]) c2 (by omega) a2 (by simp; omega) (by omega) (by omega) (by omega) (by omega)
      | false =>
        rw [br_false, w64s (by omega)]
        exact draw_v1 hb n hn k (i + 1) l ss c2 (by omega) a2 (by omega) (by omega) (by omega) (by omega) (by omega)
    by_cases r2 : r = 2
    · rw [br_not (by simp [r0]), br_not (by simp [r1]), br_of (by simp [r2])]
      obtain ⟨m, c2, h2, a2, m1, m2⟩ := cur_below hb a1 4
      rw [oc_s_l1Below h2, w64 (by omega) (by omega)]
      by_cases hm : l.got + m < ss.length
      · obtain ⟨j, hj⟩ := Int.eq_ofNat_of_zero_le (show 0 ≤ l.got + m by (try simp only [List.length_nil]); omega)
        obtain ⟨x, hx⟩ := get_of_lt (l := ss) (i := j) (by (try simp only [List.length_nil] at hj hm); omega)
        have h3 := v_spec_take (l := l) (by (try simp only [List.length_nil]); omega) (by (try simp only [List.length_nil]); omega) ⟨l.got + m, x⟩
        have h4 := takeF_bound l ⟨l.got + m, x⟩ (by (try simp only [List.length_nil]); omega)
        unfold eK at h3
        unfold oK at h3
        try simp only [] at h3
        try simp only [List.length_nil] at hj hm h3 h4
        rw [br_of (by simp only [ni, List.length_map, decide_eq_true_eq]; omega), hj, grd_of (by rw [List.length_map]; exact in_idx (by omega)), Int.toNat_natCast, oget_map hx, asS_str, ← hj, oc_s_LinkTake h3, w64s (by omega)]
        exact draw_v1 hb n hn k (i + 1) (takeF l ⟨l.got + m, x⟩).1 ss c2 (by omega) a2 (by (try simp only [List.length_nil]); omega) (by (try simp only [List.length_nil]); omega) (by (try simp only [List.length_nil]); omega) (by (try simp only [List.length_nil]); omega) (by (try simp only [List.length_nil]); omega)
      · try simp only [List.length_nil] at hm
        rw [br_not (by simp only [ni, List.length_map, decide_eq_false_iff_not]; omega), w64s (by omega)]
        exact draw_v1 hb n hn k (i + 1) l ss c2 (by omega) a2 (by omega) (by omega) (by omega) (by omega) (by omega)
    · rw [br_not (by simp [r0]), br_not (by simp [r1]), br_not (by simp [r2])]
      obtain ⟨m, c2, h2, a2, m1, m2⟩ := cur_below hb a1 2
      rw [oc_s_l1Below h2]
      have h3 := v_spec_ack (l := l) (by (try simp only [List.length_nil]); omega) (by (try simp only [List.length_nil]); omega) (IntKind.wrap .i64 (l.got - m))
      have h4 := ackF_bound (IntKind.wrap .i64 (l.got - m)) l
      unfold eK at h3
      unfold oK at h3
      try simp only [List.map_nil] at h3
      try simp only [List.length_nil] at h3 h4
      rw [oc_s_LinkAck h3, w64s (by omega)]
      exact draw_v1 hb n hn k (i + 1) (ackF (IntKind.wrap .i64 (l.got - m)) l).1 ss c2 (by omega) a2 (by omega) (by (try simp only [List.length_nil]); omega) (by (try simp only [List.length_nil]); omega) (by (try simp only [List.length_nil]); omega) (by (try simp only [List.length_nil]); omega)
theorem draw_v0 {b : List Int} (hb : b.length < 4611686018427387904) (n : Nat) (hn : n ≤ 22) : ∀ (k i : Nat) (ss : List ByteArray) (c : Int × Int), i + k = n → CurOk b c → ss.length ≤ i →
    ∃ l' c', Lspec_l10DrawRight_5 n i (b.map eB) c.1 c.2 0 0 0 0 0 0 (ss.map .str) = some (oK l', [eC b c']) ∧ CurOk b c' ∧ l'.queue.length ≤ 22 ∧ l'.held.length ≤ 22 ∧ 0 ≤ l'.got ∧ l'.got ≤ 2200
  | 0, i, ss, c, hi, hc, hs => by
    rw [Lspec_l10DrawRight_5_eq, br_not (decide_eq_false (by omega))]
    exact ⟨zK, c, rfl, hc, by simp [zK], by simp [zK], by simp [zK], by simp [zK]⟩
  | k + 1, i, ss, c, hi, hc, hs => by
    have hzk : zK.queue.length = 0 ∧ zK.held.length = 0 ∧ zK.got = 0 := ⟨rfl, rfl, rfl⟩
    obtain ⟨r, c1, h1, a1, -, -⟩ := cur_below hb hc 4
    rw [Lspec_l10DrawRight_5_eq, br_of (decide_eq_true (by omega)), oc_s_l1Below h1]
    by_cases r0 : r = 0
    · rw [br_of (by simp [r0]), br_of (by simp [r0])]
      obtain ⟨s, c2, h2, a2, -⟩ := cur_pick hb a1 (l := [⟨#[97]⟩, ⟨#[98]⟩, ⟨#[]⟩, ⟨#[99, 99]⟩]) (by simp)
      simp only [List.map_cons, List.map_nil] at h2
      have h3 := v_spec_send (l := (⟨0, 0, [], 0, []⟩ : Lk)) (by (try simp only [List.length_nil]); omega) (by (try simp only [List.length_nil]); omega) s
      have h4 := sendF_bound s (⟨0, 0, [], 0, []⟩ : Lk)
      unfold eK at h3
      unfold oK at h3
      try simp only [List.map_nil] at h3
      rw [oc_s_l1Pick h2, oc_s_LinkSend h3]
      have hlim : decide (ni (ss.map D.str ++ [D.str s]).length ≤ LIM) = true := decide_eq_true (by simp only [ni, LIM, List.length_append, List.length_map, List.length_cons, List.length_nil]; omega)
      have hmap : ss.map D.str ++ [D.str s] = (ss ++ [s]).map D.str := by simp
      try simp only [List.length_nil] at h4
      cases hok : (sendF s (⟨0, 0, [], 0, []⟩ : Lk)).2 with
      | true =>
        rw [br_true, grd_of hlim, nam_eq, hmap, w64s (by omega)]
        exact draw_v1 hb n hn k (i + 1) (sendF s (⟨0, 0, [], 0, []⟩ : Lk)).1 (ss ++ [s]) c2 (by omega) a2 (by simp; omega) (by omega) (by omega) (by omega) (by omega)
      | false =>
        rw [br_false, w64s (by omega)]
        exact draw_v0 hb n hn k (i + 1) ss c2 (by omega) a2 (by omega)
    by_cases r1 : r = 1
    · rw [br_not (by simp [r0]), br_of (by simp [r1])]
      obtain ⟨s, c2, h2, a2, -⟩ := cur_pick hb a1 (l := [⟨#[97]⟩, ⟨#[98]⟩, ⟨#[]⟩, ⟨#[99, 99]⟩]) (by simp)
      simp only [List.map_cons, List.map_nil] at h2
      have h3 := v_spec_send (l := (⟨0, 0, [], 0, []⟩ : Lk)) (by (try simp only [List.length_nil]); omega) (by (try simp only [List.length_nil]); omega) s
      have h4 := sendF_bound s (⟨0, 0, [], 0, []⟩ : Lk)
      unfold eK at h3
      unfold oK at h3
      try simp only [List.map_nil] at h3
      rw [oc_s_l1Pick h2, oc_s_LinkSend h3]
      have hlim : decide (ni (ss.map D.str ++ [D.str s]).length ≤ LIM) = true := decide_eq_true (by simp only [ni, LIM, List.length_append, List.length_map, List.length_cons, List.length_nil]; omega)
      have hmap : ss.map D.str ++ [D.str s] = (ss ++ [s]).map D.str := by simp
      try simp only [List.length_nil] at h4
      cases hok : (sendF s (⟨0, 0, [], 0, []⟩ : Lk)).2 with
      | true =>
        rw [br_true, grd_of hlim, nam_eq, hmap, w64s (by omega)]
        exact draw_v1 hb n hn k (i + 1) (sendF s (⟨0, 0, [], 0, []⟩ : Lk)).1 (ss ++ [s]) c2 (by omega) a2 (by simp; omega) (by omega) (by omega) (by omega) (by omega)
      | false =>
        rw [br_false, w64s (by omega)]
        exact draw_v0 hb n hn k (i + 1) ss c2 (by omega) a2 (by omega)
    by_cases r2 : r = 2
    · rw [br_not (by simp [r0]), br_not (by simp [r1]), br_of (by simp [r2])]
      obtain ⟨m, c2, h2, a2, m1, m2⟩ := cur_below hb a1 4
      rw [oc_s_l1Below h2, w64 (by omega) (by omega)]
      by_cases hm : (⟨0, 0, [], 0, []⟩ : Lk).got + m < ss.length
      · obtain ⟨j, hj⟩ := Int.eq_ofNat_of_zero_le (show 0 ≤ (⟨0, 0, [], 0, []⟩ : Lk).got + m by (try simp only []); omega)
        obtain ⟨x, hx⟩ := get_of_lt (l := ss) (i := j) (by (try simp only [] at hj hm); omega)
        have h3 := v_spec_take (l := (⟨0, 0, [], 0, []⟩ : Lk)) (by (try simp only [List.length_nil]); omega) (by (try simp only [List.length_nil]); omega) ⟨(⟨0, 0, [], 0, []⟩ : Lk).got + m, x⟩
        have h4 := takeF_bound (⟨0, 0, [], 0, []⟩ : Lk) ⟨(⟨0, 0, [], 0, []⟩ : Lk).got + m, x⟩ (by (try simp only []); omega)
        unfold eK at h3
        unfold oK at h3
        try simp only [List.map_nil] at h3
        try simp only [List.length_nil] at hj hm h3 h4
        rw [br_of (by simp only [ni, List.length_map, decide_eq_true_eq]; omega), hj, grd_of (by rw [List.length_map]; exact in_idx (by omega)), Int.toNat_natCast, oget_map hx, asS_str, ← hj, oc_s_LinkTake h3, w64s (by omega)]
        exact draw_v1 hb n hn k (i + 1) (takeF (⟨0, 0, [], 0, []⟩ : Lk) ⟨(⟨0, 0, [], 0, []⟩ : Lk).got + m, x⟩).1 ss c2 (by omega) a2 (by (try simp only [List.length_nil]); omega) (by (try simp only []); omega) (by (try simp only []); omega) (by (try simp only []); omega) (by (try simp only []); omega)
      · try simp only [] at hm
        rw [br_not (by simp only [ni, List.length_map, decide_eq_false_iff_not]; omega), w64s (by omega)]
        exact draw_v0 hb n hn k (i + 1) ss c2 (by omega) a2 (by omega)
    · rw [br_not (by simp [r0]), br_not (by simp [r1]), br_not (by simp [r2])]
      obtain ⟨m, c2, h2, a2, m1, m2⟩ := cur_below hb a1 2
      rw [oc_s_l1Below h2]
      have h3 := v_spec_ack (l := (⟨0, 0, [], 0, []⟩ : Lk)) (by (try simp only [List.length_nil]); omega) (by (try simp only [List.length_nil]); omega) (IntKind.wrap .i64 ((⟨0, 0, [], 0, []⟩ : Lk).got - m))
      have h4 := ackF_bound (IntKind.wrap .i64 ((⟨0, 0, [], 0, []⟩ : Lk).got - m)) (⟨0, 0, [], 0, []⟩ : Lk)
      unfold eK at h3
      unfold oK at h3
      try simp only [List.map_nil] at h3
      try simp only [List.length_nil] at h3 h4
      rw [oc_s_LinkAck h3, w64s (by omega)]
      exact draw_v1 hb n hn k (i + 1) (ackF (IntKind.wrap .i64 ((⟨0, 0, [], 0, []⟩ : Lk).got - m)) (⟨0, 0, [], 0, []⟩ : Lk)).1 ss c2 (by omega) a2 (by omega) (by (try simp only []); omega) (by (try simp only []); omega) (by (try simp only []); omega) (by (try simp only []); omega)
theorem draw_right {b : List Int} {c : Int × Int} (hb : b.length < 4611686018427387904) (h : CurOk b c) : ∃ l c', V 65 [eC b c] = some (oK l, [eC b c']) ∧ CurOk b c' ∧ l.queue.length ≤ 22 ∧ l.held.length ≤ 22 ∧ 0 ≤ l.got ∧ l.got ≤ 2200 := by
  obtain ⟨n, c1, h1, a1, n1, n2⟩ := cur_below hb h 22
  rw [espec_l10DrawRight, oc_s_l1Below h1]
  obtain ⟨k, rfl⟩ := Int.eq_ofNat_of_zero_le n1
  exact draw_v0 hb k (by have := n2 (by omega); omega) k 0 [] c1 (by omega) a1 (by simp)

/-- a link is drawn; its rows are short -/
theorem draw_link {b : List Int} {c : Int × Int} (hb : b.length < 4611686018427387904) (h : CurOk b c) : ∃ l c', V 51 [eC b c] = some (oK l, [eC b c']) ∧ CurOk b c' ∧ l.queue.length ≤ 31 ∧ l.held.length ≤ 23 := by
  obtain ⟨l, c1, h1, a1, q1, q2, q3, q4⟩ := draw_right hb h
  obtain ⟨n, c2, h2, a2, n1, n2⟩ := cur_below hb a1 20
  unfold oK at h1
  rw [espec_l10Draw, oc_s_l10DrawRight h1, oc_s_l1Below h2]
  by_cases e0 : n = 0
  · obtain ⟨m, c3, h3, a3, -⟩ := cur_pickInt hb a2 (l := [-1, IntKind.wrap .i64 (l.sent + 1), 100001]) (by simp)
    simp only [List.map_cons, List.map_nil] at h3
    rw [br_of (by simp [e0]), oc_s_l1PickInt h3]
    exact ⟨⟨m, l.acked, l.queue, l.got, l.held⟩, c3, rfl, a3, by (try simp only []); omega, by (try simp only []); omega⟩
  rw [br_not (by simp [e0])]
  by_cases e1 : n = 1
  · obtain ⟨m, c3, h3, a3, -⟩ := cur_below hb a2 9
    rw [br_of (by simp [e1]), oc_s_l1Below h3]
    exact ⟨⟨l.sent, l.acked, l.queue, IntKind.wrap .i64 (m - 1), l.held⟩, c3, rfl, a3, by (try simp only []); omega, by (try simp only []); omega⟩
  rw [br_not (by simp [e1])]
  by_cases e2 : n = 2
  · obtain ⟨m, c3, h3, a3, -⟩ := cur_below hb a2 9
    rw [br_of (by simp [e2]), oc_s_l1Below h3]
    exact ⟨⟨l.sent, IntKind.wrap .i64 (m - 1), l.queue, l.got, l.held⟩, c3, rfl, a3, by (try simp only []); omega, by (try simp only []); omega⟩
  rw [br_not (by simp [e2])]
  by_cases e3 : n = 3
  · obtain ⟨m, c3, h3, a3, -⟩ := cur_below hb a2 12
    rw [br_of (by simp [e3]), oc_s_l1Below h3]
    rw [grd_of (decide_eq_true (by simp only [ni, LIM, List.length_append, List.length_map, List.length_cons, List.length_nil]; omega)), nam_eq]
    exact ⟨⟨l.sent, l.acked, l.queue, l.got, l.held ++ [⟨m, ⟨#[]⟩⟩]⟩, c3, by simp [oK, eP], a3, by (try simp only []); omega, by simp; omega⟩
  rw [br_not (by simp [e3])]
  by_cases e4 : n = 4
  · obtain ⟨m, c3, h3, a3, m1, m2⟩ := cur_below hb a2 2
    have m3 := m2 (by omega)
    rw [br_of (by simp [e4]), oc_s_l1Below h3]
    rw [w64 (by omega) (by omega), grd_of (by rw [Bool.and_eq_true]; exact ⟨decide_eq_true (by omega), decide_eq_true (by simp only [LIM]; omega)⟩)]
    exact ⟨⟨30 + m, 0, List.replicate (30 + m).toNat ⟨#[]⟩, 0, []⟩, c3, by simp [oK], a3, by simp; omega, by simp⟩
  rw [br_not (by simp [e4])]
  exact ⟨l, c2, rfl, a2, by omega, by omega⟩
end Go.Eng
