/- the laws on drawn leases -/
import Derived.Test.YtnibbejbclmanaaZCur
import Derived.Test.YtnibbejbclmanaaZOk
namespace Go.Eng
open Go.Proofs Go.Proofs.Try

section
variable {b : List Int}
theorem draw_ask (hb : b.length < 4611686018427387904) : ∃ (l : List Ls) (id who now : Int), V 31 [.rs (1, 0) (b.map eB)] = some (.tup [.os (3, 0) (l.map eL), .int .i64 id, .int .i64 who, .int .i64 now], []) ∧ l.length ≤ 61 := by
  obtain ⟨d0, h0, c0⟩ := cur_new hb
  obtain ⟨l, d1, h1, c1, hl⟩ := cur_leases hb c0
  obtain ⟨v2, d2, h2, c2, _⟩ := cur_below hb c1 6
  obtain ⟨v3, d3, h3, c3, _⟩ := cur_below hb c2 12
  obtain ⟨v4, d4, h4, c4⟩ := cur_now hb c3
  obtain ⟨i0, g0, rfl, _⟩ := c0
  obtain ⟨i1, g1, rfl, _⟩ := c1
  obtain ⟨i2, g2, rfl, _⟩ := c2
  obtain ⟨i3, g3, rfl, _⟩ := c3
  obtain ⟨i4, g4, rfl, _⟩ := c4
  rw [espec_DrawLeaseAsk]
  simp only [ocall_some h0, ocall_some h1, ocall_some h2, ocall_some h3, ocall_some h4, asOp_op, asOs_os, asB_bool, unc_cons, unn_nil, asRs_rs, asI_int]
  exact ⟨l, _, _, _, rfl, hl⟩

theorem draw_drop (hb : b.length < 4611686018427387904) : ∃ (l : List Ls) (now : Int), V 32 [.rs (1, 0) (b.map eB)] = some (.tup [.os (3, 0) (l.map eL), .int .i64 now], []) ∧ l.length ≤ 61 := by
  obtain ⟨d0, h0, c0⟩ := cur_new hb
  obtain ⟨l, d1, h1, c1, hl⟩ := cur_leases hb c0
  obtain ⟨v4, d4, h4, c4⟩ := cur_now hb c1
  obtain ⟨i0, g0, rfl, _⟩ := c0
  obtain ⟨i1, g1, rfl, _⟩ := c1
  obtain ⟨i4, g4, rfl, _⟩ := c4
  rw [espec_DrawLeaseDrop]
  simp only [ocall_some h0, ocall_some h1, ocall_some h4, asOp_op, asOs_os, asB_bool, unc_cons, unn_nil, asRs_rs, asI_int]
  exact ⟨l, _, rfl, hl⟩

theorem draw_kept (hb : b.length < 4611686018427387904) : ∃ (l : List Ls) (id now : Int), V 33 [.rs (1, 0) (b.map eB)] = some (.tup [.os (3, 0) (l.map eL), .int .i64 id, .int .i64 now], []) ∧ l.length ≤ 61 := by
  obtain ⟨d0, h0, c0⟩ := cur_new hb
  obtain ⟨l, d1, h1, c1, hl⟩ := cur_leases hb c0
  obtain ⟨v2, d2, h2, c2, _⟩ := cur_below hb c1 6
  obtain ⟨v4, d4, h4, c4⟩ := cur_now hb c2
  obtain ⟨i0, g0, rfl, _⟩ := c0
  obtain ⟨i1, g1, rfl, _⟩ := c1
  obtain ⟨i2, g2, rfl, _⟩ := c2
  obtain ⟨i4, g4, rfl, _⟩ := c4
  rw [espec_DrawKept]
  simp only [ocall_some h0, ocall_some h1, ocall_some h2, ocall_some h4, asOp_op, asOs_os, asB_bool, unc_cons, unn_nil, asRs_rs, asI_int]
  exact ⟨l, _, _, rfl, hl⟩

theorem draw_give (hb : b.length < 4611686018427387904) : ∃ (l : List Ls) (id who now : Int), V 34 [.rs (1, 0) (b.map eB)] = some (.tup [.os (3, 0) (l.map eL), .int .i64 id, .int .i64 who, .int .i64 now], []) ∧ l.length ≤ 61 := by
  obtain ⟨d0, h0, c0⟩ := cur_new hb
  obtain ⟨l, d1, h1, c1, hl⟩ := cur_leases hb c0
  obtain ⟨v2, d2, h2, c2, _⟩ := cur_below hb c1 4
  obtain ⟨v3, d3, h3, c3, _⟩ := cur_below hb c2 10
  obtain ⟨v4, d4, h4, c4⟩ := cur_now hb c3
  obtain ⟨v5, d5, h5, c5⟩ := cur_once hb c3 4
  obtain ⟨v6, d6, h6, c6⟩ := cur_now hb c5
  obtain ⟨v7, d7, h7, c7, q1, q2⟩ := cur_below hb c5 (ni (l.map eL).length)
  obtain ⟨v8, d8, h8, c8⟩ := cur_now hb c7
  obtain ⟨i0, g0, rfl, _⟩ := c0
  obtain ⟨i1, g1, rfl, _⟩ := c1
  obtain ⟨i2, g2, rfl, _⟩ := c2
  obtain ⟨i3, g3, rfl, _⟩ := c3
  obtain ⟨i4, g4, rfl, _⟩ := c4
  obtain ⟨i5, g5, rfl, _⟩ := c5
  obtain ⟨i6, g6, rfl, _⟩ := c6
  obtain ⟨i7, g7, rfl, _⟩ := c7
  obtain ⟨i8, g8, rfl, _⟩ := c8
  rw [espec_DrawLeaseGive]
  simp only [ocall_some h0, ocall_some h1, ocall_some h2, ocall_some h3, ocall_some h4, ocall_some h5, ocall_some h6, ocall_some h7, ocall_some h8, asOp_op, asOs_os, asB_bool, unc_cons, unn_nil, asRs_rs, asI_int]
  by_cases h : 0 < l.length
  · rw [br_of (by simp [ni]; omega)]
    cases v5 with
    | true => rw [Bool.not_true, br_false]; exact ⟨l, _, _, _, rfl, hl⟩
    | false =>
      simp only [ni, List.length_map] at q2
      obtain ⟨k, rfl⟩ := Int.eq_ofNat_of_zero_le q1
      have hk : k < l.length := by have := q2 (by omega); omega
      obtain ⟨x, hx⟩ := get_of_lt hk
      rw [Bool.not_false, br_true, grd_of (by rw [List.length_map]; exact in_idx hk), Int.toNat_natCast, oget_map hx, eL_mk x]
      simp only [asAgg_agg, unc_cons, unn_nil, asI_int]
      exact ⟨l, _, _, _, rfl, hl⟩
  · rw [br_not (decide_eq_false (by simp only [ni, List.length_map]; omega))]; exact ⟨l, _, _, _, rfl, hl⟩

theorem draw_grip (hb : b.length < 4611686018427387904) : ∃ x y v : Int, V 35 [.rs (1, 0) (b.map eB)] = some (.tup [.agg [.int .i64 x, .int .i64 y], .int .i64 v], []) := by
  obtain ⟨d0, h0, c0⟩ := cur_new hb
  obtain ⟨v2, d2, h2, c2, _⟩ := cur_below hb c0 20
  obtain ⟨v3, d3, h3, c3, _⟩ := cur_below hb c2 20
  obtain ⟨i0, g0, rfl, _⟩ := c0
  obtain ⟨i2, g2, rfl, _⟩ := c2
  obtain ⟨i3, g3, rfl, _⟩ := c3
  rw [espec_DrawGripGood]
  simp only [ocall_some h0, ocall_some h2, ocall_some h3, asOp_op, asOs_os, asB_bool, unc_cons, unn_nil, asRs_rs, asI_int]
  exact ⟨_, _, _, rfl⟩

theorem dropped_loop (hb : b.length < 4611686018427387904) {l : List Ls} (hl : l.length ≤ 61) (now : Int) : ∀ (k i : Nat), i + k = (dropF now l).length → Llaws_FnDropped_8 (b.map eB) now (i : Int) (l.map eL) ((dropF now l).map eL) = some (.bool true, [])
  | 0, i, hi => by
    rw [Llaws_FnDropped_8_eq, br_not (by rw [List.length_map]; exact ge_idx (by omega))]
    obtain ⟨l1, a1, n1, h1, q1⟩ := draw_kept hb
    obtain ⟨l2, a2, w2, n2, h2, q2⟩ := draw_give hb
    obtain ⟨x, y, v, h3⟩ := draw_grip hb
    simp only [ocall_some h1, ocall_some h2, ocall_some h3, ocall_some (v_impl_give (l := l2) (by omega) a2 w2 n2), ocall_some (v_spec_give (l := l2) (by omega) a2 w2 n2), ocall_some (v_impl_Kept (l := l1) (by omega) a1 n1), ocall_some (v_spec_Kept (l := l1) (by omega) a1 n1), asOs_os, asTup_tup, asAgg_agg, asB_bool, unc_cons, unn_nil, asI_int]
    rw [br_of (by simp), br_of (by simp), ocall_some (eimpl_GripGood x y v)]
    simp [asB_bool, unn_nil]
  | k + 1, i, hi => by
    obtain ⟨x, hx⟩ := get_of_lt (l := dropF now l) (i := i) (by omega)
    have hin : (decide (0 ≤ (i : Int)) && decide ((i : Int) < ni ((dropF now l).map eL).length)) = true := by rw [List.length_map]; exact in_idx (by omega)
    have hok : okL l = true := by
      cases h : okL l with
      | true => rfl
      | false => simp [dropF, h] at hx
    have hm := (mem_dropF hok).1 (List.mem_of_getElem? hx)
    have hok' := dropF_ok (n := now) hok
    have hdl := dropF_length now l
    have k1 : V 20 [.rs (3, 0) ((dropF now l).map eL), .int .i64 x.id, .int .i64 now] = _ := v_impl_Kept (l := dropF now l) (by omega) x.id now
    have k2 : V 20 [.rs (3, 0) (l.map eL), .int .i64 x.id, .int .i64 now] = _ := v_impl_Kept (l := l) (by omega) x.id now
    have a1 : (dropF now l).any (keptP x.id now) = true := List.any_eq_true.2 ⟨x, List.mem_of_getElem? hx, by simp [keptP]; omega⟩
    have a2 : l.any (keptP x.id now) = true := List.any_eq_true.2 ⟨x, hm.1, by simp [keptP]; omega⟩
    rw [Llaws_FnDropped_8_eq, br_of (by rw [List.length_map]; exact lt_idx (by omega))]
    simp only [grd_of hin, Int.toNat_natCast, oget_map hx, eL_mk x, asAgg_agg, oget_lit0, oget_lit2, asI_int]
    rw [br_not (decide_eq_false (by have := hm.2; omega))]
    simp only [ocall_some k1, ocall_some k2, asB_bool, unn_nil, hok, hok', a1, a2, Bool.and_self, Bool.not_true, br_false, w64s (show i < 4611686018427387904 by omega)]
    exact dropped_loop hb hl now k (i + 1) (by omega)

theorem pure_FnDropped (hb : b.length < 4611686018427387904) : V 10 [.rs (1, 0) (b.map eB)] = some (.bool true, []) := by
  rw [elaws_FnDropped, ocall_some (elaws_big _)]
  simp only [asB_bool, unn_nil]
  cases decide (ni (b.map eB).length > 1048576) with
  | true => rfl
  | false =>
    obtain ⟨l, now, h1, hl⟩ := draw_drop hb
    simp only [br_false, ocall_some h1, asTup_tup, asOs_os, unc_cons, unn_nil, asI_int, ocall_some (v_impl_drop (l := l) (by omega) now), ocall_some (v_spec_drop (l := l) (by omega) now)]
    rw [br_not (by simp)]
    exact dropped_loop hb hl now (dropF now l).length 0 (by omega)

/-! ## FnLease -/
theorem lease_inner {nx : List Ls} (hok : okL nx = true) (a w n : Int) (hm : (⟨a, w, n + 20⟩ : Ls) ∈ nx) (h0 : 0 ≤ n) (h1 : n ≤ 1000000000) (d : Int) (hd : -3 ≤ d) (hd2 : d ≤ 3) :
    ∀ (k : Nat) (t : Int), n ≤ t → t + k = n + 23 → Llaws_FnLease_14 a w n d t (nx.map eL) a (n + 17) = Llaws_FnLease_11 a w n (d + 1) (nx.map eL) a (n + 17)
  | 0, t, ht, hk => by
    rw [Llaws_FnLease_14_eq, w64 (n := n + 20) (by omega) (by omega), w64 (n := n + 20 + 2) (by omega) (by omega), br_not (decide_eq_false (by omega)), w64 (n := d + 1) (by omega) (by omega)]
  | k + 1, t, ht, hk => by
    have ih := lease_inner hok a w n hm h0 h1 d hd hd2 k (t + 1) (by omega) (by omega)
    rw [Llaws_FnLease_14_eq, w64 (n := n + 20) (by omega) (by omega), w64 (n := n + 20 + 2) (by omega) (by omega), br_of (decide_eq_true (by omega)), ocall_some (eimpl_GripGood _ _ _)]
    have hlen := (okL_iff.1 hok).2.2
    have hdl := dropF_length (t + d) nx
    simp only [asB_bool, unn_nil, w64 (n := t + d) (by omega) (by omega), w64 (n := t + 1) (by omega) (by omega), ih]
    by_cases hg : t ≤ n + 17
    · have k1 : V 20 [.rs (3, 0) (nx.map eL), .int .i64 a, .int .i64 (t + d)] = _ := v_impl_Kept (l := nx) (by omega) a (t + d)
      have k2 : V 20 [.rs (3, 0) ((dropF (t + d) nx).map eL), .int .i64 a, .int .i64 (t + d)] = _ := v_impl_Kept (l := dropF (t + d) nx) (by omega) a (t + d)
      have a1 : nx.any (keptP a (t + d)) = true := List.any_eq_true.2 ⟨_, hm, by simp [keptP]; omega⟩
      have a2 : (dropF (t + d) nx).any (keptP a (t + d)) = true := List.any_eq_true.2 ⟨_, (mem_dropF hok).2 ⟨hm, by simp; omega⟩, by simp [keptP]; omega⟩
      rw [br_of (decide_eq_true (by omega))]
      simp only [ocall_some k1, ocall_some k2, ocall_some (v_impl_drop (l := nx) (by omega) (t + d)), asOs_os, asB_bool, unn_nil, hok, dropF_ok hok, a1, a2, Bool.and_self, Bool.not_true, br_false]
    · rw [br_not (decide_eq_false (by omega))]

theorem lease_outer {nx : List Ls} (hok : okL nx = true) (a w n : Int) (hm : (⟨a, w, n + 20⟩ : Ls) ∈ nx) (h0 : 0 ≤ n) (h1 : n ≤ 1000000000) :
    ∀ (k : Nat) (d : Int), -3 ≤ d → d + k = 4 → Llaws_FnLease_11 a w n d (nx.map eL) a (n + 17) = some (.bool true, [])
  | 0, d, hd, hk => by
    have hlen := (okL_iff.1 hok).2.2
    obtain ⟨m, g1, g2, g3⟩ := give_there hok hm (n := n) (by simp; omega)
    have v1 := v_impl_give (l := nx) (by omega) a w n
    have v2 := v_impl_give (l := m) (by omega) a w n
    simp only [] at g1 g2
    rw [g1] at v1
    rw [g2] at v2
    rw [Llaws_FnLease_11_eq, br_not (decide_eq_false (by omega))]
    simp only [ocall_some v1, ocall_some v2, ocall_some (v_impl_ok (l := nx) (by omega)), hok, asOs_os, asTup_tup, asB_bool, unc_cons, unn_nil, Bool.not_false, br_true]
    rw [w64 (by simp only [ni, List.length_map]; omega) (by simp only [ni, List.length_map]; omega)]
    have : (ni (m.map eL).length == ni (nx.map eL).length - 1) = true := by simp only [ni, List.length_map, beq_iff_eq]; omega
    rw [this]
  | k + 1, d, hd, hk => by
    rw [Llaws_FnLease_11_eq, br_of (decide_eq_true (by omega)), lease_inner hok a w n hm h0 h1 d hd (by omega) 23 n (by omega) (by omega)]
    exact lease_outer hok a w n hm h0 h1 k (d + 1) (by omega) (by omega)

theorem ask_cases (id who now : Int) (l : List Ls) : askF id who now l = ([], 0, 0, false) ∨ askF id who now l = (l, 0, 0, false) ∨ ∃ nx, askF id who now l = (nx, id, now + 17, true) ∧ okL nx = true ∧ (⟨id, who, now + 20⟩ : Ls) ∈ nx ∧ 0 ≤ now ∧ now ≤ 1000000000 := by
  cases ho : okL l with
  | false => exact .inl (by simp [askF, ho])
  | true =>
    cases hw : wi now 0 1000000000 with
    | false => exact .inr (.inl (by simp [askF, ho, hw]))
    | true =>
      cases ho2 : okL (askL id who now l) with
      | false => exact .inr (.inl (by simp [askF, ho, hw, ho2]))
      | true =>
        have hm := askL_mem id who now l
        have hw' := hw
        simp only [wi, Bool.and_eq_true, decide_eq_true_eq] at hw'
        rw [w64 (n := now + 20) (by omega) (by omega)] at hm
        refine .inr (.inr ⟨_, ?_, ho2, hm, hw'⟩)
        simp only [askF, ho, ho2, hw, if_true]
        rw [w64 (n := now + 20) (by omega) (by omega), w64 (n := now + 20 - 3) (by omega) (by omega), show now + 20 - 3 = now + 17 by omega]

theorem pure_FnLease (hb : b.length < 4611686018427387904) : V 9 [.rs (1, 0) (b.map eB)] = some (.bool true, []) := by
  rw [elaws_FnLease, ocall_some (elaws_big _)]
  simp only [asB_bool, unn_nil]
  cases decide (ni (b.map eB).length > 1048576) with
  | true => rfl
  | false =>
    obtain ⟨l, id, who, now, h1, hl⟩ := draw_ask hb
    have v1 := v_impl_ask (l := l) (by omega) id who now
    have v2 := v_spec_ask (l := l) (by omega) id who now
    have k1 := v_impl_ok (l := l) (by omega)
    have k2 := v_spec_ok (l := l) (by omega)
    rw [br_false, ocall_some h1, asTup_tup, unc_cons, asOs_os, unc_cons, asI_int, unc_cons, asI_int, unc_cons, asI_int, unn_nil, unn_nil]
    rcases ask_cases id who now l with he | he | ⟨nx, he, ho, hm, h0, h2⟩
    · rw [he] at v1 v2
      unfold askD at v1 v2
      rw [ocall_some v1, asTup_tup, unc_cons, asOs_os, unc_cons, asAgg_agg, unc_cons, asI_int, unc_cons, asI_int, unn_nil, unc_cons, asB_bool, unn_nil, unn_nil, ocall_some v2, asTup_tup, unc_cons, asOs_os, unc_cons, asAgg_agg, unc_cons, asI_int, unc_cons, asI_int, unn_nil, unc_cons, asB_bool, unn_nil, unn_nil]
      rw [br_not (by rfl), br_not (by rfl), ocall_some k1, asB_bool, unn_nil, ocall_some k2, asB_bool, unn_nil, br_not (by cases okL l <;> rfl), Bool.not_false, br_true]
      generalize (ni (List.length (List.map eL [])) == ni (List.length (List.map eL l))) = c
      cases c <;> rfl
    · rw [he] at v1 v2
      unfold askD at v1 v2
      rw [ocall_some v1, asTup_tup, unc_cons, asOs_os, unc_cons, asAgg_agg, unc_cons, asI_int, unc_cons, asI_int, unn_nil, unc_cons, asB_bool, unn_nil, unn_nil, ocall_some v2, asTup_tup, unc_cons, asOs_os, unc_cons, asAgg_agg, unc_cons, asI_int, unc_cons, asI_int, unn_nil, unc_cons, asB_bool, unn_nil, unn_nil]
      rw [br_not (by rfl), br_not (by rfl), ocall_some k1, asB_bool, unn_nil, ocall_some k2, asB_bool, unn_nil, br_not (by cases okL l <;> rfl), Bool.not_false, br_true, br_of (beq_self_eq_true _)]
    · rw [he] at v1 v2
      unfold askD at v1 v2
      rw [ocall_some v1, asTup_tup, unc_cons, asOs_os, unc_cons, asAgg_agg, unc_cons, asI_int, unc_cons, asI_int, unn_nil, unc_cons, asB_bool, unn_nil, unn_nil, ocall_some v2, asTup_tup, unc_cons, asOs_os, unc_cons, asAgg_agg, unc_cons, asI_int, unc_cons, asI_int, unn_nil, unc_cons, asB_bool, unn_nil, unn_nil]
      have key := lease_outer ho id who now hm h0 h2 7 (-3) (by omega) (by omega)
      rw [br_not (by rfl), br_not (by simp), ocall_some k1, asB_bool, unn_nil, ocall_some k2, asB_bool, unn_nil, br_not (by cases okL l <;> rfl), Bool.not_true, br_false, key]
end

/-! ## the arguments -/
theorem z_bytes : zOf prog 5 = some (1, 0) := by rfl
theorem arg_bytes {x : D} (h : ShapeV prog 46 x) : ∃ b : List Int, x = .rs (1, 0) (b.map eB) ∧ b.length < 4611686018427387904 := by
  obtain ⟨ys, hs, rfl⟩ := h
  obtain ⟨zs, rfl, hb, hp⟩ := hs.slice Try.underlying46 z_bytes
  have : ∀ x ∈ zs, ∃ a : Int, x = eB a ∧ True := by
    intro x hx
    obtain ⟨ps, hs, rfl⟩ := hp x hx
    obtain ⟨a, rfl, _⟩ := hs.int Try.underlying5
    exact ⟨a, elemOf_int Try.underlying5, trivial⟩
  obtain ⟨l, rfl, _⟩ := listOf_all this
  refine ⟨l, elemOf_slice Try.underlying46, ?_⟩
  have hby : prog.bytesOf 5 = 1 := by rfl
  rw [hby, List.length_map] at hb
  have : reachBytes = 140737488351232 := rfl
  omega
theorem core_FnLease (xs : List D) (h : All2 (fun t x => ShapeV Try.prog t x) Try.f9.params.toList xs) : V 9 xs = some (.bool true, []) := by
  rw [Try.params9] at h
  cases h with | cons h1 h =>
  cases h
  obtain ⟨l, rfl, hl⟩ := arg_bytes h1
  exact pure_FnLease hl
theorem core_FnDropped (xs : List D) (h : All2 (fun t x => ShapeV Try.prog t x) Try.f10.params.toList xs) : V 10 xs = some (.bool true, []) := by
  rw [Try.params10] at h
  cases h with | cons h1 h =>
  cases h
  obtain ⟨l, rfl, hl⟩ := arg_bytes h1
  exact pure_FnDropped hl
end Go.Eng
