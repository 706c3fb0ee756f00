/- a drawn value is read from its bytes as it was; bytes that are read are those of the value -/
import Derived.Test.YtgoidfkdnkjojaaWire6
import Derived.Test.YtgoidfkdnkjojaaLKeep
namespace Go.Eng
open Go.Proofs Go.Proofs.Try
set_option maxHeartbeats 4000000

/-! ## the root of what is kept is its last node -/
theorem mvGo_none (d : Int) {q : List Nd} {m : List Bool} : ∀ (k : Nat) (pre : List Int) (acc : List Nd), (∀ j : Nat, pre.length ≤ j → m[j]? ≠ some true) → (mvGo d q m k pre acc).2 = acc
  | 0, pre, acc, h => rfl
  | k + 1, pre, acc, h => by
    simp only [mvGo]
    split
    · rename_i hm
      exact absurd hm (h _ (Nat.le_refl _))
    · exact mvGo_none d k _ acc (fun j hj => h j (by simp at hj; omega))
theorem mvGo_prefix (d : Int) {q : List Nd} {m : List Bool} : ∀ (k : Nat) (pre : List Int) (acc : List Nd), ∃ r, (mvGo d q m k pre acc).1 = pre ++ r
  | 0, pre, acc => ⟨[], by simp [mvGo]⟩
  | k + 1, pre, acc => by
    simp only [mvGo]
    split
    · obtain ⟨r, h⟩ := mvGo_prefix d k (pre ++ [(acc.length : Int)]) (acc ++ [mvNode pre ‹Nd›])
      exact ⟨_, by rw [h, List.append_assoc]⟩
    · obtain ⟨r, h⟩ := mvGo_prefix d (q := q) (m := m) k (pre ++ [d]) acc
      exact ⟨_, by rw [h, List.append_assoc]⟩
theorem mvGo_last (d : Int) {q : List Nd} {m : List Bool} (hm : m.length = q.length) {v : Nat} (hv : m[v]? = some true) (hhi : ∀ j : Nat, v < j → m[j]? ≠ some true) : ∀ (k : Nat) (pre : List Int) (acc : List Nd), pre.length + k = q.length → pre.length ≤ v →
    (mvGo d q m k pre acc).1[v]? = some (((mvGo d q m k pre acc).2.length : Int) - 1)
  | 0, pre, acc, hk, hp => by have := lt_of_get hv; omega
  | k + 1, pre, acc, hk, hp => by
    obtain ⟨x, hx⟩ := get_of_lt (l := q) (i := pre.length) (by omega)
    obtain ⟨b, hb⟩ := get_of_lt (l := m) (i := pre.length) (by omega)
    by_cases e : pre.length = v
    · have hb' : m[pre.length]? = some true := by rw [e]; exact hv
      simp only [mvGo, hx, hb']
      rw [mvGo_none d k _ _ (fun j hj => hhi j (by simp at hj; omega))]
      obtain ⟨r, h⟩ := mvGo_prefix d (q := q) (m := m) k (pre ++ [(acc.length : Int)]) (acc ++ [mvNode pre x])
      rw [h, ← e]
      simp
    · simp only [mvGo, hx, hb]
      cases b with
      | true => exact mvGo_last d hm hv hhi k _ _ (by simp; omega) (by simp; omega)
      | false => exact mvGo_last d hm hv hhi k _ _ (by simp; omega) (by simp; omega)
theorem rch_le {q : List Nd} (hq : okPool q = true) {v : Int} {j : Nat} (h : Rch q [v] j) : j ≤ v.toNat := by
  induction h with
  | root hm => simp at hm; subst hm; exact Nat.le_refl _
  | a h hx hk ih =>
    have ho := okPool_get hq hx
    rcases hk with hk | hk
    · have := okN_pair ho hk; omega
    · have := okN_one ho hk; omega
  | b h hx hk ih =>
    have := okN_pair (okPool_get hq hx) hk; omega
theorem keep_last {q : List Nd} (hq : okPool q = true) {v : Int} (hv : wi v 0 ((q.length : Int) - 1) = true) : (keepP (-1) q [v]).2 = [((keepP (-1) q [v]).1.length : Int) - 1] := by
  have hr := roots_one hv
  have hw := wi_iff.1 hv
  have hroot := reachL_root hr v (by simp)
  have h := mvGo_last (-1) (reachL_length q [v]) (v := v.toNat) hroot (fun j hj hm => by have := rch_le hq (reach_sound hm); omega) q.length [] [] (Nat.zero_add _) (Nat.zero_le _)
  show [(mvGo (-1) q (reachL q [v]) q.length [] []).1.getD v.toNat 0] = [((mvGo (-1) q (reachL q [v]) q.length [] []).2.length : Int) - 1]
  rw [List.getD_eq_getElem?_getD, h]; rfl
/-- what a value is packed as is read as what is kept of it -/
theorem readV_pack {p : List Nd} {v : Int} {s : List UInt8} (h : packV p v = some s) : readV s = some (keepP (-1) p [v]).1 ∧ (keepP (-1) p [v]).1.length ≠ 0 := by
  obtain ⟨p1, p2, p3⟩ := packV_some h
  have hr := roots_one p2
  obtain ⟨a1, a2, a3⟩ := keep_again p1 hr (-1) (-1)
  have hl := keep_last p1 p2
  have hrt := nodesI_put (b := s) (a := 0) (rest := []) a1 (by rw [List.drop_zero, List.append_nil]; exact p3)
  rw [hl] at a2 a3
  have hw : wi (((keepP (-1) p [v]).1.length : Int) - 1) 0 (((keepP (-1) p [v]).1.length : Int) - 1) = true := by
    simpa [rootsIn] using a2
  have hne := wi_iff.1 hw
  refine ⟨?_, by omega⟩
  unfold readV
  rw [hrt]
  simp only
  have hp : packV (keepP (-1) p [v]).1 (((keepP (-1) p [v]).1.length : Int) - 1) = some s := by
    unfold packV
    rw [if_pos ⟨a1, hw⟩, a3, ← p3]
  rw [if_pos ⟨trivial, hp⟩]
theorem readV_some {s : List UInt8} {p : List Nd} (h : readV s = some p) : packV p ((p.length : Int) - 1) = some s := by
  unfold readV at h
  split at h
  · rename_i hc; cases h; exact hc.2
  · cases h
theorem packV_len {p : List Nd} {v : Int} {s : List UInt8} (h : packV p v = some s) : s.length ≤ 100000 := by
  obtain ⟨p1, p2, p3⟩ := packV_some h
  rw [p3]
  exact flat_len (keep_again p1 (roots_one p2) (-1) (-1)).1

/-! ## draws -/
theorem dr_spoil8 {b : List Int} {c : Int × Int} (hb : b.length < 4611686018427387904) (h : CurOk b c) {s : List UInt8} (hs : s.length ≤ 200000) : Drew b (fun v => ∃ t : List UInt8, v = .str (mk t) ∧ t.length ≤ 200001) (V 90 [eC b c, .str (mk s)]) := by
  rw [espec_l8Spoil, bytesD_mk, List.length_map]
  refine got_br (fun _ => drew_some h ⟨s, rfl, by omega⟩) fun h0 => ?_
  have hne : s.length ≠ 0 := by
    intro e
    rw [e] at h0
    exact absurd h0 (by decide)
  refine drew_call (dr_below hb h _) fun v c1 a1 ⟨m, e, m0, m1⟩ => ?_
  subst e
  simp (disch := first | omega | (simp only [List.length_append, List.length_cons, List.length_nil, List.length_map, mk_size, nat_cast_eq]; omega)) only [↓unn_nil, ↓unc_cons, ↓asI_int, ↓asRs_rs, ↓asOp_op, ↓nam_eq]
  refine got_br (fun _ => ?_) fun _ => got_br (fun _ => ?_) fun _ => got_br (fun _ => ?_) fun _ => ?_
  · refine drew_call (dr_below hb a1 _) fun v c2 a2 ⟨m2, e, n0, n1⟩ => ?_
    subst e
    have hn := n1 (by simp only [ni]; omega)
    obtain ⟨k, hk⟩ := Int.eq_ofNat_of_zero_le n0
    subst hk
    simp only [ni] at hn
    obtain ⟨x, hx⟩ := get_of_lt (l := s) (i := k) (by omega)
    simp (disch := first | omega | (simp only [List.length_append, List.length_cons, List.length_nil, List.length_map, mk_size, nat_cast_eq]; omega)) only [↓unn_nil, ↓unc_cons, ↓asI_int, ↓asRs_rs, ↓asOp_op]
    refine drew_call (dr_pickInt hb a2 [0, 1, 2, 3, 5, 9, 10, 127, 128] (by simp)) fun v c3 a3 ⟨m3, e, hm⟩ => ?_
    subst e
    have hm3 : 0 ≤ m3 ∧ m3 < 256 := by
      simp only [List.mem_cons, List.not_mem_nil, or_false] at hm
      omega
    obtain ⟨u, hu⟩ := Int.eq_ofNat_of_zero_le hm3.1
    subst hu
    simp (disch := first | omega | (simp only [List.length_append, List.length_cons, List.length_nil, List.length_map, mk_size, nat_cast_eq]; omega)) only [↓unn_nil, ↓unc_cons, ↓asI_int, ↓asRs_rs, ↓asOp_op]
    rw [grd_of (in_idx (by omega)), Int.toNat_natCast, oget_map hx, wrap_u8 (by omega) (by omega), ← eU_of (by omega), ← List.map_set, obytes_map]
    exact drew_some a3 ⟨_, rfl, by simp; omega⟩
  · refine drew_call (dr_below hb a1 _) fun v c2 a2 ⟨m2, e, n0, n1⟩ => ?_
    subst e
    rw [w64 (by simp only [ni]; omega) (by simp only [ni]; omega)] at n1
    have hn := n1 (by simp only [ni]; omega)
    obtain ⟨k, hk⟩ := Int.eq_ofNat_of_zero_le n0
    subst hk
    simp only [ni] at hn
    simp (disch := first | omega | (simp only [List.length_append, List.length_cons, List.length_nil, List.length_map, mk_size, nat_cast_eq]; omega)) only [↓unn_nil, ↓unc_cons, ↓asI_int, ↓asRs_rs, ↓asOp_op]
    have e2 : part (s.map eU) (some (0, k)) = (s.take k).map eU := by simp [part, List.map_take]
    rw [grd_of (by simp only [cutOk, Bool.and_eq_true, decide_eq_true_eq]; omega), Int.toNat_natCast, e2, obytes_map]
    exact drew_some a2 ⟨_, rfl, by simp; omega⟩
  · have e2 : s.map eU ++ [D.int .u8 0] = (s ++ [0]).map eU := by simp [eU]
    rw [grd_of (lim_u (by omega) _), e2, obytes_map]
    exact drew_some a1 ⟨_, rfl, by simp; omega⟩
  · rw [obytes_map]
    exact drew_some a1 ⟨_, rfl, by omega⟩
theorem dr_valuePack {b : List Int} (hb : b.length < 4611686018427387904) : ∃ (p : List Nd) (v : Int), V 35 [.rs (1, 0) (b.map eB)] = some (.tup [eP p, .int .i64 v], []) ∧ Shrt p ∧ p.length ≤ 3001 := by
  obtain ⟨c, e, hc⟩ := cur_new hb
  obtain ⟨v, _, e2, c2, rfl, a2, p, rfl, hp, hl⟩ := dr_draw hb hc
  have hl := pool_len hl
  obtain ⟨v, _, e3, c3, rfl, a3, m, rfl, _⟩ := dr_at hb a2 (p := p) (by omega)
  refine ⟨p, m, ?_, hp, hl⟩
  rw [espec_DrawValuePack]
  simp (disch := first | omega | (simp only [List.length_append, List.length_cons, List.length_nil, List.length_map, mk_size, nat_cast_eq]; omega)) only [↓ocall_ocont, ocont_some, ↓unn_nil, ↓unc_cons, ↓asI_int, ↓asOs_os, ↓asRs_rs, ↓asAgg_agg, ↓asOp_op, e, e2, e3]
theorem dr_valueRead {b : List Int} (hb : b.length < 4611686018427387904) : ∃ s : List UInt8, V 38 [.rs (1, 0) (b.map eB)] = some (.str (mk s), []) ∧ s.length ≤ 200001 := by
  obtain ⟨c, e, hc⟩ := cur_new hb
  obtain ⟨v, _, e2, c2, rfl, a2, p, rfl, hp, hl⟩ := dr_right hb hc
  obtain ⟨v, _, e3, c3, rfl, a3, m, rfl, _⟩ := dr_at hb a2 (p := p) (by omega)
  have hv := v_spec_ValuePack (shrt_fits hp) (by omega) m
  cases hpk : packV p m with
  | none =>
    rw [hpk, packD] at hv
    obtain ⟨v, _, e4, c4, rfl, a4, t, rfl, ht⟩ := dr_spoil8 hb a3 (s := []) (by simp)
    refine ⟨t, ?_, ht⟩
    rw [espec_DrawValueRead]
    have e4' : V 90 [eC b c3, .str ⟨#[]⟩] = some (.str (mk t), [eC b c4]) := e4
    simp (disch := first | omega | (simp only [List.length_append, List.length_cons, List.length_nil, List.length_map, mk_size, nat_cast_eq]; omega)) only [↓ocall_ocont, ocont_some, ↓unn_nil, ↓unc_cons, ↓asI_int, ↓asB_bool, ↓asS_str, ↓asOs_os, ↓asRs_rs, ↓asAgg_agg, ↓asTup_tup, ↓asOp_op, e, e2, e3, hv, e4']
  | some q =>
    rw [hpk, packD] at hv
    obtain ⟨v, _, e4, c4, rfl, a4, t, rfl, ht⟩ := dr_spoil8 hb a3 (s := q) (by have := packV_len hpk; omega)
    refine ⟨t, ?_, ht⟩
    rw [espec_DrawValueRead]
    simp (disch := first | omega | (simp only [List.length_append, List.length_cons, List.length_nil, List.length_map, mk_size, nat_cast_eq]; omega)) only [↓ocall_ocont, ocont_some, ↓unn_nil, ↓unc_cons, ↓asI_int, ↓asB_bool, ↓asS_str, ↓asOs_os, ↓asRs_rs, ↓asAgg_agg, ↓asTup_tup, ↓asOp_op, e, e2, e3, hv, e4]
theorem law_FnValueBytes {b : List Int} (hb : b.length < 4611686018427387904) : V 8 [.rs (1, 0) (b.map eB)] = some (.bool true, []) := by
  obtain ⟨p, v, hd, hp, hl⟩ := dr_valuePack hb
  obtain ⟨raw, hdr, hraw⟩ := dr_valueRead hb
  have hf := shrt_fits hp
  have r1 := v_impl_ValueRead (s := raw) (by omega)
  have r2 := v_spec_ValueRead (s := raw) (by omega)
  have k1 := v_impl_ValuePack hf (by omega) v
  have k2 := v_spec_ValuePack hf (by omega) v
  rw [elaws_FnValueBytes]
  refine Eq.trans (ocall_some (v_big b) _) ?_
  simp (disch := first | omega | (simp only [List.length_append, List.length_cons, List.length_nil, List.length_map, mk_size, nat_cast_eq]; omega)) only [↓unn_nil, ↓asB_bool]
  cases hbig : decide ((b.length : Int) > 1048576) with
  | true => rfl
  | false =>
    -- what is read of the raw bytes
    have tail : ∃ q : List Nd, ∃ w : Int, ∃ o : Bool, V 32 [.str (mk raw)] = some (.tup [oP q, .int .i64 w, .bool o], []) ∧ V 31 [.str (mk raw)] = some (.tup [oP q, .int .i64 w, .bool o], []) ∧
        ((o = false ∧ q = [] ∧ V 36 [eP q, .int .i64 w] = some (.tup [.str ⟨#[]⟩, .bool false], [])) ∨ (o = true ∧ q.length ≤ 3000 ∧ w = (q.length : Int) - 1 ∧ V 36 [eP q, .int .i64 w] = some (.tup [.str (mk raw), .bool true], []))) := by
      cases e : readV raw with
      | none =>
        rw [e, readD] at r1 r2
        refine ⟨[], 0, false, r1, r2, .inl ⟨rfl, rfl, ?_⟩⟩
        have := v_impl_ValuePack (p := []) (fun x h => by simp at h) (by simp) 0
        have e0 : packV [] 0 = none := by unfold packV; rw [if_neg (by simp [wi])]
        rw [e0, packD] at this
        exact this
      | some q =>
        rw [e, readD] at r1 r2
        have hq := readV_some e
        have hq1 := (packV_some hq).1
        have hlen := okPool_len hq1
        have hfit : Fits q := fun x hx => by
          obtain ⟨j, hj⟩ := List.getElem?_of_mem hx
          have := (okN_facts (okPool_get hq1 hj)).s4
          omega
        have := v_impl_ValuePack hfit (by omega) ((q.length : Int) - 1)
        rw [hq, packD] at this
        exact ⟨q, _, true, r1, r2, .inr ⟨rfl, hlen, rfl, this⟩⟩
    obtain ⟨q, w, o, t1, t2, ht⟩ := tail
    have hrr : strEq (mk raw) (mk raw) = true := by rw [strEq_eq]; simp
    cases e : packV p v with
    | none =>
      rw [e, packD] at k1 k2
      rcases ht with ⟨rfl, rfl, t3⟩ | ⟨rfl, t5, rfl, t3⟩
      · have t1' : V 32 [.str (mk raw)] = some (.tup [.agg [.os (5, 0) []], .int .i64 w, .bool false], []) := t1
        have t2' : V 31 [.str (mk raw)] = some (.tup [.agg [.os (5, 0) []], .int .i64 w, .bool false], []) := t2
        have t3' : V 36 [.agg [.rs (5, 0) []], .int .i64 w] = some (.tup [.str ⟨#[]⟩, .bool false], []) := t3
        simp (disch := first | omega | (simp only [List.length_append, List.length_cons, List.length_nil, List.length_map, mk_size, nat_cast_eq]; omega)) only [↓ocall_ocont, ocont_some, ↓br_true, ↓br_false, ↓unn_nil, ↓unc_cons, ↓asI_int, ↓asB_bool, ↓asS_str, ↓asOs_os, ↓asAs_rs, ↓asAgg_agg, ↓asTup_tup, beq_t, Bool.not_true, Bool.not_false, List.length_nil, nat_cast_eq, hd, hdr, k1, k2, t1', t2', t3', beq_self_eq_true]
      · simp (disch := first | omega | (simp only [List.length_append, List.length_cons, List.length_nil, List.length_map, mk_size, nat_cast_eq]; omega)) only [↓ocall_ocont, ocont_some, ↓br_true, ↓br_false, ↓unn_nil, ↓unc_cons, ↓asI_int, ↓asB_bool, ↓asS_str, ↓asOs_os, ↓asAs_rs, ↓asAgg_agg, ↓asTup_tup, Bool.not_true, List.length_map, wS, nat_cast_eq, hd, hdr, k1, k2, t1, t2, t3, hrr, beq_self_eq_true]
    | some s =>
      have hs := packV_len e
      have hr := v_impl_ValueRead (s := s) (by omega)
      obtain ⟨e1, e2⟩ := readV_pack e
      obtain ⟨p1, p2, p3⟩ := packV_some e
      have hroot := roots_one p2
      have ha := (keep_again p1 hroot (-1) (-1)).1
      have hkl := okPool_len ha
      have hkf := keep_fits hf (-1) [v] ha
      obtain ⟨c1, c2⟩ := keep_same p1 hroot (-1) v (by simp)
      have hlast : (moveP (-1) p [v] []).1.getD v.toNat 0 = ((keepP (-1) p [v]).1.length : Int) - 1 := by
        have := keep_last p1 p2
        exact (List.cons.inj this).1
      rw [hlast] at c1 c2
      rw [e1, readD] at hr
      rw [e, packD] at k1 k2
      have w1 := v_impl_Write hkf (by omega) (((keepP (-1) p [v]).1.length : Int) - 1)
      have w2 := v_impl_Write hf (by omega) v
      have z1 := v_SizeOf hkf (by omega) (((keepP (-1) p [v]).1.length : Int) - 1)
      have z2 := v_SizeOf hf (by omega) v
      rw [c1] at w1
      rw [c2] at z1
      rcases ht with ⟨rfl, rfl, t3⟩ | ⟨rfl, t5, rfl, t3⟩
      · have t1' : V 32 [.str (mk raw)] = some (.tup [.agg [.os (5, 0) []], .int .i64 w, .bool false], []) := t1
        have t2' : V 31 [.str (mk raw)] = some (.tup [.agg [.os (5, 0) []], .int .i64 w, .bool false], []) := t2
        have t3' : V 36 [.agg [.rs (5, 0) []], .int .i64 w] = some (.tup [.str ⟨#[]⟩, .bool false], []) := t3
        simp (disch := first | omega | (simp only [List.length_append, List.length_cons, List.length_nil, List.length_map, mk_size, nat_cast_eq]; omega)) only [↓ocall_ocont, ocont_some, ↓br_true, ↓br_false, ↓unn_nil, ↓unc_cons, ↓asI_int, ↓asB_bool, ↓asS_str, ↓asOs_os, ↓asAs_rs, ↓asAgg_agg, ↓asTup_tup, beq_t, bne_f, Bool.not_true, Bool.not_false, List.length_nil, nat_cast_eq, hd, hdr, k1, k2, hr, w1, w2, z1, z2, strEq_self, t1', t2', t3', beq_self_eq_true]
      · simp (disch := first | omega | (simp only [List.length_append, List.length_cons, List.length_nil, List.length_map, mk_size, nat_cast_eq]; omega)) only [↓ocall_ocont, ocont_some, ↓br_true, ↓br_false, ↓unn_nil, ↓unc_cons, ↓asI_int, ↓asB_bool, ↓asS_str, ↓asOs_os, ↓asAs_rs, ↓asAgg_agg, ↓asTup_tup, bne_f, Bool.not_true, List.length_map, wS, nat_cast_eq, hd, hdr, k1, k2, hr, w1, w2, z1, z2, strEq_self, t1, t2, t3, beq_self_eq_true]
theorem core_FnValueBytes (xs : List D) (h : All2 (fun t x => ShapeV Try.prog t x) Try.f8.params.toList xs) : V 8 xs = some (.bool true, []) := by
  rw [Try.params8] at h
  cases h with | cons h1 h =>
  cases h
  obtain ⟨b, rfl, hb⟩ := arg_code h1
  exact law_FnValueBytes hb
end Go.Eng
