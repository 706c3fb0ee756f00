/- what is kept of a drawn pool is written as it was, is no more than was, and is all reached -/
import Derived.Test.YtgoidfkdnkjojaaDrew
import Derived.Test.YtgoidfkdnkjojaaIso2
namespace Go.Eng
open Go.Proofs Go.Proofs.Try

theorem keepP_len {q : List Nd} (d : Int) (rs : List Int) : (keepP d q rs).1.length ≤ q.length ∧ (keepP d q rs).2.length = rs.length := by
  have := mvGo_acc d q (reachL q rs) q.length [] []
  exact ⟨by simpa [keepP, moveP] using this, by simp [keepP]⟩
theorem same_loop {l : List Int} (hl : l.length < 4611686018427387904) : ∀ (k i : Nat), i + k = l.length → Llaws_sameInts_4 (l.map eI) (l.map eI) (i : Int) = some (.bool true, [])
  | 0, i, hi => by rw [Llaws_sameInts_4_eq]; simp (disch := first | omega | (simp only [List.length_append, List.length_cons, List.length_nil, List.length_map, mk_size, nat_cast_eq]; omega)) only [↓br_false, dec_f, List.length_map, nat_cast_eq]
  | k + 1, i, hi => by
    obtain ⟨x, hx⟩ := get_of_lt (l := l) (i := i) (by omega)
    have ih := same_loop hl k (i + 1) (by omega)
    rw [Llaws_sameInts_4_eq]
    have hw : IntKind.wrap IntKind.i64 ((i : Int) + 1) = ((i + 1 : Nat) : Int) := w64s (by omega)
    simp (disch := first | omega | (simp only [List.length_append, List.length_cons, List.length_nil, List.length_map, mk_size, nat_cast_eq]; omega)) only [↓br_true, ↓br_false, ↓grd_true, ↓asI_int, ↓oget_nat, dec_t, bne_f, Bool.and_true, List.length_map, nat_cast_eq, ↓oget_map hx, hw, ih]
theorem v_sameInts {l : List Int} (hl : l.length < 4611686018427387904) : V 15 [.rs (1, 0) (l.map eI), .rs (1, 0) (l.map eI)] = some (.bool true, []) := by
  rw [elaws_sameInts]
  have h := same_loop hl l.length 0 (Nat.zero_add _)
  rw [Int.natCast_zero] at h
  simp (disch := first | omega | (simp only [List.length_append, List.length_cons, List.length_nil, List.length_map, mk_size, nat_cast_eq]; omega)) only [↓br_false, bne_f, List.length_map, nat_cast_eq, h]
noncomputable def keepF (q : List Nd) (rs : List Int) : List Nd × List Int := if okPool q = true ∧ rootsIn q rs = true then keepP (-1) q rs else ([], [])
theorem v_impl_Keep {q : List Nd} (hf : Fits q) (hl : q.length < 4611686018427387904) {rs : List Int} (h2 : rs.length < 4294967296) :
    V 13 [eP q, .rs (1, 0) (rs.map eI)] = some (.tup [oP (keepF q rs).1, .os (1, 0) ((keepF q rs).2.map eI)], []) := by
  rw [eimpl_Keep]
  unfold keepF
  have hr := v_rootsOk hf hl (l := rs) (by omega)
  by_cases h : okPool q = true ∧ rootsIn q rs = true
  · rw [if_pos h]
    rw [h.1, h.2] at hr
    simp (disch := first | omega | (simp only [List.length_append, List.length_cons, List.length_nil, List.length_map, mk_size, nat_cast_eq]; omega)) only [↓ocall_ocont, ocont_some, ↓br_false, ↓unn_nil, ↓unc_cons, ↓asB_bool, ↓asOs_os, ↓asAgg_agg, ↓asTup_tup, Bool.and_true, Bool.not_true, hr, v_keep h.1 h2 h.2]
  · rw [if_neg h]
    have e : (okPool q && rootsIn q rs) = false := by
      cases h1 : okPool q <;> cases h2 : rootsIn q rs <;> first | rfl | exact absurd ⟨h1, h2⟩ h
    rw [e] at hr
    simp (disch := first | omega | (simp only [List.length_append, List.length_cons, List.length_nil, List.length_map, mk_size, nat_cast_eq]; omega)) only [↓ocall_ocont, ocont_some, ↓br_true, ↓unn_nil, ↓asB_bool, Bool.not_false, hr]
    rfl
theorem v_spec_Keep {q : List Nd} (hf : Fits q) (hl : q.length < 4611686018427387904) {rs : List Int} (h2 : rs.length < 4294967296) :
    V 14 [eP q, .rs (1, 0) (rs.map eI)] = some (.tup [oP (keepF q rs).1, .os (1, 0) ((keepF q rs).2.map eI)], []) := by
  rw [espec_Keep]
  unfold keepF
  have hr := v_l7Roots hf hl (l := rs) (by omega)
  by_cases h : okPool q = true ∧ rootsIn q rs = true
  · rw [if_pos h, keepP_same h.1 h.2 (-1) 0]
    rw [h.1, h.2] at hr
    simp (disch := first | omega | (simp only [List.length_append, List.length_cons, List.length_nil, List.length_map, mk_size, nat_cast_eq]; omega)) only [↓ocall_ocont, ocont_some, ↓br_false, ↓unn_nil, ↓unc_cons, ↓asB_bool, ↓asOs_os, ↓asAgg_agg, ↓asTup_tup, Bool.and_true, Bool.not_true, hr, v_l7Keep h.1 h2 h.2]
  · rw [if_neg h]
    have e : (okPool q && rootsIn q rs) = false := by
      cases h1 : okPool q <;> cases h2 : rootsIn q rs <;> first | rfl | exact absurd ⟨h1, h2⟩ h
    rw [e] at hr
    simp (disch := first | omega | (simp only [List.length_append, List.length_cons, List.length_nil, List.length_map, mk_size, nat_cast_eq]; omega)) only [↓ocall_ocont, ocont_some, ↓br_true, ↓unn_nil, ↓asB_bool, Bool.not_false, hr]
    rfl
theorem strEq_self (s : ByteArray) : strEq s s = true := by rw [strEq_eq]; simp
theorem keep_fits {q : List Nd} (h : Fits q) (d : Int) (rs : List Int) (hq : okPool (keepP d q rs).1 = true) : Fits (keepP d q rs).1 := by
  intro x hx
  obtain ⟨j, hj⟩ := List.getElem?_of_mem hx
  have ho := okPool_get hq hj
  by_cases h4 : x.kind = 4
  · have := nmOk_len (okN_name ho h4); omega
  · have : x.s.size = 0 := by
      have hz : nz x.s = true := by
        unfold okN at ho
        simp only [h4, if_false] at ho
        repeat' split at ho
        all_goals (first | (simp only [Bool.and_eq_true] at ho; exact ho.2.1) | (cases ho))
      rw [nz, strEq_eq] at hz
      rw [of_decide_eq_true hz]; rfl
    omega
theorem law_keep_loop {q : List Nd} (hf : Fits q) (hq : okPool q = true) {rs : List Int} (h2 : rs.length < 4294967296) (hr : rootsIn q rs = true) : ∀ (k i : Nat), i + k = rs.length →
    Llaws_FnKeep_11 (rs.map eI) (i : Int) (q.map eN) ((keepP (-1) q rs).2.map eI) ((keepP (-1) q rs).1.map eN) = some (.bool true, [])
  | 0, i, hi => by
    have hl := okPool_len hq
    obtain ⟨a1, a2⟩ := keepP_len (q := q) (-1) rs
    obtain ⟨b1, b2, b3⟩ := keep_again hq hr (-1) (-1)
    have hff := keep_fits hf (-1) rs b1
    have hk := v_impl_Keep hff (by omega) (rs := (keepP (-1) q rs).2) (by omega)
    unfold keepF at hk
    rw [if_pos ⟨b1, b2⟩, b3] at hk
    rw [Llaws_FnKeep_11_eq]
    simp (disch := first | omega | (simp only [List.length_append, List.length_cons, List.length_nil, List.length_map, mk_size, nat_cast_eq]; omega)) only [↓ocall_ocont, ocont_some, ↓br_true, ↓br_false, ↓unn_nil, ↓unc_cons, ↓asB_bool, ↓asOs_os, ↓asAgg_agg, ↓asTup_tup, dec_t, dec_f, beq_t, List.length_map, nat_cast_eq, a2, hk, v_impl_PoolOk hff (by omega), b1, v_sameInts (l := (keepP (-1) q rs).2) (by omega)]
  | k + 1, i, hi => by
    have hl := okPool_len hq
    obtain ⟨a1, a2⟩ := keepP_len (q := q) (-1) rs
    obtain ⟨b1, b2, b3⟩ := keep_again hq hr (-1) (-1)
    have hff := keep_fits hf (-1) rs b1
    obtain ⟨x, hx⟩ := get_of_lt (l := rs) (i := i) (by omega)
    have hm := List.mem_of_getElem? hx
    obtain ⟨c1, c2⟩ := keep_same hq hr (-1) x hm
    have hy : (keepP (-1) q rs).2[i]? = some ((moveP (-1) q rs []).1.getD x.toNat 0) := by
      simp only [keepP, List.getElem?_map, hx, Option.map_some]
    have ih := law_keep_loop hf hq h2 hr k (i + 1) (by omega)
    have hw : IntKind.wrap IntKind.i64 ((i : Int) + 1) = ((i + 1 : Nat) : Int) := w64s (by omega)
    rw [Llaws_FnKeep_11_eq]
    simp (disch := first | omega | (simp only [List.length_append, List.length_cons, List.length_nil, List.length_map, mk_size, nat_cast_eq]; omega)) only [↓ocall_ocont, ocont_some, ↓br_true, ↓br_false, ↓grd_true, ↓unn_nil, ↓asI_int, ↓asS_str, ↓oget_nat, dec_t, bne_f, Bool.and_true, Bool.not_true, List.length_map, nat_cast_eq, a2, ↓oget_map hx, ↓oget_map hy, v_impl_Write hff (by omega), v_impl_Write hf (by omega), c1, strEq_self, v_SizeOf hff (by omega), v_SizeOf hf (by omega), c2, hw, ih]
theorem law_FnKeep {b : List Int} (hb : b.length < 4611686018427387904) : V 3 [.rs (1, 0) (b.map eB)] = some (.bool true, []) := by
  obtain ⟨p, l, hd, hp, hl, hl4⟩ := dr_keep hb
  have hf := shrt_fits hp
  have k1 := v_impl_Keep hf (by omega) (rs := l) (by omega)
  have k2 := v_spec_Keep hf (by omega) (rs := l) (by omega)
  rw [elaws_FnKeep]
  refine Eq.trans (ocall_some (v_big b) _) ?_
  simp (disch := first | omega | (simp only [List.length_append, List.length_cons, List.length_nil, List.length_map, mk_size, nat_cast_eq]; omega)) only [↓unn_nil, ↓asB_bool]
  cases hbig : decide ((b.length : Int) > 1048576) with
  | true => rfl
  | false =>
    by_cases h : okPool p = true ∧ rootsIn p l = true
    · have e : keepF p l = keepP (-1) p l := by unfold keepF; rw [if_pos h]
      rw [e] at k1 k2
      obtain ⟨a1, a2⟩ := keepP_len (q := p) (-1) l
      have hs := v_sameInts (l := (keepP (-1) p l).2) (by omega)
      have ih := law_keep_loop hf h.1 (rs := l) (by omega) h.2 l.length 0 (Nat.zero_add _)
      rw [Int.natCast_zero] at ih
      simp (disch := first | omega | (simp only [List.length_append, List.length_cons, List.length_nil, List.length_map, mk_size, nat_cast_eq]; omega)) only [↓ocall_ocont, ocont_some, ↓br_false, ↓unn_nil, ↓unc_cons, ↓asB_bool, ↓asOs_os, ↓asAs_rs, ↓asAs_os, ↓asAgg_agg, ↓asTup_tup, bne_f, Bool.not_true, List.length_map, nat_cast_eq, hd, k1, k2, hs, a2, ih]
    · have e : keepF p l = ([], []) := by unfold keepF; rw [if_neg h]
      rw [e] at k1 k2
      have hs := v_sameInts (l := []) (by simp)
      simp only [List.map_nil] at k1 k2 hs
      by_cases h0 : l.length = 0
      · have : l = [] := List.eq_nil_of_length_eq_zero h0
        subst this
        have k3 := v_impl_Keep (q := []) (fun x h => by simp at h) (by simp) (rs := []) (by simp)
        have e3 : keepF [] [] = ([], []) := by unfold keepF; split <;> rfl
        rw [e3] at k3
        have hp3 := v_impl_PoolOk (p := []) (fun x h => by simp at h) (by simp)
        have e4 : okPool [] = true := by simp [okPool, okFrom]
        rw [e4] at hp3
        simp only [List.map_nil] at hd
        have k3' : V 13 [.agg [.rs (5, 0) []], .rs (1, 0) []] = some (.tup [.agg [.os (5, 0) []], .os (1, 0) []], []) := k3
        have hp3' : V 18 [.agg [.rs (5, 0) []]] = some (.bool true, []) := hp3
        have hz : Llaws_FnKeep_11 [] 0 (p.map eN) [] [] = some (.bool true, []) := by
          rw [Llaws_FnKeep_11_eq]
          simp (disch := first | omega | (simp only [List.length_append, List.length_cons, List.length_nil, List.length_map, mk_size, nat_cast_eq]; omega)) only [↓ocall_ocont, ocont_some, ↓br_true, ↓br_false, ↓unn_nil, ↓unc_cons, ↓asB_bool, ↓asOs_os, ↓asAgg_agg, ↓asTup_tup, dec_t, dec_f, beq_t, List.length_map, List.length_nil, nat_cast_eq, k3', hp3', hs]
        have k1' : V 13 [eP p, .rs (1, 0) []] = some (.tup [.agg [.os (5, 0) []], .os (1, 0) []], []) := k1
        have k2' : V 14 [eP p, .rs (1, 0) []] = some (.tup [.agg [.os (5, 0) []], .os (1, 0) []], []) := k2
        simp (disch := first | omega | (simp only [List.length_append, List.length_cons, List.length_nil, List.length_map, mk_size, nat_cast_eq]; omega)) only [↓ocall_ocont, ocont_some, ↓br_false, ↓unn_nil, ↓unc_cons, ↓asB_bool, ↓asOs_os, ↓asAs_rs, ↓asAs_os, ↓asAgg_agg, ↓asTup_tup, bne_f, Bool.not_true, List.length_nil, nat_cast_eq, hd, k1', k2', hs, hz]
      · simp (disch := first | omega | (simp only [List.length_append, List.length_cons, List.length_nil, List.length_map, mk_size, nat_cast_eq]; omega)) only [↓ocall_ocont, ocont_some, ↓br_true, ↓br_false, ↓unn_nil, ↓unc_cons, ↓asB_bool, ↓asOs_os, ↓asAs_rs, ↓asAs_os, ↓asAgg_agg, ↓asTup_tup, beq_t, bne_t, Bool.not_true, List.length_map, List.length_nil, nat_cast_eq, hd, k1, k2, hs]
theorem core_FnKeep (xs : List D) (h : All2 (fun t x => ShapeV Try.prog t x) Try.f3.params.toList xs) : V 3 xs = some (.bool true, []) := by
  rw [Try.params3] at h
  cases h with | cons h1 h =>
  cases h
  obtain ⟨b, rfl, hb⟩ := arg_code h1
  exact law_FnKeep hb
end Go.Eng
