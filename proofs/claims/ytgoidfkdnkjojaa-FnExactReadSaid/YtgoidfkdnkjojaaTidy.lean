/- tidying, and machines as bytes, on both sides -/
import Derived.Test.YtgoidfkdnkjojaaCode
import Derived.Test.YtgoidfkdnkjojaaWire2
import Derived.Test.YtgoidfkdnkjojaaIso2
namespace Go.Eng
open Go.Proofs Go.Proofs.Try
set_option maxHeartbeats 4000000

theorem v_copyPool {p : List Nd} (hl : p.length ≤ 4294967296) : V 77 [eP p] = some (oP p, []) := by
  have h : V 133 [.rs (5, 0) (p.map eN)] = some (.os (5, 0) (p.map eN), []) := by
    rw [eslices_Clone_impl_Node_impl_Node, List.nil_append, grd_of (decide_eq_true (by rw [LIM_eq, List.length_map]; simp only [ni]; omega)), nam_eq]
    exact nilb_clone _ _
  rw [eimpl_copyPool]
  simp (disch := first | omega | (simp only [List.length_append, List.length_cons, List.length_nil, List.length_map, mk_size, nat_cast_eq]; omega)) only [↓ocall_ocont, ocont_some, ↓unn_nil, ↓asOs_os, h]
theorem v_l2Copy {p : List Nd} (hl : p.length ≤ 4294967296) : V 71 [eP p] = some (oP p, []) := by
  rw [espec_l2Copy, List.nil_append]
  simp (disch := first | omega | (simp only [List.length_append, List.length_cons, List.length_nil, List.length_map, mk_size, nat_cast_eq]; omega)) only [↓grd_true, ↓nam_eq, dec_t, List.length_map, LIM_eq, nat_cast_eq]
theorem v_copyMachine {m : Mc} (hl : m.pool.length ≤ 4294967296) : V 157 [eMc m] = some (oMc m, []) := by
  rw [eimpl_copyMachine]
  simp (disch := first | omega | (simp only [List.length_append, List.length_cons, List.length_nil, List.length_map, mk_size, nat_cast_eq]; omega)) only [↓ocall_ocont, ocont_some, ↓unn_nil, ↓unc_cons, ↓asOs_os, ↓asAgg_agg, v_copyPool hl]
theorem v_l6Copy {m : Mc} (hl : m.pool.length ≤ 4294967296) : V 152 [eMc m] = some (oMc m, []) := by
  rw [espec_l6Copy]
  simp (disch := first | omega | (simp only [List.length_append, List.length_cons, List.length_nil, List.length_map, mk_size, nat_cast_eq]; omega)) only [↓ocall_ocont, ocont_some, ↓unn_nil, ↓unc_cons, ↓asOs_os, ↓asAgg_agg, v_l2Copy hl]
noncomputable def holds (m : Mc) : Bool := decide (m.state = 1 ∨ m.state = 2)
noncomputable def rootsT (m : Mc) : List Int := if holds m = true then [m.s, m.e, m.d, m.arg] else [m.s, m.e, m.d]
noncomputable def tf (m : Mc) (r : Int) : Int := (moveP (-1) m.pool (rootsT m) []).1.getD r.toNat 0
noncomputable def tidyM (m : Mc) : Mc := if okPool m.pool = true ∧ rootsIn m.pool (rootsT m) = true then
    ⟨(keepP (-1) m.pool (rootsT m)).1, m.at', tf m m.s, tf m m.e, tf m m.d, m.state, m.ask, if holds m = true then tf m m.arg else m.arg⟩ else m
theorem rootsT_len (m : Mc) : (rootsT m).length ≤ 4 := by unfold rootsT; split <;> simp
theorem v_impl_Tidy {m : Mc} (hf : Fits m.pool) (hl : m.pool.length ≤ 4294967296) : V 99 [eMc m] = some (oMc (tidyM m), []) := by
  have hr := v_rootsOk hf (by omega) (l := rootsT m) (by have := rootsT_len m; omega)
  have hc := v_copyMachine hl
  have hk : ∀ h1 : okPool m.pool = true, ∀ h2 : rootsIn m.pool (rootsT m) = true, _ := fun h1 h2 => v_keep h1 (rs := rootsT m) (by have := rootsT_len m; omega) h2
  rw [eimpl_Tidy]
  unfold tidyM
  by_cases h : okPool m.pool = true ∧ rootsIn m.pool (rootsT m) = true
  · rw [if_pos h]
    have hk := hk h.1 h.2
    rw [h.1, h.2] at hr
    unfold rootsT holds at hr hk
    by_cases s1 : m.state = 1
    · rw [if_pos (by simp [s1])] at hr hk
      have e : holds m = true := by simp [holds, s1]
      rw [if_pos e]
      have e2 : rootsT m = [m.s, m.e, m.d, m.arg] := by rw [rootsT, if_pos e]
      unfold tf
      rw [e2]
      simp only [keepP, List.map_cons, List.map_nil] at hr hk ⊢
      simp (disch := first | omega | (simp only [List.length_append, List.length_cons, List.length_nil, List.length_map, mk_size, nat_cast_eq]; omega)) only [↓ocall_ocont, ocont_some, ↓br_true, ↓br_false, ↓grd_true, ↓unn_nil, ↓unc_cons, ↓asI_int, ↓asB_bool, ↓asOs_os, ↓asAgg_agg, ↓asTup_tup, ↓oget_lit0, ↓oget_lit1, ↓oget_lit2, ↓oget_lit3, oget_lit0, oget_lit1, oget_lit2, oget_lit3, dec_t, beq_t, Bool.and_true, Bool.not_true, List.length_cons, List.length_nil, LIM_eq, nat_cast_eq, hr, hk]
    by_cases s2 : m.state = 2
    · rw [if_pos (by simp [s2])] at hr hk
      have e : holds m = true := by simp [holds, s2]
      rw [if_pos e]
      have e2 : rootsT m = [m.s, m.e, m.d, m.arg] := by rw [rootsT, if_pos e]
      unfold tf
      rw [e2]
      simp only [keepP, List.map_cons, List.map_nil] at hr hk ⊢
      simp (disch := first | omega | (simp only [List.length_append, List.length_cons, List.length_nil, List.length_map, mk_size, nat_cast_eq]; omega)) only [↓ocall_ocont, ocont_some, ↓br_true, ↓br_false, ↓grd_true, ↓unn_nil, ↓unc_cons, ↓asI_int, ↓asB_bool, ↓asOs_os, ↓asAgg_agg, ↓asTup_tup, ↓oget_lit0, ↓oget_lit1, ↓oget_lit2, ↓oget_lit3, oget_lit0, oget_lit1, oget_lit2, oget_lit3, dec_t, beq_t, beq_f, Bool.and_true, Bool.not_true, List.length_cons, List.length_nil, LIM_eq, nat_cast_eq, hr, hk]
    · rw [if_neg (by simp [s1, s2])] at hr hk
      have e : ¬ holds m = true := by simp [holds, s1, s2]
      rw [if_neg e]
      have e2 : rootsT m = [m.s, m.e, m.d] := by rw [rootsT, if_neg e]
      unfold tf
      rw [e2]
      simp only [keepP, List.map_cons, List.map_nil] at hr hk ⊢
      simp (disch := first | omega | (simp only [List.length_append, List.length_cons, List.length_nil, List.length_map, mk_size, nat_cast_eq]; omega)) only [↓ocall_ocont, ocont_some, ↓br_false, ↓grd_true, ↓unn_nil, ↓unc_cons, ↓asI_int, ↓asB_bool, ↓asOs_os, ↓asAgg_agg, ↓asTup_tup, ↓oget_lit0, ↓oget_lit1, ↓oget_lit2, oget_lit0, oget_lit1, oget_lit2, dec_t, beq_f, Bool.and_true, Bool.not_true, List.length_cons, List.length_nil, nat_cast_eq, hr, hk]
  · rw [if_neg h]
    have e : (okPool m.pool && rootsIn m.pool (rootsT m)) = false := by
      cases h1 : okPool m.pool <;> cases h2 : rootsIn m.pool (rootsT m) <;> first | rfl | exact absurd ⟨h1, h2⟩ h
    rw [e] at hr
    unfold rootsT holds at hr
    by_cases s1 : m.state = 1
    · rw [if_pos (by simp [s1])] at hr
      simp only [List.map_cons, List.map_nil] at hr
      simp (disch := first | omega | (simp only [List.length_append, List.length_cons, List.length_nil, List.length_map, mk_size, nat_cast_eq]; omega)) only [↓ocall_ocont, ocont_some, ↓br_true, ↓grd_true, ↓unn_nil, ↓unc_cons, ↓asI_int, ↓asB_bool, ↓asOs_os, ↓asAgg_agg, dec_t, beq_t, Bool.not_false, LIM_eq, nat_cast_eq, hr, hc]
    by_cases s2 : m.state = 2
    · rw [if_pos (by simp [s2])] at hr
      simp only [List.map_cons, List.map_nil] at hr
      simp (disch := first | omega | (simp only [List.length_append, List.length_cons, List.length_nil, List.length_map, mk_size, nat_cast_eq]; omega)) only [↓ocall_ocont, ocont_some, ↓br_true, ↓br_false, ↓grd_true, ↓unn_nil, ↓unc_cons, ↓asI_int, ↓asB_bool, ↓asOs_os, ↓asAgg_agg, dec_t, beq_t, beq_f, Bool.not_false, LIM_eq, nat_cast_eq, hr, hc]
    · rw [if_neg (by simp [s1, s2])] at hr
      simp only [List.map_cons, List.map_nil] at hr
      simp (disch := first | omega | (simp only [List.length_append, List.length_cons, List.length_nil, List.length_map, mk_size, nat_cast_eq]; omega)) only [↓ocall_ocont, ocont_some, ↓br_true, ↓br_false, ↓unn_nil, ↓unc_cons, ↓asI_int, ↓asB_bool, ↓asOs_os, ↓asAgg_agg, beq_f, Bool.not_false, hr, hc]
theorem v_spec_Tidy {m : Mc} (hf : Fits m.pool) (hl : m.pool.length ≤ 4294967296) : V 94 [eMc m] = some (oMc (tidyM m), []) := by
  have hr := v_l7Roots hf (by omega) (l := rootsT m) (by have := rootsT_len m; omega)
  have hc := v_l6Copy hl
  have hk : ∀ h1 : okPool m.pool = true, ∀ h2 : rootsIn m.pool (rootsT m) = true, _ := fun h1 h2 => v_l7Keep h1 (rs := rootsT m) (by have := rootsT_len m; omega) h2
  rw [espec_Tidy]
  unfold tidyM
  by_cases h : okPool m.pool = true ∧ rootsIn m.pool (rootsT m) = true
  · rw [if_pos h]
    have hk := hk h.1 h.2
    rw [keepP_same h.1 h.2 0 (-1)] at hk
    rw [h.1, h.2] at hr
    unfold rootsT holds at hr hk
    by_cases s1 : m.state = 1
    · rw [if_pos (by simp [s1])] at hr hk
      have e : holds m = true := by simp [holds, s1]
      rw [if_pos e]
      have e2 : rootsT m = [m.s, m.e, m.d, m.arg] := by rw [rootsT, if_pos e]
      unfold tf
      rw [e2]
      simp only [keepP, List.map_cons, List.map_nil] at hr hk ⊢
      simp (disch := first | omega | (simp only [List.length_append, List.length_cons, List.length_nil, List.length_map, mk_size, nat_cast_eq]; omega)) only [↓ocall_ocont, ocont_some, ↓br_true, ↓br_false, ↓grd_true, ↓unn_nil, ↓unc_cons, ↓asI_int, ↓asB_bool, ↓asOs_os, ↓asAgg_agg, ↓asTup_tup, ↓oget_lit0, ↓oget_lit1, ↓oget_lit2, ↓oget_lit3, oget_lit0, oget_lit1, oget_lit2, oget_lit3, dec_t, beq_t, Bool.and_true, Bool.not_true, List.length_cons, List.length_nil, LIM_eq, nat_cast_eq, hr, hk]
    by_cases s2 : m.state = 2
    · rw [if_pos (by simp [s2])] at hr hk
      have e : holds m = true := by simp [holds, s2]
      rw [if_pos e]
      have e2 : rootsT m = [m.s, m.e, m.d, m.arg] := by rw [rootsT, if_pos e]
      unfold tf
      rw [e2]
      simp only [keepP, List.map_cons, List.map_nil] at hr hk ⊢
      simp (disch := first | omega | (simp only [List.length_append, List.length_cons, List.length_nil, List.length_map, mk_size, nat_cast_eq]; omega)) only [↓ocall_ocont, ocont_some, ↓br_true, ↓br_false, ↓grd_true, ↓unn_nil, ↓unc_cons, ↓asI_int, ↓asB_bool, ↓asOs_os, ↓asAgg_agg, ↓asTup_tup, ↓oget_lit0, ↓oget_lit1, ↓oget_lit2, ↓oget_lit3, oget_lit0, oget_lit1, oget_lit2, oget_lit3, dec_t, beq_t, beq_f, Bool.and_true, Bool.not_true, List.length_cons, List.length_nil, LIM_eq, nat_cast_eq, hr, hk]
    · rw [if_neg (by simp [s1, s2])] at hr hk
      have e : ¬ holds m = true := by simp [holds, s1, s2]
      rw [if_neg e]
      have e2 : rootsT m = [m.s, m.e, m.d] := by rw [rootsT, if_neg e]
      unfold tf
      rw [e2]
      simp only [keepP, List.map_cons, List.map_nil] at hr hk ⊢
      simp (disch := first | omega | (simp only [List.length_append, List.length_cons, List.length_nil, List.length_map, mk_size, nat_cast_eq]; omega)) only [↓ocall_ocont, ocont_some, ↓br_false, ↓grd_true, ↓unn_nil, ↓unc_cons, ↓asI_int, ↓asB_bool, ↓asOs_os, ↓asAgg_agg, ↓asTup_tup, ↓oget_lit0, ↓oget_lit1, ↓oget_lit2, oget_lit0, oget_lit1, oget_lit2, dec_t, beq_f, Bool.and_true, Bool.not_true, List.length_cons, List.length_nil, nat_cast_eq, hr, hk]
  · rw [if_neg h]
    have e : (okPool m.pool && rootsIn m.pool (rootsT m)) = false := by
      cases h1 : okPool m.pool <;> cases h2 : rootsIn m.pool (rootsT m) <;> first | rfl | exact absurd ⟨h1, h2⟩ h
    rw [e] at hr
    unfold rootsT holds at hr
    by_cases s1 : m.state = 1
    · rw [if_pos (by simp [s1])] at hr
      simp only [List.map_cons, List.map_nil] at hr
      simp (disch := first | omega | (simp only [List.length_append, List.length_cons, List.length_nil, List.length_map, mk_size, nat_cast_eq]; omega)) only [↓ocall_ocont, ocont_some, ↓br_true, ↓grd_true, ↓unn_nil, ↓unc_cons, ↓asI_int, ↓asB_bool, ↓asOs_os, ↓asAgg_agg, dec_t, beq_t, Bool.not_false, LIM_eq, nat_cast_eq, hr, hc]
    by_cases s2 : m.state = 2
    · rw [if_pos (by simp [s2])] at hr
      simp only [List.map_cons, List.map_nil] at hr
      simp (disch := first | omega | (simp only [List.length_append, List.length_cons, List.length_nil, List.length_map, mk_size, nat_cast_eq]; omega)) only [↓ocall_ocont, ocont_some, ↓br_true, ↓br_false, ↓grd_true, ↓unn_nil, ↓unc_cons, ↓asI_int, ↓asB_bool, ↓asOs_os, ↓asAgg_agg, dec_t, beq_t, beq_f, Bool.not_false, LIM_eq, nat_cast_eq, hr, hc]
    · rw [if_neg (by simp [s1, s2])] at hr
      simp only [List.map_cons, List.map_nil] at hr
      simp (disch := first | omega | (simp only [List.length_append, List.length_cons, List.length_nil, List.length_map, mk_size, nat_cast_eq]; omega)) only [↓ocall_ocont, ocont_some, ↓br_true, ↓br_false, ↓unn_nil, ↓unc_cons, ↓asI_int, ↓asB_bool, ↓asOs_os, ↓asAgg_agg, beq_f, Bool.not_false, hr, hc]
/-- what is so of a right machine: its roots are nodes -/
theorem okMc_roots {c : Cd} {m : Mc} (h : okMc c m = true) : okPool m.pool = true ∧ rootsIn m.pool (rootsT m) = true ∧ 0 ≤ m.at' ∧ m.at' ≤ 400 ∧ 0 ≤ m.state ∧ m.state ≤ 3 ∧ 0 ≤ m.ask ∧ m.ask ≤ 19 ∧ 0 ≤ m.arg ∧ m.arg ≤ 3000 := by
  unfold okMc okCode hasP at h
  simp only [Bool.and_eq_true, decide_eq_true_eq] at h
  obtain ⟨⟨_, hlist, _⟩, hp, hs, he, hd, hst⟩ := h
  have hlen := okPool_len hp
  refine ⟨hp, ?_, ?_⟩
  · unfold rootsT holds rootsIn
    unfold okSt hasP at hst
    split
    · rename_i hh
      have hh := of_decide_eq_true hh
      have ha : wi m.arg 0 ((m.pool.length : Int) - 1) = true := by
        rcases hh with h1 | h1
        · simp [h1] at hst; exact hst.2.2.2
        · simp [h1] at hst; exact hst.2.2
      simp [hs, he, hd, ha]
    · simp [hs, he, hd]
  · unfold okSt hasP at hst
    repeat' split at hst
    all_goals (try simp only [Bool.and_eq_true, wi, decide_eq_true_eq, beq_iff_eq] at hst)
    all_goals (first | (cases hst; done) | omega)
theorem tidy_ok {c : Cd} {m : Mc} (h : okMc c m = true) : okMc c (tidyM m) = true := by
  obtain ⟨hp, hr, _⟩ := okMc_roots h
  obtain ⟨a1, a2, _⟩ := keep_again hp hr (-1) (-1)
  have hroot : ∀ r ∈ rootsT m, wi (tf m r) 0 (((keepP (-1) m.pool (rootsT m)).1.length : Int) - 1) = true := by
    intro r hm
    have := List.all_eq_true.1 a2 (tf m r) (List.mem_map.2 ⟨r, hm, rfl⟩)
    exact this
  have h3 : m.s ∈ rootsT m ∧ m.e ∈ rootsT m ∧ m.d ∈ rootsT m := by unfold rootsT; split <;> simp
  have h4 : holds m = true → m.arg ∈ rootsT m := by intro hh; unfold rootsT; rw [if_pos hh]; simp
  unfold tidyM
  rw [if_pos ⟨hp, hr⟩]
  unfold okMc okSt hasP at h ⊢
  simp only [Bool.and_eq_true] at h ⊢
  refine ⟨h.1, a1, hroot _ h3.1, hroot _ h3.2.1, hroot _ h3.2.2, ?_⟩
  have hst := h.2.2.2.2.2
  by_cases s0 : m.state = 0
  · have e : ¬ holds m = true := by simp [holds, s0]
    rw [if_pos s0] at hst ⊢
    rw [if_neg e]; exact hst
  rw [if_neg s0] at hst ⊢
  by_cases s1 : m.state = 1
  · have e : holds m = true := by simp [holds, s1]
    rw [if_pos s1] at hst ⊢
    rw [if_pos e]
    simp only [Bool.and_eq_true] at hst ⊢
    exact ⟨hst.1, hst.2.1, hst.2.2.1, hroot _ (h4 e)⟩
  rw [if_neg s1] at hst ⊢
  by_cases s2 : m.state = 2
  · have e : holds m = true := by simp [holds, s2]
    rw [if_pos s2] at hst ⊢
    rw [if_pos e]
    simp only [Bool.and_eq_true] at hst ⊢
    exact ⟨hst.1, hst.2.1, hroot _ (h4 e)⟩
  rw [if_neg s2] at hst ⊢
  have e : ¬ holds m = true := by simp [holds, s1, s2]
  rw [if_neg e]
  exact hst
end Go.Eng
