/- what is written of a value: the program's side -/
import Derived.Test.YtgoidfkdnkjojaaWrite2
import Derived.Test.YtgoidfkdnkjojaaEngC
namespace Go.Eng
open Go.Proofs Go.Proofs.Try

theorem lit (l : List UInt8) : (ByteArray.mk l.toArray) = mk l := rfl
noncomputable abbrev wO (p : List Nd) (o : List UInt8) : D := .op [.rs (5, 0) (p.map eN), .os (1, 0) (o.map eU)]
theorem v_wfull (p : List Nd) (o : List UInt8) : V 61 [wO p o] = some (.bool (decide (o.length > 400)), [wO p o]) := by
  rw [eimpl_writing_full, List.length_map]
  simp only [nat_cast_eq, gt_iff_lt]
  by_cases h : 400 < o.length
  · rw [decide_eq_true h, decide_eq_true (by omega)]
  · rw [decide_eq_false h, decide_eq_false (by omega)]
theorem v_wtext (p : List Nd) {o s : List UInt8} (h : o.length + s.length ≤ 4294967296) : V 118 [wO p o, .str (mk s)] = some (.tup [], [wO p (o ++ s)]) := by
  rw [eimpl_writing_text, bytesD_mk]
  simp (disch := first | omega | (simp only [List.length_append, List.length_cons, List.length_nil, List.length_map, mk_size, nat_cast_eq]; omega)) only [↓grd_true, ↓nam_eq, dec_t, List.length_map, List.length_append, LIM_eq, nat_cast_eq, map_app]
theorem wm_atom {p : List Nd} (hp : okPool p = true) (g : Nat) {v : Nat} {x : Nd} (hx : p[v]? = some x) (h5 : ¬ x.kind = 5) (h1 : ¬ x.kind = 1) (out : List UInt8) :
    (out.length ≤ 400 → (wm p g none v out).length ≤ 440) ∧ (400 < out.length → (wm p g none v out).length = out.length) := by
  cases g with
  | zero => simp only [wm]; exact ⟨fun h => by omega, fun h => trivial⟩
  | succ g =>
    have := atomB_len (okPool_get hp hx)
    simp only [wm, hx]
    refine ⟨fun h => ?_, fun h => by rw [if_pos h]⟩
    rw [if_neg (by omega), if_neg (fun h => h.elim h5 h1)]
    simp only [List.length_append]; omega
theorem wm_len {p : List Nd} (hp : okPool p = true) : ∀ (g : Nat) (v : Nat) (out : List UInt8),
    ((out.length ≤ 400 → (wm p g none v out).length ≤ 450 + 50 * v) ∧ (400 < out.length → (wm p g none v out).length = out.length)) ∧
    (∀ first, (out.length ≤ 400 → (wm p g (some first) v out).length ≤ 449 + 50 * v) ∧ (400 < out.length → (wm p g (some first) v out).length ≤ out.length + 3))
  | 0, v, out => by simp only [wm]; exact ⟨⟨fun h => by omega, fun h => trivial⟩, fun f => ⟨fun h => by omega, fun h => by omega⟩⟩
  | g + 1, v, out => by
    refine ⟨⟨fun h => ?_, fun h => by simp only [wm]; rw [if_pos h]⟩, fun first => ?_⟩
    · simp only [wm]
      rw [if_neg (by omega)]
      split
      · rename_i x hx
        split
        · have h1 := (wm_len hp g v (out ++ [40])).2 true
          simp only [List.length_append, List.length_cons, List.length_nil] at h1 ⊢
          by_cases c : out.length + 1 ≤ 400
          · have := h1.1 c; omega
          · have := h1.2 (by omega); omega
        · have := atomB_len (okPool_get hp hx)
          simp only [List.length_append]; omega
      · omega
    · simp only [wm]
      split
      · rename_i x hx
        split
        · rename_i hc
          have hk := okN_pair (okPool_get hp hx) hc.1
          have h1 := (wm_len hp g x.a.toNat (if first then out else out ++ [32])).1
          have h2 := (wm_len hp g x.b.toNat (wm p g none x.a.toNat (if first then out else out ++ [32]))).2 false
          have hs : (if first = true then out else out ++ [32]).length ≤ 401 := by split <;> (try simp only [List.length_append, List.length_cons, List.length_nil]) <;> omega
          refine ⟨fun h => ?_, fun h => by omega⟩
          by_cases c : (if first = true then out else out ++ [32]).length ≤ 400
          · have h3 := h1.1 c
            by_cases c2 : (wm p g none x.a.toNat (if first then out else out ++ [32])).length ≤ 400
            · have := h2.1 c2; omega
            · have := h2.2 (by omega); omega
          · have h3 := h1.2 (by omega)
            have := h2.2 (by omega); omega
        · rename_i hc
          split
          · exact ⟨fun h => by omega, fun h => by omega⟩
          · rename_i h15
            have h1 := wm_atom hp g hx (fun h => h15 (.inr h)) (fun h => h15 (.inl h)) (out ++ [32, 46, 32])
            simp only [List.length_append, List.length_cons, List.length_nil] at h1
            refine ⟨fun h => ?_, fun h => ?_⟩
            · by_cases c : out.length + 3 ≤ 400
              · have := h1.1 c; omega
              · have := h1.2 (by omega); omega
            · have := h1.2 (by omega); omega
      · exact ⟨fun h => by omega, fun h => by omega⟩

theorem impl_atom {p : List Nd} (hp : okPool p = true) {v : Nat} {x : Nd} (hx : p[v]? = some x) (h5 : ¬ x.kind = 5) (h1 : ¬ x.kind = 1) {out : List UInt8} (ho : out.length ≤ 400) :
    V 60 [wO p out, .int .i64 (v : Int)] = some (.tup [], [wO p (out ++ atomB x)]) := by
  have hok := okPool_get hp hx
  have hk := okN_kind hok
  have hv := lt_of_get hx
  have hl := atomB_len hok
  have ht : ∀ s : List UInt8, s.length ≤ 40 → V 118 [wO p out, .str (mk s)] = some (.tup [], [wO p (out ++ s)]) := fun s hs => v_wtext p (by omega)
  rw [eimpl_writing_value]
  by_cases h2 : x.kind = 2
  · have e : atomB x = if x.n = 1 then [35, 116] else [35, 102] := by simp [atomB, h2]
    rw [e]
    by_cases hn : x.n = 1
    · rw [if_pos hn]; simp (disch := first | omega | (simp only [List.length_append, List.length_cons, List.length_nil, List.length_map, mk_size, nat_cast_eq]; omega)) only [↓ocall_ocont, ocont_some, ↓br_true, ↓br_false, ↓grd_true, ↓unn_nil, ↓unc_cons, ↓asI_int, ↓asB_bool, ↓asS_str, ↓asOs_os, ↓asRs_rs, ↓asAgg_agg, ↓asTup_tup, ↓asOp_op, ↓oget_nat, dec_t, dec_f, beq_t, beq_f, Bool.and_true, List.length_map, nat_cast_eq, ↓oget_map hx, v_wfull, lit, ht]
    · rw [if_neg hn]; simp (disch := first | omega | (simp only [List.length_append, List.length_cons, List.length_nil, List.length_map, mk_size, nat_cast_eq]; omega)) only [↓ocall_ocont, ocont_some, ↓br_true, ↓br_false, ↓grd_true, ↓unn_nil, ↓unc_cons, ↓asI_int, ↓asB_bool, ↓asS_str, ↓asOs_os, ↓asRs_rs, ↓asAgg_agg, ↓asTup_tup, ↓asOp_op, ↓oget_nat, dec_t, dec_f, beq_t, beq_f, Bool.and_true, List.length_map, nat_cast_eq, ↓oget_map hx, v_wfull, lit, ht]
  by_cases h4 : x.kind = 4
  · have e : atomB x = x.s.data.toList := by simp [atomB, h4]
    rw [e] at hl ⊢
    have hs := ht x.s.data.toList hl
    rw [mk_of] at hs
    simp (disch := first | omega | (simp only [List.length_append, List.length_cons, List.length_nil, List.length_map, mk_size, nat_cast_eq]; omega)) only [↓ocall_ocont, ocont_some, ↓br_true, ↓br_false, ↓grd_true, ↓unn_nil, ↓unc_cons, ↓asI_int, ↓asB_bool, ↓asS_str, ↓asOs_os, ↓asRs_rs, ↓asAgg_agg, ↓asTup_tup, ↓asOp_op, ↓oget_nat, dec_t, dec_f, beq_t, beq_f, Bool.and_true, List.length_map, nat_cast_eq, ↓oget_map hx, v_wfull, hs]
  have hd := okN_digits hok h4
  have hdg := v_decimal (n := x.n) (by omega)
  have hdn := digI_len12 hd
  by_cases h3 : x.kind = 3
  · have e : atomB x = digI x.n := by simp [atomB, h3]
    rw [e]
    simp (disch := first | omega | (simp only [List.length_append, List.length_cons, List.length_nil, List.length_map, mk_size, nat_cast_eq]; omega)) only [↓ocall_ocont, ocont_some, ↓br_true, ↓br_false, ↓grd_true, ↓unn_nil, ↓unc_cons, ↓asI_int, ↓asB_bool, ↓asS_str, ↓asOs_os, ↓asRs_rs, ↓asAgg_agg, ↓asTup_tup, ↓asOp_op, ↓oget_nat, dec_t, dec_f, beq_t, beq_f, Bool.and_true, List.length_map, nat_cast_eq, ↓oget_map hx, v_wfull, hdg, ht]
  by_cases h6 : x.kind = 6
  · have e : atomB x = [35, 102, 117, 110] ++ digI x.n := by simp [atomB, h6]
    rw [e]
    simp (disch := first | omega | (simp only [List.length_append, List.length_cons, List.length_nil, List.length_map, mk_size, nat_cast_eq]; omega)) only [↓ocall_ocont, ocont_some, ↓br_false, ↓grd_true, ↓unn_nil, ↓unc_cons, ↓asI_int, ↓asB_bool, ↓asS_str, ↓asOs_os, ↓asRs_rs, ↓asAgg_agg, ↓asTup_tup, ↓asOp_op, ↓oget_lit0, oget_lit0, Int.reduceSub, Int.reduceToNat, ↓oget_nat, dec_t, dec_f, beq_f, Bool.and_true, List.length_map, List.length_cons, List.length_nil, LIM_eq, wS, nat_cast_eq, ↓oget_map hx, v_wfull, hdg, h6, lit, mk_append, mk_size, ht]
  by_cases h7 : x.kind = 7
  · have e : atomB x = [35, 107, 111, 110, 116] ++ digI x.n := by simp [atomB, h7]
    rw [e]
    simp (disch := first | omega | (simp only [List.length_append, List.length_cons, List.length_nil, List.length_map, mk_size, nat_cast_eq]; omega)) only [↓ocall_ocont, ocont_some, ↓br_false, ↓grd_true, ↓unn_nil, ↓unc_cons, ↓asI_int, ↓asB_bool, ↓asS_str, ↓asOs_os, ↓asRs_rs, ↓asAgg_agg, ↓asTup_tup, ↓asOp_op, ↓oget_lit1, oget_lit1, Int.reduceSub, Int.reduceToNat, ↓oget_nat, dec_t, dec_f, beq_f, Bool.and_true, List.length_map, List.length_cons, List.length_nil, LIM_eq, wS, nat_cast_eq, ↓oget_map hx, v_wfull, hdg, h7, lit, mk_append, mk_size, ht]
  by_cases h8 : x.kind = 8
  · have e : atomB x = [35, 112, 114, 105, 109] ++ digI x.n := by simp [atomB, h8]
    rw [e]
    simp (disch := first | omega | (simp only [List.length_append, List.length_cons, List.length_nil, List.length_map, mk_size, nat_cast_eq]; omega)) only [↓ocall_ocont, ocont_some, ↓br_false, ↓grd_true, ↓unn_nil, ↓unc_cons, ↓asI_int, ↓asB_bool, ↓asS_str, ↓asOs_os, ↓asRs_rs, ↓asAgg_agg, ↓asTup_tup, ↓asOp_op, ↓oget_lit2, oget_lit2, Int.reduceSub, Int.reduceToNat, ↓oget_nat, dec_t, dec_f, beq_f, Bool.and_true, List.length_map, List.length_cons, List.length_nil, LIM_eq, wS, nat_cast_eq, ↓oget_map hx, v_wfull, hdg, h8, lit, mk_append, mk_size, ht]
  have h9 : x.kind = 9 := by omega
  have e : atomB x = [35, 112, 105, 100] ++ digI x.n := by simp [atomB, h9]
  rw [e]
  simp (disch := first | omega | (simp only [List.length_append, List.length_cons, List.length_nil, List.length_map, mk_size, nat_cast_eq]; omega)) only [↓ocall_ocont, ocont_some, ↓br_false, ↓grd_true, ↓unn_nil, ↓unc_cons, ↓asI_int, ↓asB_bool, ↓asS_str, ↓asOs_os, ↓asRs_rs, ↓asAgg_agg, ↓asTup_tup, ↓asOp_op, ↓oget_lit3, oget_lit3, Int.reduceSub, Int.reduceToNat, ↓oget_nat, dec_t, dec_f, beq_f, Bool.and_true, List.length_map, List.length_cons, List.length_nil, LIM_eq, wS, nat_cast_eq, ↓oget_map hx, v_wfull, hdg, h9, lit, mk_append, mk_size, ht]
theorem impl_full {p : List Nd} {v : Nat} {x : Nd} (hx : p[v]? = some x) {out : List UInt8} (ho : 400 < out.length) :
    V 60 [wO p out, .int .i64 (v : Int)] = some (.tup [], [wO p out]) := by
  have hv := lt_of_get hx
  rw [eimpl_writing_value]
  simp (disch := first | omega | (simp only [List.length_append, List.length_cons, List.length_nil, List.length_map, mk_size, nat_cast_eq]; omega)) only [↓ocall_ocont, ocont_some, ↓br_true, ↓grd_true, ↓unn_nil, ↓unc_cons, ↓asI_int, ↓asB_bool, ↓asS_str, ↓asOs_os, ↓asRs_rs, ↓asAgg_agg, ↓asOp_op, ↓oget_nat, dec_t, Bool.and_true, List.length_map, nat_cast_eq, ↓oget_map hx, v_wfull]
theorem impl_write {p : List Nd} (hp : okPool p = true) : ∀ (g : Nat),
    (∀ (v : Nat) (out : List UInt8), v < p.length → 2 * v + 3 ≤ g → out.length ≤ 300010 → V 60 [wO p out, .int .i64 (v : Int)] = some (.tup [], [wO p (wm p g none v out)])) ∧
    (∀ (v : Nat) (first : Bool) (out : List UInt8), v < p.length → 2 * v + 2 ≤ g → out.length ≤ 300000 → Limpl_writing_pairs_1 (v : Int) first (p.map eN) (out.map eU) = some (.tup [], [wO p (wm p g (some first) v out)]))
  | 0 => ⟨fun v out _ h _ => by omega, fun v f out _ h _ => by omega⟩
  | g + 1 => by
    obtain ⟨ihv, iht⟩ := impl_write hp g
    have hl := okPool_len hp
    refine ⟨fun v out hv hg ho => ?_, fun v first out hv hg ho => ?_⟩
    · obtain ⟨x, hx⟩ := get_of_lt hv
      have hok := okPool_get hp hx
      by_cases hf : out.length > 400
      · rw [impl_full hx hf]; simp only [wm, if_pos hf]
      by_cases h15 : x.kind = 5 ∨ x.kind = 1
      · have h2 := iht v true (out ++ [40]) hv (by omega) (by simp; omega)
        have hlen := ((wm_len hp g v (out ++ [40])).2 true)
        simp only [List.length_append, List.length_cons, List.length_nil] at hlen
        have hle : (wm p g (some true) v (out ++ [40])).length ≤ 200000 := by
          by_cases c : out.length + 1 ≤ 400
          · have := hlen.1 c; omega
          · have := hlen.2 (by omega); omega
        have h3 : V 119 [wO p (out ++ [40]), .int .i64 (v : Int)] = some (.tup [], [wO p (wm p g (some true) v (out ++ [40]))]) := by
          rw [eimpl_writing_pairs]; exact h2
        have t1 : V 118 [wO p out, .str (mk [40])] = some (.tup [], [wO p (out ++ [40])]) := v_wtext p (by simp; omega)
        have t2 : V 118 [wO p (wm p g (some true) v (out ++ [40])), .str (mk [41])] = some (.tup [], [wO p (wm p g (some true) v (out ++ [40]) ++ [41])]) := v_wtext p (by simp; omega)
        have e : wm p (g + 1) none v out = wm p g (some true) v (out ++ [40]) ++ [41] := by
          simp only [wm, if_neg hf, hx, if_pos h15]
        rw [e, eimpl_writing_value]
        rcases h15 with h | h
        · simp (disch := first | omega | (simp only [List.length_append, List.length_cons, List.length_nil, List.length_map, mk_size, nat_cast_eq]; omega)) only [↓ocall_ocont, ocont_some, ↓br_true, ↓br_false, ↓grd_true, ↓unn_nil, ↓unc_cons, ↓asI_int, ↓asB_bool, ↓asS_str, ↓asOs_os, ↓asRs_rs, ↓asAgg_agg, ↓asTup_tup, ↓asOp_op, ↓oget_nat, dec_t, dec_f, beq_t, beq_f, Bool.and_true, List.length_map, nat_cast_eq, ↓oget_map hx, v_wfull, lit, t1, t2, h3]
        · simp (disch := first | omega | (simp only [List.length_append, List.length_cons, List.length_nil, List.length_map, mk_size, nat_cast_eq]; omega)) only [↓ocall_ocont, ocont_some, ↓br_true, ↓br_false, ↓grd_true, ↓unn_nil, ↓unc_cons, ↓asI_int, ↓asB_bool, ↓asS_str, ↓asOs_os, ↓asRs_rs, ↓asAgg_agg, ↓asTup_tup, ↓asOp_op, ↓oget_nat, dec_t, dec_f, beq_t, Bool.and_true, List.length_map, nat_cast_eq, ↓oget_map hx, v_wfull, lit, t1, t2, h3]
      · rw [impl_atom hp hx (fun h => h15 (.inl h)) (fun h => h15 (.inr h)) (by omega)]
        simp only [wm, if_neg hf, hx, if_neg h15]
    · obtain ⟨x, hx⟩ := get_of_lt hv
      have hok := okPool_get hp hx
      rw [Limpl_writing_pairs_1_eq]
      by_cases h5 : x.kind = 5
      · by_cases hf : out.length ≤ 400
        · have hk := okN_pair hok h5
          obtain ⟨ka, hka⟩ := Int.eq_ofNat_of_zero_le hk.1
          obtain ⟨kb, hkb⟩ := Int.eq_ofNat_of_zero_le hk.2.2.1
          have hw : ∀ o : List UInt8, o.length ≤ 401 → (wm p g none ka o).length ≤ 200000 := fun o ho => by
            have h := (wm_len hp g ka o).1
            by_cases c : o.length ≤ 400
            · have := h.1 c; omega
            · have := h.2 (by omega); omega
          have hc : x.kind = 5 ∧ out.length ≤ 400 := ⟨h5, hf⟩
          have e : wm p (g + 1) (some first) v out = wm p g (some false) kb (wm p g none ka (if first then out else out ++ [32])) := by
            simp only [wm, hx, if_pos hc, hka, hkb, Int.toNat_natCast]
          rw [e]
          cases first with
          | true =>
            have h1 := ihv ka out (by omega) (by omega) (by omega)
            have h2 := iht kb false (wm p g none ka out) (by omega) (by omega) (by have := hw out (by omega); omega)
            simp (disch := first | omega | (simp only [List.length_append, List.length_cons, List.length_nil, List.length_map, mk_size, nat_cast_eq]; omega)) only [↓ocall_ocont, ocont_some, ↓br_true, ↓br_false, ↓grd_true, ↓unn_nil, ↓unc_cons, ↓asI_int, ↓asB_bool, ↓asOs_os, ↓asRs_rs, ↓asAgg_agg, ↓asTup_tup, ↓asOp_op, ↓oget_lit0, ↓oget_lit3, ↓oget_lit4, oget_lit0, oget_lit3, oget_lit4, ↓oget_nat, dec_t, dec_f, beq_t, Bool.and_true, Bool.not_true, Bool.not_false, List.length_map, nat_cast_eq, ↓oget_map hx, v_wfull, hka, hkb, h1, h2, if_true]
          | false =>
            have t1 : V 118 [wO p out, .str (mk [32])] = some (.tup [], [wO p (out ++ [32])]) := v_wtext p (by simp; omega)
            have h1 := ihv ka (out ++ [32]) (by omega) (by omega) (by simp; omega)
            have h2 := iht kb false (wm p g none ka (out ++ [32])) (by omega) (by omega) (by have := hw (out ++ [32]) (by simp; omega); omega)
            simp (disch := first | omega | (simp only [List.length_append, List.length_cons, List.length_nil, List.length_map, mk_size, nat_cast_eq]; omega)) only [↓ocall_ocont, ocont_some, ↓br_true, ↓grd_true, ↓unn_nil, ↓unc_cons, ↓asI_int, ↓asB_bool, ↓asOs_os, ↓asRs_rs, ↓asAgg_agg, ↓asTup_tup, ↓asOp_op, ↓oget_lit0, ↓oget_lit3, ↓oget_lit4, oget_lit0, oget_lit3, oget_lit4, ↓oget_nat, dec_t, dec_f, beq_t, Bool.true_and, Bool.and_true, Bool.not_false, List.length_map, nat_cast_eq, ↓oget_map hx, v_wfull, lit, t1, hka, hkb, h1, h2, if_false, Bool.false_eq_true]
        · have e : wm p (g + 1) (some first) v out = out := by
            simp only [wm, hx, if_neg (fun h : x.kind = 5 ∧ out.length ≤ 400 => hf h.2), if_pos (show x.kind = 1 ∨ x.kind = 5 from .inr h5)]
          rw [e]
          simp (disch := first | omega | (simp only [List.length_append, List.length_cons, List.length_nil, List.length_map, mk_size, nat_cast_eq]; omega)) only [↓ocall_ocont, ocont_some, ↓br_true, ↓br_false, ↓grd_true, ↓unn_nil, ↓unc_cons, ↓asI_int, ↓asB_bool, ↓asOs_os, ↓asRs_rs, ↓asAgg_agg, ↓asOp_op, ↓oget_lit0, oget_lit0, ↓oget_nat, dec_t, beq_t, bne_t, bne_f, Bool.and_true, Bool.not_true, List.length_map, nat_cast_eq, ↓oget_map hx, v_wfull]
      · by_cases h1 : x.kind = 1
        · have e : wm p (g + 1) (some first) v out = out := by
            simp only [wm, hx, if_neg (fun h : x.kind = 5 ∧ out.length ≤ 400 => h5 h.1), if_pos (show x.kind = 1 ∨ x.kind = 5 from .inl h1)]
          rw [e]
          simp (disch := first | omega | (simp only [List.length_append, List.length_cons, List.length_nil, List.length_map, mk_size, nat_cast_eq]; omega)) only [↓br_false, ↓grd_true, ↓asI_int, ↓asAgg_agg, ↓oget_lit0, oget_lit0, ↓oget_nat, dec_t, beq_f, bne_f, Bool.and_true, List.length_map, nat_cast_eq, ↓oget_map hx]
        · have e : wm p (g + 1) (some first) v out = wm p g none v (out ++ [32, 46, 32]) := by
            simp only [wm, hx, if_neg (fun h : x.kind = 5 ∧ out.length ≤ 400 => h5 h.1), if_neg (fun h : x.kind = 1 ∨ x.kind = 5 => h.elim h1 h5)]
          have t1 : V 118 [wO p out, .str (mk [32, 46, 32])] = some (.tup [], [wO p (out ++ [32, 46, 32])]) := v_wtext p (by simp; omega)
          have h2 : V 60 [wO p (out ++ [32, 46, 32]), .int .i64 (v : Int)] = some (.tup [], [wO p (wm p g none v (out ++ [32, 46, 32]))]) := by
            cases g with
            | zero => omega
            | succ g =>
            by_cases hf : (out ++ [32, 46, 32]).length > 400
            · rw [impl_full hx hf]; simp only [wm, if_pos hf]
            · rw [impl_atom hp hx h5 h1 (by omega)]
              simp only [wm, if_neg hf, hx, if_neg (fun h : x.kind = 5 ∨ x.kind = 1 => h.elim h5 h1)]
          rw [e]
          simp (disch := first | omega | (simp only [List.length_append, List.length_cons, List.length_nil, List.length_map, mk_size, nat_cast_eq]; omega)) only [↓ocall_ocont, ocont_some, ↓br_true, ↓br_false, ↓grd_true, ↓unn_nil, ↓unc_cons, ↓asI_int, ↓asOs_os, ↓asRs_rs, ↓asAgg_agg, ↓asTup_tup, ↓asOp_op, ↓oget_lit0, oget_lit0, ↓oget_nat, dec_t, beq_f, bne_t, Bool.and_true, List.length_map, nat_cast_eq, ↓oget_map hx, lit, t1, h2]

theorem v_impl_Write {p : List Nd} (hf : Fits p) (hl : p.length < 4611686018427387904) (v : Int) : V 16 [eP p, .int .i64 v] = some (.str (mk (writeP p v)), []) := by
  rw [eimpl_Write]
  unfold writeP
  cases hp : okPool p with
  | false => rw [if_neg (by simp)]; simp (disch := first | omega | (simp only [List.length_append, List.length_cons, List.length_nil, List.length_map, mk_size, nat_cast_eq]; omega)) only [↓ocall_ocont, ocont_some, ↓br_true, ↓unn_nil, ↓asB_bool, Bool.not_false, v_impl_PoolOk hf hl, hp, lit]
  | true =>
    cases hv : wi v 0 ((p.length : Int) - 1) with
    | false => rw [if_neg (by simp)]; simp (disch := first | omega | (simp only [List.length_append, List.length_cons, List.length_nil, List.length_map, mk_size, nat_cast_eq]; omega)) only [↓ocall_ocont, ocont_some, ↓br_true, ↓br_false, ↓unn_nil, ↓asB_bool, Bool.not_true, Bool.not_false, v_impl_PoolOk hf hl, hp, v_isNode hl v, hv, lit]
    | true =>
      have h := wi_iff.1 hv
      obtain ⟨n, rfl⟩ := Int.eq_ofNat_of_zero_le h.1
      obtain ⟨x, hx⟩ := get_of_lt (l := p) (i := n) (by omega)
      rw [if_pos ⟨rfl, rfl⟩, Int.toNat_natCast]
      by_cases h1 : x.kind = 1
      · have e : wr p (2 * n + 1) false n [] = [40, 41] := by simp [wr, hx, h1, atomB]
        rw [e, if_neg (by simp)]
        simp (disch := first | omega | (simp only [List.length_append, List.length_cons, List.length_nil, List.length_map, mk_size, nat_cast_eq]; omega)) only [↓ocall_ocont, ocont_some, ↓br_true, ↓br_false, ↓grd_true, ↓unn_nil, ↓asI_int, ↓asB_bool, ↓asAgg_agg, ↓oget_lit0, oget_lit0, dec_t, beq_t, Bool.and_true, Bool.not_true, List.length_map, nat_cast_eq, v_impl_PoolOk hf hl, hp, v_isNode hl, hv, ↓oget_map hx, lit]
      · have hw : V 60 [.op [.rs (5, 0) (p.map eN), .os (1, 0) []], .int .i64 (n : Int)] = some (.tup [], [wO p (wm p (2 * n + 3) none n [])]) := (impl_write hp (2 * n + 3)).1 n [] (by omega) (Nat.le_refl _) (by simp)
        have ha := (wm_alike hp (2 * n + 3)).1 (2 * n + 1) n [] (by omega) (by omega) (by omega)
        by_cases hc : (wm p (2 * n + 3) none n []).length > 400
        · have hc2 : (wr p (2 * n + 1) false n []).length > 400 := by
            rcases ha with ha | ⟨_, ha⟩
            · rw [← ha]; exact hc
            · exact ha
          rw [if_pos hc2]
          simp (disch := first | omega | (simp only [List.length_append, List.length_cons, List.length_nil, List.length_map, mk_size, nat_cast_eq]; omega)) only [↓ocall_ocont, ocont_some, ↓br_true, ↓br_false, ↓grd_true, ↓unn_nil, ↓unc_cons, ↓asI_int, ↓asB_bool, ↓asOs_os, ↓asRs_rs, ↓asAgg_agg, ↓asTup_tup, ↓asOp_op, ↓oget_lit0, oget_lit0, dec_t, beq_f, Bool.and_true, Bool.not_true, List.length_map, nat_cast_eq, v_impl_PoolOk hf hl, hp, v_isNode hl, hv, ↓oget_map hx, lit, hw, v_wfull]
        · have ha2 : wm p (2 * n + 3) none n [] = wr p (2 * n + 1) false n [] := by
            rcases ha with ha | ⟨h, _⟩
            · exact ha
            · exact absurd h hc
          rw [← ha2, if_neg hc]
          simp (disch := first | omega | (simp only [List.length_append, List.length_cons, List.length_nil, List.length_map, mk_size, nat_cast_eq]; omega)) only [↓ocall_ocont, ocont_some, ↓br_false, ↓grd_true, ↓unn_nil, ↓unc_cons, ↓asI_int, ↓asB_bool, ↓asOs_os, ↓asRs_rs, ↓asAgg_agg, ↓asTup_tup, ↓asOp_op, ↓oget_lit0, oget_lit0, dec_t, dec_f, beq_f, Bool.and_true, Bool.not_true, List.length_map, nat_cast_eq, v_impl_PoolOk hf hl, hp, v_isNode hl, hv, ↓oget_map hx, hw, v_wfull, ↓obytes_map]
end Go.Eng
