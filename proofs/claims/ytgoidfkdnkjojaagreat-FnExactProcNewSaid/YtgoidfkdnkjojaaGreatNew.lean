/- new machines and processes, on both sides -/
import Derived.Test.YtgoidfkdnkjojaaGreatProc
namespace Go.Eng
open Go.Proofs Go.Proofs.Tryz
set_option maxHeartbeats 4000000

theorem posB_bound {α : Type} (p : α → Bool) (l : List α) : -1 ≤ posB p l ∧ posB p l < l.length := by
  unfold posB
  cases h : l.findIdx? p with
  | none => simp only; omega
  | some k =>
    rw [List.findIdx?_eq_some_iff_getElem] at h
    obtain ⟨hk, _⟩ := h
    simp only; omega
noncomputable def zMc : Mc := ⟨[], 0, 0, 0, 0, 0, 0, 0⟩
noncomputable def newMc (d : Df) : Mc := ⟨[⟨1, 0, ⟨#[]⟩, 0, 0⟩, ⟨5, 0, ⟨#[]⟩, 0, 0⟩], d.at', 0, 1, 0, 0, 0, 0⟩
/-- a new machine -/
noncomputable def newF (c : Cd) (s : ByteArray) : Option Mc := if okCode c = true ∧ 0 ≤ defOf c s then
    (match c.defs[(defOf c s).toNat]? with | some d => if d.args = 0 then some (newMc d) else none | none => none) else none
noncomputable def newD (r : Option Mc) : D := match r with | some m => .tup [oMc m, .bool true] | none => .tup [oMc zMc, .bool false]
theorem v_impl_MachineNew {c : Cd} (hf : FitsC c) (s : ByteArray) : V 48 [eCd c, .str s] = some (newD (newF c s), []) := by
  have hd := v_impl_DefOf hf s
  have hc := v_impl_CodeOk hf
  have hb := posB_bound (fun d : Df => strEq d.name s) c.defs
  rw [eimpl_MachineNew]
  unfold newF
  cases e1 : okCode c with
  | false => rw [e1] at hc; rw [if_neg (by simp)]; simp (disch := first | omega | (simp only [List.length_append, List.length_cons, List.length_nil, List.length_map, mk_size, nat_cast_eq]; omega)) only [↓ocall_ocont, ocont_some, ↓br_true, ↓unn_nil, ↓asI_int, ↓asB_bool, Bool.not_false, hd, hc]; rfl
  | true =>
    rw [e1] at hc
    by_cases e2 : 0 ≤ defOf c s
    · rw [if_pos ⟨rfl, e2⟩]
      obtain ⟨k, hk⟩ := Int.eq_ofNat_of_zero_le e2
      have hkl : k < c.defs.length := by unfold defOf at hk; omega
      obtain ⟨d, hx⟩ := get_of_lt hkl
      rw [hk] at hd ⊢
      rw [Int.toNat_natCast, hx]
      by_cases e3 : d.args = 0
      · simp only [e3, if_true]
        simp (disch := first | omega | (simp only [List.length_append, List.length_cons, List.length_nil, List.length_map, mk_size, nat_cast_eq]; omega)) only [↓ocall_ocont, ocont_some, ↓br_false, ↓grd_true, ↓unn_nil, ↓asI_int, ↓asB_bool, ↓asAgg_agg, ↓oget_lit1, ↓oget_lit2, oget_lit1, oget_lit2, ↓oget_nat, dec_t, dec_f, bne_f, Bool.and_true, Bool.not_true, List.length_map, nat_cast_eq, hd, hc, ↓oget_map hx]
        rfl
      · simp only [e3, if_false]
        simp (disch := first | omega | (simp only [List.length_append, List.length_cons, List.length_nil, List.length_map, mk_size, nat_cast_eq]; omega)) only [↓ocall_ocont, ocont_some, ↓br_true, ↓br_false, ↓grd_true, ↓unn_nil, ↓asI_int, ↓asB_bool, ↓asAgg_agg, ↓oget_lit2, oget_lit2, ↓oget_nat, dec_t, dec_f, bne_t, Bool.and_true, Bool.not_true, List.length_map, nat_cast_eq, hd, hc, ↓oget_map hx]
        rfl
    · rw [if_neg (fun h => e2 h.2)]
      simp (disch := first | omega | (simp only [List.length_append, List.length_cons, List.length_nil, List.length_map, mk_size, nat_cast_eq]; omega)) only [↓ocall_ocont, ocont_some, ↓br_true, ↓br_false, ↓unn_nil, ↓asI_int, ↓asB_bool, dec_t, Bool.not_true, hd, hc]
      rfl
theorem v_spec_MachineNew {c : Cd} (hf : FitsC c) (s : ByteArray) : V 46 [eCd c, .str s] = some (newD (newF c s), []) := by
  have hd := v_spec_DefOf hf s
  have hc := v_spec_CodeOk hf
  have hb := posB_bound (fun d : Df => strEq d.name s) c.defs
  rw [espec_MachineNew]
  unfold newF
  cases e1 : okCode c with
  | false => rw [e1] at hc; rw [if_neg (by simp)]; simp (disch := first | omega | (simp only [List.length_append, List.length_cons, List.length_nil, List.length_map, mk_size, nat_cast_eq]; omega)) only [↓ocall_ocont, ocont_some, ↓br_true, ↓unn_nil, ↓asI_int, ↓asB_bool, Bool.not_false, hd, hc]; rfl
  | true =>
    rw [e1] at hc
    by_cases e2 : 0 ≤ defOf c s
    · rw [if_pos ⟨rfl, e2⟩]
      obtain ⟨k, hk⟩ := Int.eq_ofNat_of_zero_le e2
      have hkl : k < c.defs.length := by unfold defOf at hk; omega
      obtain ⟨d, hx⟩ := get_of_lt hkl
      rw [hk] at hd ⊢
      rw [Int.toNat_natCast, hx]
      by_cases e3 : d.args = 0
      · simp only [e3, if_true]
        simp (disch := first | omega | (simp only [List.length_append, List.length_cons, List.length_nil, List.length_map, mk_size, nat_cast_eq]; omega)) only [↓ocall_ocont, ocont_some, ↓br_false, ↓grd_true, ↓unn_nil, ↓asI_int, ↓asB_bool, ↓asAgg_agg, ↓oget_lit1, ↓oget_lit2, oget_lit1, oget_lit2, ↓oget_nat, dec_t, dec_f, bne_f, Bool.and_true, Bool.not_true, List.length_map, nat_cast_eq, hd, hc, ↓oget_map hx]
        rfl
      · simp only [e3, if_false]
        simp (disch := first | omega | (simp only [List.length_append, List.length_cons, List.length_nil, List.length_map, mk_size, nat_cast_eq]; omega)) only [↓ocall_ocont, ocont_some, ↓br_true, ↓br_false, ↓grd_true, ↓unn_nil, ↓asI_int, ↓asB_bool, ↓asAgg_agg, ↓oget_lit2, oget_lit2, ↓oget_nat, dec_t, dec_f, bne_t, Bool.and_true, Bool.not_true, List.length_map, nat_cast_eq, hd, hc, ↓oget_map hx]
        rfl
    · rw [if_neg (fun h => e2 h.2)]
      simp (disch := first | omega | (simp only [List.length_append, List.length_cons, List.length_nil, List.length_map, mk_size, nat_cast_eq]; omega)) only [↓ocall_ocont, ocont_some, ↓br_true, ↓br_false, ↓unn_nil, ↓asI_int, ↓asB_bool, dec_t, Bool.not_true, hd, hc]
      rfl
theorem newF_pool {c : Cd} {s : ByteArray} {m : Mc} (h : newF c s = some m) : ∃ d ∈ c.defs, d.args = 0 ∧ m = newMc d ∧ okCode c = true := by
  unfold newF at h
  split at h
  · rename_i hc
    split at h
    · rename_i d hx
      split at h
      · rename_i ha
        cases h
        exact ⟨d, List.mem_of_getElem? hx, ha, rfl, hc.1⟩
      · cases h
    · cases h
  · cases h
noncomputable def zPr : Pr := ⟨0, zMc, [], []⟩
noncomputable def newP (c : Cd) (s : ByteArray) (pid : Int) : Option Pr := match newF c s with
  | some m => if okPr c ⟨pid, m, [], []⟩ = true then some ⟨pid, m, [], []⟩ else none
  | none => none
noncomputable def newPD (r : Option Pr) : D := match r with | some p => .tup [oPr p, .bool true] | none => .tup [oPr zPr, .bool false]
theorem newP_fits {c : Cd} {s : ByteArray} {m : Mc} (h : newF c s = some m) (pid : Int) : FitsR ⟨pid, m, [], []⟩ := by
  obtain ⟨d, _, _, rfl, _⟩ := newF_pool h
  refine ⟨?_, ?_, fun x hx => by simp at hx, by simp, fun x hx => by simp at hx, by simp⟩
  · intro x hx
    simp only [newMc, List.mem_cons, List.not_mem_nil, or_false] at hx
    rcases hx with rfl | rfl <;> decide
  · simp [newMc]
theorem v_impl_ProcNew {c : Cd} (hf : FitsC c) (s : ByteArray) (pid : Int) : V 17 [eCd c, .str s, .int .i64 pid] = some (newPD (newP c s pid), []) := by
  have h1 := v_impl_MachineNew hf s
  rw [eimpl_ProcNew]
  unfold newP
  cases e : newF c s with
  | none => rw [e, newD] at h1; rw [oc_i_MachineNew h1]; rfl
  | some m =>
    rw [e, newD] at h1
    have h2 : V 49 [eCd c, .agg [.int .i64 pid, .rs (5, 0) (m.pool.map eN), .int .i64 m.at', .int .i64 m.s, .int .i64 m.e, .int .i64 m.d, .int .i64 m.state, .int .i64 m.ask, .int .i64 m.arg, .rs (1, 0) [], .rs (1, 0) []]] = some (.bool (okPr c ⟨pid, m, [], []⟩), []) := v_impl_ProcOk hf (newP_fits e pid)
    simp only
    rw [oc_i_MachineNew h1, Bool.not_true, br_false, oc_i_ProcOk h2]
    cases e2 : okPr c ⟨pid, m, [], []⟩ with
    | false => rw [if_neg (by simp)]; rfl
    | true => rw [if_pos rfl]; rfl
theorem v_spec_ProcNew {c : Cd} (hf : FitsC c) (s : ByteArray) (pid : Int) : V 16 [eCd c, .str s, .int .i64 pid] = some (newPD (newP c s pid), []) := by
  have h1 := v_spec_MachineNew hf s
  rw [espec_ProcNew]
  unfold newP
  cases e : newF c s with
  | none => rw [e, newD] at h1; rw [oc_s_MachineNew h1]; rfl
  | some m =>
    rw [e, newD] at h1
    have h2 : V 47 [eCd c, .agg [.int .i64 pid, .rs (5, 0) (m.pool.map eN), .int .i64 m.at', .int .i64 m.s, .int .i64 m.e, .int .i64 m.d, .int .i64 m.state, .int .i64 m.ask, .int .i64 m.arg, .rs (1, 0) [], .rs (1, 0) []]] = some (.bool (okPr c ⟨pid, m, [], []⟩), []) := v_spec_ProcOk hf (newP_fits e pid)
    simp only
    rw [oc_s_MachineNew h1, Bool.not_true, br_false, oc_s_ProcOk h2]
    cases e2 : okPr c ⟨pid, m, [], []⟩ with
    | false => rw [if_neg (by simp)]; rfl
    | true => rw [if_pos rfl]; rfl
end Go.Eng
