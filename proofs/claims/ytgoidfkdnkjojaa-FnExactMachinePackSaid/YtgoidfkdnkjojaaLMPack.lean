/- the program's MachinePack returns what the reference's returns -/
import Derived.Test.YtgoidfkdnkjojaaMPack
namespace Go.Eng
open Go.Proofs Go.Proofs.Try
set_option maxHeartbeats 4000000

theorem law_FnExactMachinePack {c : Cd} (hf : FitsC c) (hc : Lim c.pool) {m : Mc} (hm : Lim m.pool) : V 9 [eCd c, eMc m] = some (.bool true, []) := by
  obtain ⟨n, hn, h2, h3⟩ := v_szCode hf (left := 1048576) (by omega) (by omega) hc
  rw [elaws_FnExactMachinePack, oc_w_szCode hn]
  by_cases c1 : n < 0
  · rw [br_of (decide_eq_true c1)]
  obtain ⟨n2, hn2, h4, h5⟩ := v_szMachine hm (left := n) (by omega) (by omega)
  rw [br_not (decide_eq_false c1), oc_w_szMachine hn2]
  by_cases c2 : n2 < 0
  · rw [br_of (decide_eq_true c2)]
  have h3 := h3 (by omega)
  have h5 := h5 (by omega)
  have q1 := v_toCode (c := c) (by omega) (by omega) (by omega)
  have q2 := v_toMachine (m := m) (by omega)
  have k1 := v_impl_MachinePack hf (lim_fits hm) (by omega)
  have k2 := v_spec_MachinePack hf (lim_fits hm) (by omega)
  have e1 := v_eqCode hf
  have e2 := v_eqMachine (m := m) (by omega)
  obtain ⟨t, o, hp⟩ : ∃ (t : ByteArray) (o : Bool), packD (packM c m) = .tup [.str t, .bool o] := by
    cases packM c m with
    | none => exact ⟨_, _, rfl⟩
    | some t => exact ⟨_, _, rfl⟩
  rw [hp] at k1 k2
  have hs : strEq t t = true := by rw [strEq_eq]; simp
  have hb : (!(o == o)) = false := by cases o <;> rfl
  rw [br_not (decide_eq_false c2), oc_w_toCode q1, oc_w_toMachine q2, oc_s_MachinePack k2, oc_w_toCode q1, oc_w_toMachine q2, oc_i_MachinePack k1, hs, Bool.not_true, br_false, br_not hb, oc_w_toCode q1, oc_w_eqCode e1, Bool.not_true, br_false, oc_w_toMachine q2, oc_w_eqMachine e2, Bool.not_true, br_false]
theorem core_FnExactMachinePack (xs : List D) (h : All2 (fun t x => ShapeV Try.prog t x) Try.f9.params.toList xs) : V 9 xs = some (.bool true, []) := by
  rw [Try.params9] at h
  cases h with | cons h1 h =>
  cases h with | cons h2 h =>
  cases h
  obtain ⟨c, rfl, hf, hc⟩ := arg_cd h1
  obtain ⟨m, rfl, hm⟩ := arg_mc h2
  exact law_FnExactMachinePack hf hc hm
end Go.Eng
