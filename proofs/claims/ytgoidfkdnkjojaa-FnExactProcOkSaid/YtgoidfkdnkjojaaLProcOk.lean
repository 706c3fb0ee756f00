/- the program's ProcOk returns what the reference's returns -/
import Derived.Test.YtgoidfkdnkjojaaLProc
namespace Go.Eng
open Go.Proofs Go.Proofs.Try
set_option maxHeartbeats 4000000

theorem law_FnExactProcOk {c : Cd} (hf : FitsC c) (hc : Lim c.pool) {p : Pr} (hp : LimR p) : V 10 [eCd c, ePr p] = some (.bool true, []) := by
  obtain ⟨n, hn, h2, h3⟩ := v_szCode hf (left := 1048576) (by omega) (by omega) hc
  rw [elaws_FnExactProcOk, oc_w_szCode hn]
  by_cases c1 : n < 0
  · rw [br_of (decide_eq_true c1)]
  obtain ⟨n2, hn2, h5⟩ := v_szProc hp (left := n) (by omega) (by omega)
  rw [br_not (decide_eq_false c1), oc_w_szProc hn2]
  by_cases c2 : n2 < 0
  · rw [br_of (decide_eq_true c2)]
  have h3 := h3 (by omega)
  obtain ⟨fr, h6, h7, h8⟩ := h5 (by omega)
  have q1 := v_toCode (c := c) (by omega) (by omega) (by omega)
  have q2 := v_toProc (p := p) (by omega) (by omega) (by omega)
  have k1 := v_impl_ProcOk hf fr
  have k2 := v_spec_ProcOk hf fr
  have e1 := v_eqCode hf
  have e2 := v_eqProc (p := p) (by omega) (by omega) (by omega)
  have hb : ∀ o : Bool, (!(o == o)) = false := fun o => by cases o <;> rfl
  rw [br_not (decide_eq_false c2), oc_w_toCode q1, oc_w_toProc q2, oc_s_ProcOk k2, oc_w_toCode q1, oc_w_toProc q2, oc_i_ProcOk k1, br_not (hb _), oc_w_toCode q1, oc_w_eqCode e1, Bool.not_true, br_false, oc_w_toProc q2, oc_w_eqProc e2, Bool.not_true, br_false]
theorem core_FnExactProcOk (xs : List D) (h : All2 (fun t x => ShapeV Try.prog t x) Try.f10.params.toList xs) : V 10 xs = some (.bool true, []) := by
  rw [Try.params10] at h
  cases h with | cons h1 h =>
  cases h with | cons h2 h =>
  cases h
  obtain ⟨c, rfl, hf, hc⟩ := arg_cd h1
  obtain ⟨p, rfl, hp⟩ := arg_pr h2
  exact law_FnExactProcOk hf hc hp
end Go.Eng
