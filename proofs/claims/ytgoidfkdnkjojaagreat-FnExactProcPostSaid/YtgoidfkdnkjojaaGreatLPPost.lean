/- the program's ProcPost and ProcPack return what the reference's return -/
import Derived.Test.YtgoidfkdnkjojaaGreatPPost
import Derived.Test.YtgoidfkdnkjojaaGreatMark2
namespace Go.Eng
open Go.Proofs Go.Proofs.Tryz
set_option maxHeartbeats 4000000

theorem law_FnExactProcPack {c : Cd} (hf : FitsC c) (hc : Lim c.pool) {p : Pr} (hp : LimR p) : V 5 [eCd c, ePr p] = some (.bool true, []) := by
  obtain ⟨n, hn, h2, h3⟩ := v_szCode hf (left := 1048576) (by omega) (by omega) hc
  rw [elaws_FnExactProcPack, oc_w_szCode hn]
  by_cases c1 : n < 0
  · rw [br_of (decide_eq_true c1)]
  obtain ⟨n2, hn2, h5⟩ := v_szProc hp (left := n) (by omega) (by omega)
  rw [br_not (decide_eq_false c1), oc_w_szProc hn2]
  by_cases c2 : n2 < 0
  · rw [br_of (decide_eq_true c2)]
  have h3 := h3 (by omega)
  obtain ⟨fr, h6, h7, h8⟩ := h5 (by omega)
  have q1 := v_toCode (c := c) (by omega) (by omega) (by omega)
  have q2 := v_toProc (p := p) (by omega) (by omega) (by omega)
  have k1 := v_impl_ProcPack hf fr
  have k2 := v_spec_ProcPack hf fr
  have e1 := v_eqCode hf
  have e2 := v_eqProc (p := p) (by omega) (by omega) (by omega)
  have hb : ∀ o : Bool, (!(o == o)) = false := fun o => by cases o <;> rfl
  obtain ⟨t, o, hpk⟩ : ∃ (t : ByteArray) (o : Bool), packD (packP c p) = .tup [.str t, .bool o] := by
    cases packP c p with
    | none => exact ⟨_, _, rfl⟩
    | some t => exact ⟨_, _, rfl⟩
  rw [hpk] at k1 k2
  have hs : strEq t t = true := by rw [strEq_eq]; simp
  rw [br_not (decide_eq_false c2), oc_w_toCode q1, oc_w_toProc q2, oc_s_ProcPack k2, oc_w_toCode q1, oc_w_toProc q2, oc_i_ProcPack k1, hs, Bool.not_true, br_false, br_not (hb _), oc_w_toCode q1, oc_w_eqCode e1, Bool.not_true, br_false, oc_w_toProc q2, oc_w_eqProc e2, Bool.not_true, br_false]
theorem core_FnExactProcPack (xs : List D) (h : All2 (fun t x => ShapeV Tryz.prog t x) Tryz.f5.params.toList xs) : V 5 xs = some (.bool true, []) := by
  rw [Tryz.params5] at h
  cases h with | cons h1 h =>
  cases h with | cons h2 h =>
  cases h
  obtain ⟨c, rfl, hf, hc⟩ := arg_cd h1
  obtain ⟨p, rfl, hp⟩ := arg_pr h2
  exact law_FnExactProcPack hf hc hp
theorem postP_is (c : Cd) {p : Pr} (t : ByteArray) (h1 : p.m.pool.length ≤ 1048576) (h2 : p.box.length ≤ 1048576) (h3 : p.out.length ≤ 1048576) : (postP c p t).1.m.pool.length ≤ 1048577 ∧ (postP c p t).1.box.length ≤ 1048577 ∧ (postP c p t).1.out.length ≤ 1048577 := by
  unfold postP
  split
  · split
    · simp [addBox]; omega
    · simp only; omega
  · simp [zPr']
theorem law_FnExactProcPost {c : Cd} (hf : FitsC c) (hc : Lim c.pool) {p : Pr} (hp : LimR p) (s : ByteArray) : V 6 [eCd c, ePr p, .str s] = some (.bool true, []) := by
  obtain ⟨n, hn, h2, h3⟩ := v_szCode hf (left := 1048576) (by omega) (by omega) hc
  rw [elaws_FnExactProcPost]
  by_cases c0 : ni s.size > 1048576
  · rw [br_of (decide_eq_true c0)]
  rw [br_not (decide_eq_false c0), oc_w_szCode hn]
  simp only [ni] at c0
  by_cases c1 : n < 0
  · rw [br_of (decide_eq_true c1)]
  obtain ⟨n2, hn2, h5⟩ := v_szProc hp (left := n) (by omega) (by omega)
  rw [br_not (decide_eq_false c1), oc_w_szProc hn2]
  by_cases c2 : n2 < 0
  · rw [br_of (decide_eq_true c2)]
  have h3 := h3 (by omega)
  obtain ⟨fr, h6, h7, h8⟩ := h5 (by omega)
  have q1 := v_toCode (c := c) (by omega) (by omega) (by omega)
  have q2 := v_toProc (p := p) (by omega) (by omega) (by omega)
  have k1 := v_impl_ProcPost hf fr (t := s) (by omega) (by omega)
  have k2 := v_spec_ProcPost hf fr (t := s) (by omega) (by omega)
  obtain ⟨g1, g2, g3⟩ := postP_is c s h6 h7 h8
  have e1 := v_eqCode hf
  have e2 := v_eqProc (p := p) (by omega) (by omega) (by omega)
  have e3 := v_eqProc (p := (postP c p s).1) (by omega) (by omega) (by omega)
  have m1 := v_markCode (c := c) (k := 1) (by omega) (by omega) (by omega) (by omega) (by omega)
  have hn0 : 0 ≤ nCd c ∧ nCd c ≤ 20000000 := by unfold nCd; omega
  have m2 := v_markProc (p := p) (k := 1 + nCd c) (by omega) (by omega) (by omega) (by omega) (by omega)
  have hp0 : 0 ≤ nPr p := by unfold nPr nMc; omega
  have m3 := v_markProc (p := (postP c p s).1) (k := 1) (by omega) (by omega) (by omega) (by omega) (by omega)
  have d3 := v_heldProc' (p := (postP c p s).1) (k := 1) (by omega) (by omega) (by omega) (by omega) (by omega)
  have hp3 : 0 ≤ nPr (postP c p s).1 := by unfold nPr nMc; omega
  have hb : ∀ o : Bool, (!(o == o)) = false := fun o => by cases o <;> rfl
  have hne : ∀ z : Int, (z != z) = false := fun z => by simp
  rw [br_not (decide_eq_false c2), oc_w_toCode q1, oc_w_toProc q2, oc_s_ProcPost k2, oc_w_toCode q1, oc_w_toProc q2, oc_i_ProcPost k1, oc_w_eqProc e3, Bool.not_true, br_false, br_not (hb _), oc_w_toCode q1, oc_w_eqCode e1, Bool.not_true, br_false, oc_w_toProc q2, oc_w_eqProc e2, Bool.not_true, br_false,
    oc_w_markCode m1, oc_w_markProc m2, br_not (decide_eq_false (by omega)), oc_w_eqProc e3, Bool.not_true, br_false, br_not (hb _), oc_w_markProc m3, oc_w_heldProc d3, br_not (decide_eq_false (by omega)), br_not (hne _),
    oc_w_toCode q1, oc_w_toProc q2, oc_i_ProcPost k1, oc_w_eqProc e3, Bool.not_true, br_false, br_not (hb _), oc_w_heldProc d3, br_not (decide_eq_false (by omega)), br_not (hne _)]
theorem core_FnExactProcPost (xs : List D) (h : All2 (fun t x => ShapeV Tryz.prog t x) Tryz.f6.params.toList xs) : V 6 xs = some (.bool true, []) := by
  rw [Tryz.params6] at h
  cases h with | cons h1 h =>
  cases h with | cons h2 h =>
  cases h with | cons h3 h =>
  cases h
  obtain ⟨c, rfl, hf, hc⟩ := arg_cd h1
  obtain ⟨p, rfl, hp⟩ := arg_pr h2
  obtain ⟨s, rfl, _⟩ := h3.str Tryz.underlying9
  exact law_FnExactProcPost hf hc hp s
end Go.Eng
