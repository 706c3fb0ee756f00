/- the program's ProcNew returns what the reference's returns -/
import Derived.Test.YtgoidfkdnkjojaaGreatNew
import Derived.Test.YtgoidfkdnkjojaaGreatMark2
namespace Go.Eng
open Go.Proofs Go.Proofs.Tryz
set_option maxHeartbeats 4000000

theorem newPD_is (c : Cd) (s : ByteArray) (pid : Int) : ∃ (p : Pr) (o : Bool), newPD (newP c s pid) = .tup [oPr p, .bool o] ∧ p.m.pool.length ≤ 2 ∧ p.box = [] ∧ p.out = [] := by
  unfold newP
  cases e : newF c s with
  | none => exact ⟨zPr, false, rfl, by simp [zPr, zMc], rfl, rfl⟩
  | some m =>
    obtain ⟨d, _, _, rfl, _⟩ := newF_pool e
    simp only
    split
    · exact ⟨_, true, rfl, by simp [newMc], rfl, rfl⟩
    · exact ⟨zPr, false, rfl, by simp [zPr, zMc], rfl, rfl⟩
theorem law_FnExactProcNew {c : Cd} (hf : FitsC c) (hc : Lim c.pool) (s : ByteArray) (pid : Int) : V 4 [eCd c, .str s, .int .i64 pid] = some (.bool true, []) := by
  obtain ⟨n, hn, h2, h3⟩ := v_szCode hf (left := 1048576) (by omega) (by omega) hc
  rw [elaws_FnExactProcNew]
  by_cases c0 : ni s.size > 1048576
  · rw [br_of (decide_eq_true c0)]
  rw [br_not (decide_eq_false c0), oc_w_szCode hn]
  by_cases c1 : n < 0
  · rw [br_of (decide_eq_true c1)]
  have h3 := h3 (by omega)
  have q1 := v_toCode (c := c) (by omega) (by omega) (by omega)
  have k1 := v_impl_ProcNew hf s pid
  have k2 := v_spec_ProcNew hf s pid
  have e1 := v_eqCode hf
  have m1 := v_markCode (c := c) (k := 1) (by omega) (by omega) (by omega) (by omega) (by omega)
  have hn0 : 0 ≤ nCd c := by unfold nCd; omega
  obtain ⟨p, o, hp, p1, p2, p3⟩ := newPD_is c s pid
  rw [hp] at k1 k2
  have l2 : p.box.length ≤ 4294967296 := by rw [p2]; simp
  have l3 : p.out.length ≤ 4294967296 := by rw [p3]; simp
  have e2 := v_eqProc (p := p) (by omega) l2 l3
  have m2 := v_markProc (p := p) (k := 1) (by omega) l2 l3 (by omega) (by omega)
  have d2 := v_heldProc' (p := p) (k := 1) (by omega) l2 l3 (by omega) (by omega)
  have hp0 : 0 ≤ nPr p := by unfold nPr nMc; omega
  have hb : ∀ o : Bool, (!(o == o)) = false := fun o => by cases o <;> rfl
  have hne : ∀ z : Int, (z != z) = false := fun z => by simp
  rw [br_not (decide_eq_false c1), oc_w_toCode q1, oc_s_ProcNew k2, oc_w_toCode q1, oc_i_ProcNew k1, oc_w_eqProc e2, Bool.not_true, br_false, br_not (hb _), oc_w_toCode q1, oc_w_eqCode e1, Bool.not_true, br_false,
    oc_w_markCode m1, br_not (decide_eq_false (by omega)), oc_w_eqProc e2, Bool.not_true, br_false, br_not (hb _), oc_w_markProc m2, oc_w_heldProc d2, br_not (decide_eq_false (by omega)), br_not (hne _),
    oc_w_toCode q1, oc_i_ProcNew k1, oc_w_eqProc e2, Bool.not_true, br_false, br_not (hb _), oc_w_heldProc d2, br_not (decide_eq_false (by omega)), br_not (hne _)]
theorem core_FnExactProcNew (xs : List D) (h : All2 (fun t x => ShapeV Tryz.prog t x) Tryz.f4.params.toList xs) : V 4 xs = some (.bool true, []) := by
  rw [Tryz.params4] at h
  cases h with | cons h1 h =>
  cases h with | cons h2 h =>
  cases h with | cons h3 h =>
  cases h
  obtain ⟨c, rfl, hf, hc⟩ := arg_cd h1
  obtain ⟨s, rfl, _⟩ := h2.str Tryz.underlying9
  obtain ⟨n, rfl, _⟩ := h3.int Tryz.underlying3
  exact law_FnExactProcNew hf hc s n
end Go.Eng
