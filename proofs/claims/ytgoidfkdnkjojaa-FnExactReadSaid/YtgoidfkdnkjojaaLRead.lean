/- the program's Read returns what the reference's returns -/
import Derived.Test.YtgoidfkdnkjojaaRead3
import Derived.Test.YtgoidfkdnkjojaaArgs
import Derived.Test.YtgoidfkdnkjojaaMark
namespace Go.Eng
open Go.Proofs Go.Proofs.Try
set_option maxHeartbeats 4000000

theorem law_FnExactRead {p : List Nd} (hp : Lim p) (s : ByteArray) : V 5 [eP p, .str s] = some (.bool true, []) := by
  rw [elaws_FnExactRead]
  by_cases hbig : s.size > 1048576
  · rw [br_of (decide_eq_true (by simp only [ni]; omega))]
  obtain ⟨n, hn, h2, h3⟩ := v_szPool hp (left := 1048576) (by omega) (by omega)
  rw [br_not (decide_eq_false (by simp only [ni]; omega)), oc_w_szPool hn]
  by_cases c1 : n < 0
  · rw [br_of (decide_eq_true c1)]
  have h3 := h3 (by omega)
  have hf := lim_fits hp
  have q1 := v_toPool (p := p) (by omega)
  have k1 := v_impl_Read hf (by omega) s.data.toList
  have k2 := v_spec_Read hf (by omega) s.data.toList
  rw [mk_of] at k1 k2
  obtain ⟨l1, l2⟩ := readT_len hf s.data.toList
  obtain ⟨⟨q, row, c, a⟩, hr⟩ : ∃ r, r = readT p s.data.toList := ⟨_, rfl⟩
  rw [← hr] at k1 k2 l1 l2
  simp only at k1 k2 l1 l2
  have e1 := v_eqPool (l := q) (by omega)
  have e2 := v_eqInts (l := row) (by omega)
  have e3 := v_eqPool (l := p) (by omega)
  have m1 := v_markPool (l := p) (c := 1) (by omega) (by omega) (by omega)
  have m2 := v_markPool (l := q) (c := 1) (by omega) (by omega) (by omega)
  have m3 := v_markI (l := row) (c := 1 + 5 * (q.length : Int)) (by omega) (by omega) (by omega)
  have d2 := v_heldPool (n := q.length) (c := 1) (by omega) (by omega) (by omega)
  have d3 := v_heldI (n := row.length) (c := 1 + 5 * (q.length : Int)) (by omega) (by omega) (by omega)
  have hc : (c != c) = false := by simp
  have ha : (a != a) = false := by simp
  rw [br_not (decide_eq_false c1), oc_w_toPool q1, oc_s_Read k2, oc_w_toPool q1, oc_i_Read k1, oc_w_eqPool e1, Bool.not_true, br_false, oc_w_eqIntS e2, Bool.not_true, br_false, br_not hc, br_not ha, oc_w_toPool q1, oc_w_eqPool e3, Bool.not_true, br_false, oc_w_markPool m1, br_not (decide_eq_false (by omega)), oc_w_eqPool e1, Bool.not_true, br_false, oc_w_eqIntS e2, Bool.not_true, br_false, br_not hc, br_not ha, oc_w_markPool m2, oc_w_markIntS m3, oc_w_heldPool d2, br_not (decide_eq_false (by omega)), oc_w_heldIntS d3, br_not (decide_eq_false (by omega)), br_not (by simp), oc_w_toPool q1, oc_i_Read k1, oc_w_eqPool e1, Bool.not_true, br_false, oc_w_eqIntS e2, Bool.not_true, br_false, br_not hc, br_not ha, oc_w_heldPool d2, br_not (decide_eq_false (by omega)), oc_w_heldIntS d3, br_not (decide_eq_false (by omega)), br_not (by simp)]
theorem core_FnExactRead (xs : List D) (h : All2 (fun t x => ShapeV Try.prog t x) Try.f5.params.toList xs) : V 5 xs = some (.bool true, []) := by
  rw [Try.params5] at h
  cases h with | cons h1 h =>
  cases h with | cons h2 h =>
  cases h
  obtain ⟨p, rfl, hp⟩ := arg_pool h1
  obtain ⟨s, rfl, hs⟩ := h2.str Try.underlying9
  exact law_FnExactRead hp s
end Go.Eng
