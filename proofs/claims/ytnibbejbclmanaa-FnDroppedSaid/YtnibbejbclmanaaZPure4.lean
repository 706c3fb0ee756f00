/- the laws on leases, of all arguments -/
import Derived.Test.YtnibbejbclmanaaZPure3
namespace Go.Eng
open Go.Proofs Go.Proofs.Try

theorem sz_cases (n : Nat) : szN n < 0 ∨ (¬ szN n < 0 ∧ n ≤ 1048576) := by unfold szN; split <;> omega

theorem pure_LeasesOk {l : List Ls} (hl : l.length < 4611686018427387904) : V 4 [.rs (3, 0) (l.map eL)] = some (.bool true, []) := by
  rw [elaws_FnExactLeasesOk, ocall_some (v_sz hl)]
  simp only [asI_int, unn_nil]
  rcases sz_cases l.length with h | ⟨h, hn⟩
  · rw [br_of (by simpa using h)]
  rw [br_not (by simpa using h)]
  have hS := v_toLeaseS (l := l) (by omega)
  simp only [ocall_some hS, asOs_os, unn_nil, ocall_some (v_spec_ok hl), ocall_some (v_impl_ok hl), asB_bool, ocall_some (v_eq hl hl)]
  cases okL l <;> simp [br]

theorem pure_Kept {l : List Ls} (hl : l.length < 4611686018427387904) (a b : Int) : V 5 [.rs (3, 0) (l.map eL), .int .i64 a, .int .i64 b] = some (.bool true, []) := by
  rw [elaws_FnExactKept, ocall_some (v_sz hl)]
  simp only [asI_int, unn_nil]
  rcases sz_cases l.length with h | ⟨h, hn⟩
  · rw [br_of (by simpa using h)]
  rw [br_not (by simpa using h)]
  have hS := v_toLeaseS (l := l) (by omega)
  simp only [ocall_some hS, asOs_os, unn_nil, ocall_some (v_spec_Kept hl a b), ocall_some (v_impl_Kept hl a b), asB_bool, ocall_some (v_eq hl hl)]
  cases (okL l && l.any (keptP a b)) <;> simp [br]

theorem pure_Drop {l : List Ls} (hl : l.length < 4611686018427387904) (a : Int) : V 6 [.rs (3, 0) (l.map eL), .int .i64 a] = some (.bool true, []) := by
  rw [elaws_FnExactLeaseDrop, ocall_some (v_sz hl)]
  simp only [asI_int, unn_nil]
  rcases sz_cases l.length with h | ⟨h, hn⟩
  · rw [br_of (by simpa using h)]
  rw [br_not (by simpa using h)]
  have hS := v_toLeaseS (l := l) (by omega)
  have hd := dropF_length a l
  have he : V 18 [.rs (3, 0) ((dropF a l).map eL), .rs (3, 0) ((dropF a l).map eL)] = some (.bool (decide (dropF a l = dropF a l)), []) := v_eq (by omega) (by omega)
  have hm : V 23 [.os (3, 0) (l.map eL), .int .i64 1] = _ := v_mark (l := l) (by omega)
  have hm2 : V 23 [.os (3, 0) ((dropF a l).map eL), .int .i64 1] = _ := v_mark (l := dropF a l) (by omega)
  simp only [ocall_some hS, asOs_os, unn_nil, unc_cons, ocall_some (v_spec_drop (l := l) (by omega) a), ocall_some (v_impl_drop (l := l) (by omega) a), asB_bool, asI_int, ocall_some (v_eq hl hl), ocall_some he, ocall_some hm, ocall_some hm2, ocall_some (v_held (n := (dropF a l).length) (by omega)), decide_true, Bool.not_true, br_false]
  repeat rw [br_not (by simp; try omega)]

theorem pure_Give {l : List Ls} (hl : l.length < 4611686018427387904) (a b n : Int) : V 7 [.rs (3, 0) (l.map eL), .int .i64 a, .int .i64 b, .int .i64 n] = some (.bool true, []) := by
  rw [elaws_FnExactLeaseGive, ocall_some (v_sz hl)]
  simp only [asI_int, unn_nil]
  rcases sz_cases l.length with h | ⟨h, hn⟩
  · rw [br_of (by simpa using h)]
  rw [br_not (by simpa using h)]
  have hS := v_toLeaseS (l := l) (by omega)
  have hd := giveF_length a b n l
  generalize hr : giveF a b n l = r at hd
  have h1 := v_spec_give (l := l) (by omega) a b n
  have h2 := v_impl_give (l := l) (by omega) a b n
  rw [hr] at h1 h2
  have he : V 18 [.rs (3, 0) (r.1.map eL), .rs (3, 0) (r.1.map eL)] = some (.bool (decide (r.1 = r.1)), []) := v_eq (by omega) (by omega)
  have hm : V 23 [.os (3, 0) (l.map eL), .int .i64 1] = _ := v_mark (l := l) (by omega)
  have hm2 : V 23 [.os (3, 0) (r.1.map eL), .int .i64 1] = _ := v_mark (l := r.1) (by omega)
  simp only [ocall_some hS, asOs_os, asTup_tup, unn_nil, unc_cons, ocall_some h1, ocall_some h2, asB_bool, asI_int, ocall_some (v_eq hl hl), ocall_some he, ocall_some hm, ocall_some hm2, ocall_some (v_held (n := r.1.length) (by omega)), decide_true, Bool.not_true, br_false]
  repeat rw [br_not (by simp; try omega)]

theorem pure_Ask {l : List Ls} (hl : l.length < 4611686018427387904) (a b n : Int) : V 8 [.rs (3, 0) (l.map eL), .int .i64 a, .int .i64 b, .int .i64 n] = some (.bool true, []) := by
  rw [elaws_FnExactLeaseAsk, ocall_some (v_sz hl)]
  simp only [asI_int, unn_nil]
  rcases sz_cases l.length with h | ⟨h, hn⟩
  · rw [br_of (by simpa using h)]
  rw [br_not (by simpa using h)]
  have hS := v_toLeaseS (l := l) (by omega)
  have hd := askF_length a b n l
  generalize hr : askF a b n l = r at hd
  have h1 := v_spec_ask (l := l) (by omega) a b n
  have h2 := v_impl_ask (l := l) (by omega) a b n
  rw [hr] at h1 h2
  have he : V 18 [.rs (3, 0) (r.1.map eL), .rs (3, 0) (r.1.map eL)] = some (.bool (decide (r.1 = r.1)), []) := v_eq (by omega) (by omega)
  have hm : V 23 [.os (3, 0) (l.map eL), .int .i64 1] = _ := v_mark (l := l) (by omega)
  have hm2 : V 23 [.os (3, 0) (r.1.map eL), .int .i64 1] = _ := v_mark (l := r.1) (by omega)
  simp only [ocall_some hS, askD, asOs_os, asTup_tup, asAgg_agg, unn_nil, unc_cons, ocall_some h1, ocall_some h2, asB_bool, asI_int, ocall_some (v_eqGrip _ _ _ _), ocall_some (v_eq hl hl), ocall_some he, ocall_some hm, ocall_some hm2, ocall_some (v_held (n := r.1.length) (by omega)), decide_true, beq_self_eq_true, Bool.and_self, Bool.not_true, br_false]
  repeat rw [br_not (by simp; try omega)]

/-! ## the arguments -/
theorem z61 : zOf prog 61 = some (3, 0) := by rfl
theorem arg_leases {x : D} (h : ShapeV prog 28 x) : ∃ l : List Ls, x = .rs (3, 0) (l.map eL) ∧ l.length < 4611686018427387904 := by
  obtain ⟨ys, hs, rfl⟩ := h
  obtain ⟨zs, rfl, hb, hp⟩ := hs.slice Try.underlying28 z61
  have : ∀ x ∈ zs, ∃ a : Ls, x = eL a ∧ True := by
    intro x hx
    obtain ⟨ps, hs, rfl⟩ := hp x hx
    obtain ⟨parts, rfl, hp⟩ := hs.struct Try.underlying61
    cases hp with | cons p1 hp =>
    cases hp with | cons p2 hp =>
    cases hp with | cons p3 hp =>
    cases hp
    obtain ⟨a, rfl, _⟩ := p1.int Try.underlying3
    obtain ⟨b, rfl, _⟩ := p2.int Try.underlying3
    obtain ⟨c, rfl, _⟩ := p3.int Try.underlying3
    rw [elemOf_struct Try.underlying61]
    exact ⟨⟨a, b, c⟩, rfl, trivial⟩
  obtain ⟨l, rfl, _⟩ := listOf_all this
  refine ⟨l, elemOf_slice Try.underlying28, ?_⟩
  have hby : prog.bytesOf 61 = 24 := by rfl
  rw [hby, List.length_map] at hb
  have : reachBytes = 140737488351232 := rfl
  omega

theorem core_FnExactLeasesOk (xs : List D) (h : All2 (fun t x => ShapeV Try.prog t x) Try.f4.params.toList xs) : V 4 xs = some (.bool true, []) := by
  rw [Try.params4] at h
  cases h with | cons h1 h =>
  cases h
  obtain ⟨l, rfl, hl⟩ := arg_leases h1
  exact pure_LeasesOk hl
theorem core_FnExactKept (xs : List D) (h : All2 (fun t x => ShapeV Try.prog t x) Try.f5.params.toList xs) : V 5 xs = some (.bool true, []) := by
  rw [Try.params5] at h
  cases h with | cons h1 h =>
  cases h with | cons h2 h =>
  cases h with | cons h3 h =>
  cases h
  obtain ⟨l, rfl, hl⟩ := arg_leases h1
  obtain ⟨a, rfl, _⟩ := h2.int Try.underlying3
  obtain ⟨b, rfl, _⟩ := h3.int Try.underlying3
  exact pure_Kept hl a b
theorem core_FnExactLeaseDrop (xs : List D) (h : All2 (fun t x => ShapeV Try.prog t x) Try.f6.params.toList xs) : V 6 xs = some (.bool true, []) := by
  rw [Try.params6] at h
  cases h with | cons h1 h =>
  cases h with | cons h2 h =>
  cases h
  obtain ⟨l, rfl, hl⟩ := arg_leases h1
  obtain ⟨a, rfl, _⟩ := h2.int Try.underlying3
  exact pure_Drop hl a
theorem core_FnExactLeaseGive (xs : List D) (h : All2 (fun t x => ShapeV Try.prog t x) Try.f7.params.toList xs) : V 7 xs = some (.bool true, []) := by
  rw [Try.params7] at h
  cases h with | cons h1 h =>
  cases h with | cons h2 h =>
  cases h with | cons h3 h =>
  cases h with | cons h4 h =>
  cases h
  obtain ⟨l, rfl, hl⟩ := arg_leases h1
  obtain ⟨a, rfl, _⟩ := h2.int Try.underlying3
  obtain ⟨b, rfl, _⟩ := h3.int Try.underlying3
  obtain ⟨c, rfl, _⟩ := h4.int Try.underlying3
  exact pure_Give hl a b c
theorem core_FnExactLeaseAsk (xs : List D) (h : All2 (fun t x => ShapeV Try.prog t x) Try.f8.params.toList xs) : V 8 xs = some (.bool true, []) := by
  rw [Try.params8] at h
  cases h with | cons h1 h =>
  cases h with | cons h2 h =>
  cases h with | cons h3 h =>
  cases h with | cons h4 h =>
  cases h
  obtain ⟨l, rfl, hl⟩ := arg_leases h1
  obtain ⟨a, rfl, _⟩ := h2.int Try.underlying3
  obtain ⟨b, rfl, _⟩ := h3.int Try.underlying3
  obtain ⟨c, rfl, _⟩ := h4.int Try.underlying3
  exact pure_Ask hl a b c
end Go.Eng
