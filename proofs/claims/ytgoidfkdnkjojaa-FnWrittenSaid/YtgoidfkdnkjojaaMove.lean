/- what is moved into another pool, on both sides -/
import Derived.Test.YtgoidfkdnkjojaaKeep
namespace Go.Eng
open Go.Proofs Go.Proofs.Try

theorem lim_add {p : List Nd} (h : p.length < 4294967296) (x : D) : decide (ni (p.map eN ++ [x]).length ≤ LIM) = true :=
  decide_eq_true (by rw [LIM_eq]; simp only [ni, List.length_append, List.length_map, List.length_cons, List.length_nil]; omega)
theorem v_add {p : List Nd} (h : p.length < 4294967296) (x : Nd) : V 138 [rP p, eN x] = some (.int .i64 p.length, [rP (p ++ [x])]) := by
  rw [eimpl_Pool_add, grd_of (lim_add h _), nam_eq]
  have : IntKind.wrap .i64 (ni (p.map eN ++ [eN x]).length - 1) = p.length := by
    rw [w64 (by simp only [ni]; omega) (by simp only [ni, List.length_append, List.length_map, List.length_cons, List.length_nil]; omega)]
    simp [ni]
  rw [this]; simp
theorem v_l2Add {p : List Nd} (h : p.length < 4294967296) (x : Nd) : V 75 [rP p, eN x] = some (.int .i64 p.length, [rP (p ++ [x])]) := by
  rw [espec_l2Add, grd_of (lim_add h _), nam_eq]
  have : IntKind.wrap .i64 (ni (p.map eN ++ [eN x]).length - 1) = p.length := by
    rw [w64 (by simp only [ni]; omega) (by simp only [ni, List.length_append, List.length_map, List.length_cons, List.length_nil]; omega)]
    simp [ni]
  rw [this]; simp

noncomputable def mvNode (pre : List Int) (x : Nd) : Nd :=
  if x.kind = 5 then ⟨x.kind, x.n, x.s, pre.getD x.a.toNat 0, pre.getD x.b.toNat 0⟩
  else if x.kind = 6 ∨ x.kind = 7 then ⟨x.kind, x.n, x.s, pre.getD x.a.toNat 0, x.b⟩ else x
/-- what is told is put behind; where each is then (d: of others) -/
noncomputable def mvGo (d : Int) (q : List Nd) (m : List Bool) : Nat → List Int → List Nd → List Int × List Nd
  | 0, pre, acc => (pre, acc)
  | k + 1, pre, acc => match q[pre.length]?, m[pre.length]? with
    | some x, some true => mvGo d q m k (pre ++ [(acc.length : Int)]) (acc ++ [mvNode pre x])
    | _, _ => mvGo d q m k (pre ++ [d]) acc
theorem set_mid {pre r : List Int} {v u : Int} {i : Nat} (h : pre.length = i) : (pre ++ u :: r).set i v = pre ++ v :: r := by
  subst h; simp
theorem get_mid {pre r : List Int} {u : Int} {i : Nat} (h : pre.length = i) : (pre ++ u :: r)[i]? = some u := by
  subst h; simp
theorem get_left {pre r : List Int} {j : Nat} (h : j < pre.length) : (pre ++ r)[j]? = pre[j]? := List.getElem?_append_left h
theorem get_pre {l pre : List Int} {n : Int} (h0 : 0 ≤ n) (h1 : n < pre.length) (h : ∀ j, j < pre.length → l[j]? = pre[j]?) : ∃ u, l[n.toNat]? = some u ∧ pre[n.toNat]? = some u := by
  obtain ⟨u, hu⟩ := get_of_lt (l := pre) (i := n.toNat) (by omega)
  exact ⟨u, by rw [h _ (by omega), hu], hu⟩
theorem impl_move_loop {q : List Nd} (hp : okPool q = true) {m : List Bool} (hm : m.length = q.length) : ∀ (k i : Nat) (pre : List Int) (acc : List Nd), pre.length = i → i + k = q.length → acc.length + k < 4294967296 →
    Limpl_Pool_moveIn_4 (q.map eN) (ni (q.map eN).length) (i : Int) ((pre ++ List.replicate k 0).map eI) (m.map D.bool) (acc.map eN) = some (.os (1, 0) ((mvGo (-1) q m k pre acc).1.map eI), [rP (mvGo (-1) q m k pre acc).2])
  | 0, i, pre, acc, hpre, hi, hc => by
    rw [Limpl_Pool_moveIn_4_eq, br_not (by rw [List.length_map]; exact ge_idx (by omega))]
    simp [mvGo]
  | k + 1, i, pre, acc, hpre, hi, hc => by
    have hl := okPool_len hp
    obtain ⟨x, hx⟩ := get_of_lt (l := q) (i := i) (by omega)
    obtain ⟨b, hb⟩ := get_of_lt (l := m) (i := i) (by omega)
    have ho := okPool_get hp hx
    have s1 : List.set ((pre ++ List.replicate (k + 1) 0).map eI) i (eI (-1)) = (pre ++ (-1) :: List.replicate k 0).map eI := by
      rw [← List.map_set, List.replicate_succ, set_mid hpre]
    have s2 : ∀ v : Int, List.set ((pre ++ (-1) :: List.replicate k 0).map eI) i (eI v) = (pre ++ [v] ++ List.replicate k 0).map eI := by
      intro v; rw [← List.map_set, set_mid hpre]; simp
    have hz : (pre ++ List.replicate (k + 1) 0)[i]? = some 0 := by rw [List.replicate_succ, get_mid hpre]
    have hz2 : (pre ++ (-1) :: List.replicate k 0)[i]? = some (-1) := get_mid hpre
    rw [Limpl_Pool_moveIn_4_eq, br_of (by rw [List.length_map]; exact lt_idx (by omega)), grd_of (by rw [List.length_map]; exact in_idx (by omega)), Int.toNat_natCast, oget_map hx, nd_all, grd_of (by rw [List.length_map]; exact in_idx (by simp; omega)), oget_map hz, nam_eq, s1, grd_of (by rw [List.length_map]; exact in_idx (by omega)), oget_map hb, asB_bool]
    cases b with
    | false =>
      rw [Bool.not_false, br_true, w64s (by omega)]
      have ih := impl_move_loop hp hm k (i + 1) (pre ++ [-1]) acc (by simp [hpre]) (by omega) (by omega)
      simp only [mvGo, hpre, hx, hb]
      simpa using ih
    | true =>
      rw [Bool.not_true, br_false]
      by_cases h5 : x.kind = 5
      · obtain ⟨a0, a1, b0, b1⟩ := okN_pair ho h5
        obtain ⟨u, hu, hu'⟩ := get_pre (l := (pre ++ (-1) :: List.replicate k 0)) (pre := pre) a0 (by omega) (by intro j hj; exact get_left hj)
        obtain ⟨v, hv, hv'⟩ := get_pre (l := (pre ++ (-1) :: List.replicate k 0)) (pre := pre) b0 (by omega) (by intro j hj; exact get_left hj)
        have e : mvNode pre x = ⟨x.kind, x.n, x.s, u, v⟩ := by simp [mvNode, h5, hu', hv']
        rw [br_of (by simp [h5]), grd_of (by rw [List.length_map]; exact in_int a0 (by simp; omega)), oget_map hu, asI_int, grd_of (by rw [List.length_map]; exact in_int b0 (by simp; omega)), oget_map hv, asI_int]
        have ha := v_add (p := acc) (by omega) ⟨x.kind, x.n, x.s, u, v⟩
        have ih := impl_move_loop hp hm k (i + 1) (pre ++ [(acc.length : Int)]) (acc ++ [⟨x.kind, x.n, x.s, u, v⟩]) (by simp [hpre]) (by omega) (by simp; omega)
        rw [oc_Pool_add ha, grd_of (by rw [List.length_map]; exact in_idx (by simp; omega)), oget_map hz2, nam_eq, s2, w64s (by omega)]
        simp only [mvGo, hpre, hx, hb, e]
        exact ih
      rw [br_not (by simp [h5])]
      by_cases h6 : x.kind = 6
      · obtain ⟨a0, a1⟩ := okN_one ho (.inl h6)
        obtain ⟨u, hu, hu'⟩ := get_pre (l := (pre ++ (-1) :: List.replicate k 0)) (pre := pre) a0 (by omega) (by intro j hj; exact get_left hj)
        have e : mvNode pre x = ⟨x.kind, x.n, x.s, u, x.b⟩ := by simp [mvNode, h6, hu']
        rw [br_of (by simp [h6]), br_of (by simp [h6]), grd_of (by rw [List.length_map]; exact in_int a0 (by simp; omega)), oget_map hu, asI_int]
        have ha := v_add (p := acc) (by omega) ⟨x.kind, x.n, x.s, u, x.b⟩
        have ih := impl_move_loop hp hm k (i + 1) (pre ++ [(acc.length : Int)]) (acc ++ [⟨x.kind, x.n, x.s, u, x.b⟩]) (by simp [hpre]) (by omega) (by simp; omega)
        rw [oc_Pool_add ha, grd_of (by rw [List.length_map]; exact in_idx (by simp; omega)), oget_map hz2, nam_eq, s2, w64s (by omega)]
        simp only [mvGo, hpre, hx, hb, e]
        exact ih
      rw [br_not (by simp [h6])]
      by_cases h7 : x.kind = 7
      · obtain ⟨a0, a1⟩ := okN_one ho (.inr h7)
        obtain ⟨u, hu, hu'⟩ := get_pre (l := (pre ++ (-1) :: List.replicate k 0)) (pre := pre) a0 (by omega) (by intro j hj; exact get_left hj)
        have e : mvNode pre x = ⟨x.kind, x.n, x.s, u, x.b⟩ := by simp [mvNode, h7, hu']
        rw [br_of (by simp [h7]), grd_of (by rw [List.length_map]; exact in_int a0 (by simp; omega)), oget_map hu, asI_int]
        have ha := v_add (p := acc) (by omega) ⟨x.kind, x.n, x.s, u, x.b⟩
        have ih := impl_move_loop hp hm k (i + 1) (pre ++ [(acc.length : Int)]) (acc ++ [⟨x.kind, x.n, x.s, u, x.b⟩]) (by simp [hpre]) (by omega) (by simp; omega)
        rw [oc_Pool_add ha, grd_of (by rw [List.length_map]; exact in_idx (by simp; omega)), oget_map hz2, nam_eq, s2, w64s (by omega)]
        simp only [mvGo, hpre, hx, hb, e]
        exact ih
      rw [br_not (by simp [h7])]
      · have e : mvNode pre x = x := by simp [mvNode, h5, h6, h7]
        have ha := v_add (p := acc) (by omega) x
        have ih := impl_move_loop hp hm k (i + 1) (pre ++ [(acc.length : Int)]) (acc ++ [x]) (by simp [hpre]) (by omega) (by simp; omega)
        rw [oc_Pool_add ha, grd_of (by rw [List.length_map]; exact in_idx (by simp; omega)), oget_map hz2, nam_eq, s2, w64s (by omega)]
        simp only [mvGo, hpre, hx, hb, e]
        exact ih
theorem spec_move_loop {q : List Nd} (hp : okPool q = true) {m : List Bool} (hm : m.length = q.length) : ∀ (k i : Nat) (pre : List Int) (acc : List Nd), pre.length = i → i + k = q.length → acc.length + k < 4294967296 →
    Lspec_l7Into_3 (m.map D.bool) (i : Int) (q.map eN) ((pre ++ List.replicate k 0).map eI) (acc.map eN) = some (.os (1, 0) ((mvGo 0 q m k pre acc).1.map eI), [rP (mvGo 0 q m k pre acc).2])
  | 0, i, pre, acc, hpre, hi, hc => by
    rw [Lspec_l7Into_3_eq, br_not (by rw [List.length_map]; exact ge_idx (by omega))]
    simp [mvGo]
  | k + 1, i, pre, acc, hpre, hi, hc => by
    have hl := okPool_len hp
    obtain ⟨x, hx⟩ := get_of_lt (l := q) (i := i) (by omega)
    obtain ⟨b, hb⟩ := get_of_lt (l := m) (i := i) (by omega)
    have ho := okPool_get hp hx
    have s2 : ∀ v : Int, List.set ((pre ++ List.replicate (k + 1) 0).map eI) i (eI v) = (pre ++ [v] ++ List.replicate k 0).map eI := by
      intro v; rw [← List.map_set, List.replicate_succ, set_mid hpre]; simp
    have hz2 : (pre ++ List.replicate (k + 1) 0)[i]? = some 0 := by rw [List.replicate_succ, get_mid hpre]
    rw [Lspec_l7Into_3_eq, br_of (by rw [List.length_map]; exact lt_idx (by omega)), grd_of (by rw [List.length_map]; exact in_idx (by omega)), Int.toNat_natCast, oget_map hb, asB_bool]
    cases b with
    | false =>
      rw [Bool.not_false, br_true, w64s (by omega)]
      have ih := spec_move_loop hp hm k (i + 1) (pre ++ [0]) acc (by simp [hpre]) (by omega) (by omega)
      simp only [mvGo, hpre, hx, hb]
      simpa [List.replicate_succ] using ih
    | true =>
      rw [Bool.not_true, br_false, grd_of (by rw [List.length_map]; exact in_idx (by omega)), oget_map hx, nd_all]
      by_cases h5 : x.kind = 5
      · obtain ⟨a0, a1, b0, b1⟩ := okN_pair ho h5
        obtain ⟨u, hu, hu'⟩ := get_pre (l := (pre ++ List.replicate (k + 1) 0)) (pre := pre) a0 (by omega) (by intro j hj; exact get_left hj)
        obtain ⟨v, hv, hv'⟩ := get_pre (l := (pre ++ List.replicate (k + 1) 0)) (pre := pre) b0 (by omega) (by intro j hj; exact get_left hj)
        have e : mvNode pre x = ⟨x.kind, x.n, x.s, u, v⟩ := by simp [mvNode, h5, hu', hv']
        rw [br_of (by simp [h5]), grd_of (by rw [List.length_map]; exact in_int a0 (by simp; omega)), oget_map hu, asI_int, grd_of (by rw [List.length_map]; exact in_int b0 (by simp; omega)), oget_map hv, asI_int]
        have ha := v_l2Add (p := acc) (by omega) ⟨x.kind, x.n, x.s, u, v⟩
        have ih := spec_move_loop hp hm k (i + 1) (pre ++ [(acc.length : Int)]) (acc ++ [⟨x.kind, x.n, x.s, u, v⟩]) (by simp [hpre]) (by omega) (by simp; omega)
        rw [oc_s_l2Add ha, grd_of (by rw [List.length_map]; exact in_idx (by simp; omega)), oget_map hz2, nam_eq, s2, w64s (by omega)]
        simp only [mvGo, hpre, hx, hb, e]
        exact ih
      rw [br_not (by simp [h5])]
      by_cases h6 : x.kind = 6
      · obtain ⟨a0, a1⟩ := okN_one ho (.inl h6)
        obtain ⟨u, hu, hu'⟩ := get_pre (l := (pre ++ List.replicate (k + 1) 0)) (pre := pre) a0 (by omega) (by intro j hj; exact get_left hj)
        have e : mvNode pre x = ⟨x.kind, x.n, x.s, u, x.b⟩ := by simp [mvNode, h6, hu']
        rw [br_of (by simp [h6]), br_of (by simp [h6]), grd_of (by rw [List.length_map]; exact in_int a0 (by simp; omega)), oget_map hu, asI_int]
        have ha := v_l2Add (p := acc) (by omega) ⟨x.kind, x.n, x.s, u, x.b⟩
        have ih := spec_move_loop hp hm k (i + 1) (pre ++ [(acc.length : Int)]) (acc ++ [⟨x.kind, x.n, x.s, u, x.b⟩]) (by simp [hpre]) (by omega) (by simp; omega)
        rw [oc_s_l2Add ha, grd_of (by rw [List.length_map]; exact in_idx (by simp; omega)), oget_map hz2, nam_eq, s2, w64s (by omega)]
        simp only [mvGo, hpre, hx, hb, e]
        exact ih
      rw [br_not (by simp [h6])]
      by_cases h7 : x.kind = 7
      · obtain ⟨a0, a1⟩ := okN_one ho (.inr h7)
        obtain ⟨u, hu, hu'⟩ := get_pre (l := (pre ++ List.replicate (k + 1) 0)) (pre := pre) a0 (by omega) (by intro j hj; exact get_left hj)
        have e : mvNode pre x = ⟨x.kind, x.n, x.s, u, x.b⟩ := by simp [mvNode, h7, hu']
        rw [br_of (by simp [h7]), grd_of (by rw [List.length_map]; exact in_int a0 (by simp; omega)), oget_map hu, asI_int]
        have ha := v_l2Add (p := acc) (by omega) ⟨x.kind, x.n, x.s, u, x.b⟩
        have ih := spec_move_loop hp hm k (i + 1) (pre ++ [(acc.length : Int)]) (acc ++ [⟨x.kind, x.n, x.s, u, x.b⟩]) (by simp [hpre]) (by omega) (by simp; omega)
        rw [oc_s_l2Add ha, grd_of (by rw [List.length_map]; exact in_idx (by simp; omega)), oget_map hz2, nam_eq, s2, w64s (by omega)]
        simp only [mvGo, hpre, hx, hb, e]
        exact ih
      rw [br_not (by simp [h7])]
      · have e : mvNode pre x = x := by simp [mvNode, h5, h6, h7]
        have ha := v_l2Add (p := acc) (by omega) x
        have ih := spec_move_loop hp hm k (i + 1) (pre ++ [(acc.length : Int)]) (acc ++ [x]) (by simp [hpre]) (by omega) (by simp; omega)
        rw [oc_s_l2Add ha, grd_of (by rw [List.length_map]; exact in_idx (by simp; omega)), oget_map hz2, nam_eq, s2, w64s (by omega)]
        simp only [mvGo, hpre, hx, hb, e]
        exact ih
end Go.Eng
