/- what is kept: both sides keep the same -/
import Derived.Test.YtgoidfkdnkjojaaMove
namespace Go.Eng
open Go.Proofs Go.Proofs.Try

theorem reachL_length (p : List Nd) (rs : List Int) : (reachL p rs).length = p.length := by
  unfold reachL; rw [reachGo_length, rootsM_length]; simp
noncomputable def moveP (d : Int) (q : List Nd) (rs : List Int) (acc : List Nd) : List Int × List Nd := mvGo d q (reachL q rs) q.length [] acc
theorem rep_zero {n : Nat} : List.replicate (Int.toNat (ni n)) (D.int .i64 0) = (List.replicate n (0 : Int)).map eI := by simp [ni]
theorem v_moveIn {q acc : List Nd} (hp : okPool q = true) {rs : List Int} (h2 : rs.length < 4611686018427387904) (hr : rootsIn q rs = true) (hc : acc.length + q.length < 4294967296) :
    V 115 [rP acc, eP q, .rs (1, 0) (rs.map eI)] = some (.os (1, 0) ((moveP (-1) q rs acc).1.map eI), [rP (moveP (-1) q rs acc).2]) := by
  have e : (q.map eN).length = q.length := List.length_map _
  have h := impl_move_loop hp (reachL_length q rs) q.length 0 [] acc rfl (Nat.zero_add _) hc
  rw [List.nil_append] at h
  rw [eimpl_Pool_moveIn, grd_of (lim_len (by omega)), oc_i_reach (v_reach hp h2 hr)]
  have h0 : List.replicate (Int.toNat (ni (q.map eN).length)) (D.int .i64 0) = (List.replicate q.length (0 : Int)).map eI := by rw [e]; exact rep_zero
  rw [h0]
  exact h
theorem v_l7Into {q acc : List Nd} (hp : okPool q = true) {rs : List Int} (hc : acc.length + q.length < 4294967296) :
    V 116 [rP acc, eP q, .rs (1, 0) ((reachL q rs).map D.bool)] = some (.os (1, 0) ((moveP 0 q rs acc).1.map eI), [rP (moveP 0 q rs acc).2]) := by
  have e : (q.map eN).length = q.length := List.length_map _
  have h := spec_move_loop hp (reachL_length q rs) q.length 0 [] acc rfl (Nat.zero_add _) hc
  rw [List.nil_append] at h
  have h0 : List.replicate (Int.toNat (ni (q.map eN).length)) (D.int .i64 0) = (List.replicate q.length (0 : Int)).map eI := by rw [e]; exact rep_zero
  rw [espec_l7Into, grd_of (lim_len (by omega)), h0]
  exact h

theorem mvGo_length (d : Int) (q : List Nd) (m : List Bool) : ∀ (k : Nat) (pre : List Int) (acc : List Nd), (mvGo d q m k pre acc).1.length = pre.length + k
  | 0, pre, acc => rfl
  | k + 1, pre, acc => by
    simp only [mvGo]
    split
    · rw [mvGo_length d q m k]; simp; omega
    · rw [mvGo_length d q m k]; simp; omega
theorem mvGo_acc (d : Int) (q : List Nd) (m : List Bool) : ∀ (k : Nat) (pre : List Int) (acc : List Nd), (mvGo d q m k pre acc).2.length ≤ acc.length + k
  | 0, pre, acc => Nat.le_refl _
  | k + 1, pre, acc => by
    simp only [mvGo]
    split
    · have := mvGo_acc d q m k (pre ++ [(acc.length : Int)]) (acc ++ [mvNode pre ‹Nd›]); simp at this; omega
    · have := mvGo_acc d q m k (pre ++ [d]) acc; omega

/-! ## keep -/
noncomputable def keepP (d : Int) (q : List Nd) (rs : List Int) : List Nd × List Int := ((moveP d q rs []).2, rs.map fun r => (moveP d q rs []).1.getD r.toNat 0)
theorem lim_int {l : List Int} (h : l.length < 4294967296) (x : D) : decide (ni (l.map eI ++ [x]).length ≤ LIM) = true :=
  decide_eq_true (by rw [LIM_eq]; simp only [ni, List.length_append, List.length_map, List.length_cons, List.length_nil]; omega)
theorem impl_keep_loop {n : Nat} {a : List Int} (ha : a.length = n) {p : List D} {l : List Int} (h2 : l.length < 4294967296) (hr : ∀ r ∈ l, 0 ≤ r ∧ r < (n : Int)) : ∀ (k i : Nat) (out : List Int), i + k = l.length → out.length = i → Limpl_keep_5 (l.map eI) (ni (l.map eI).length) (i : Int) (a.map eI) (out.map eI) p = some (.tup [.agg [.os (5, 0) p], .os (1, 0) ((out ++ (l.drop i).map fun r => a.getD r.toNat 0).map eI)], [])
  | 0, i, out, hi, ho => by
    rw [Limpl_keep_5_eq, br_not (by rw [List.length_map]; exact ge_idx (by omega)), List.drop_of_length_le (by omega)]; simp
  | k + 1, i, out, hi, ho => by
    obtain ⟨x, hx⟩ := get_of_lt (l := l) (i := i) (by omega)
    have hx2 := hr x (List.mem_of_getElem? hx)
    obtain ⟨u, hu⟩ := get_int (l := a) (n := x) hx2.1 (by omega)
    have e : out.map eI ++ [D.int .i64 u] = (out ++ [u]).map eI := by simp
    have eg : a.getD x.toNat 0 = u := by simp [hu]
    rw [Limpl_keep_5_eq, br_of (by rw [List.length_map]; exact lt_idx (by omega)), grd_of (by rw [List.length_map]; exact in_idx (by omega)), Int.toNat_natCast, oget_map hx, asI_int, grd_of (by rw [List.length_map]; exact in_int hx2.1 (by omega)), oget_map hu, asI_int, grd_of (lim_int (by omega) _), nam_eq, w64s (by omega), e, drop_at hx, List.map_cons, eg]
    have ih := impl_keep_loop ha (p := p) h2 hr k (i + 1) (out ++ [u]) (by omega) (by simp; omega)
    rw [List.append_assoc] at ih
    exact ih
theorem spec_keep_loop {n : Nat} {a : List Int} (ha : a.length = n) {p : List D} {l : List Int} (h2 : l.length < 4294967296) (hr : ∀ r ∈ l, 0 ≤ r ∧ r < (n : Int)) : ∀ (k i : Nat) (out : List Int), i + k = l.length → out.length = i → Lspec_l7Keep_5 (l.map eI) (i : Int) (a.map eI) (out.map eI) p = some (.tup [.agg [.os (5, 0) p], .os (1, 0) ((out ++ (l.drop i).map fun r => a.getD r.toNat 0).map eI)], [])
  | 0, i, out, hi, ho => by
    rw [Lspec_l7Keep_5_eq, br_not (by rw [List.length_map]; exact ge_idx (by omega)), List.drop_of_length_le (by omega)]; simp
  | k + 1, i, out, hi, ho => by
    obtain ⟨x, hx⟩ := get_of_lt (l := l) (i := i) (by omega)
    have hx2 := hr x (List.mem_of_getElem? hx)
    obtain ⟨u, hu⟩ := get_int (l := a) (n := x) hx2.1 (by omega)
    have e : out.map eI ++ [D.int .i64 u] = (out ++ [u]).map eI := by simp
    have eg : a.getD x.toNat 0 = u := by simp [hu]
    rw [Lspec_l7Keep_5_eq, br_of (by rw [List.length_map]; exact lt_idx (by omega)), grd_of (by rw [List.length_map]; exact in_idx (by omega)), Int.toNat_natCast, oget_map hx, asI_int, grd_of (by rw [List.length_map]; exact in_int hx2.1 (by omega)), oget_map hu, asI_int, grd_of (lim_int (by omega) _), nam_eq, w64s (by omega), e, drop_at hx, List.map_cons, eg]
    have ih := spec_keep_loop ha (p := p) h2 hr k (i + 1) (out ++ [u]) (by omega) (by simp; omega)
    rw [List.append_assoc] at ih
    exact ih
theorem rootsIn_lt {p : List Nd} {rs : List Int} (hr : rootsIn p rs = true) : ∀ r ∈ rs, 0 ≤ r ∧ r < (p.length : Int) := by
  intro r h
  have := wi_iff.1 (List.all_eq_true.1 hr r h)
  omega
theorem v_keep {q : List Nd} (hp : okPool q = true) {rs : List Int} (h2 : rs.length < 4294967296) (hr : rootsIn q rs = true) :
    V 56 [eP q, .rs (1, 0) (rs.map eI)] = some (.tup [oP (keepP (-1) q rs).1, .os (1, 0) ((keepP (-1) q rs).2.map eI)], []) := by
  have hl := okPool_len hp
  have hm : V 115 [.op [.os (5, 0) []], eP q, .rs (1, 0) (rs.map eI)] = _ := v_moveIn (acc := []) hp (rs := rs) (by omega) hr (by simp; omega)
  have h := impl_keep_loop (mvGo_length (-1) q (reachL q rs) q.length [] []) (p := (moveP (-1) q rs []).2.map eN) h2 (by simpa using rootsIn_lt hr) rs.length 0 [] (Nat.zero_add _) rfl
  rw [eimpl_keep, oc_Pool_moveIn hm]
  exact h
theorem v_l7Keep {q : List Nd} (hp : okPool q = true) {rs : List Int} (h2 : rs.length < 4294967296) (hr : rootsIn q rs = true) :
    V 58 [eP q, .rs (1, 0) (rs.map eI)] = some (.tup [oP (keepP 0 q rs).1, .os (1, 0) ((keepP 0 q rs).2.map eI)], []) := by
  have hl := okPool_len hp
  have hm : V 116 [.op [.os (5, 0) []], eP q, .rs (1, 0) ((reachL q rs).map D.bool)] = _ := v_l7Into (acc := []) hp (rs := rs) (by simp; omega)
  have h := spec_keep_loop (mvGo_length 0 q (reachL q rs) q.length [] []) (p := (moveP 0 q rs []).2.map eN) h2 (by simpa using rootsIn_lt hr) rs.length 0 [] (Nat.zero_add _) rfl
  rw [espec_l7Keep, oc_s_l7Reach (v_l7Reach hp (by omega) hr), oc_s_l7Into hm]
  exact h

/-! ## what is reached is closed -/
noncomputable def On (m : List Bool) (n : Int) : Prop := m[n.toNat]? = some true
theorem set_on {m : List Bool} {j i : Nat} (h : m[j]? = some true) : (m.set i true)[j]? = some true := by
  by_cases e : i = j
  · subst e; simp [lt_of_get h]
  · rw [List.getElem?_set_ne e]; exact h
theorem set_self {m : List Bool} {i : Nat} (h : i < m.length) : (m.set i true)[i]? = some true := by simp [h]
theorem mkKids_on {x : Nd} {m : List Bool} {j : Nat} (h : m[j]? = some true) : (mkKids x m)[j]? = some true := by
  unfold mkKids
  split
  · exact set_on (set_on h)
  · split
    · exact set_on h
    · exact h
theorem reachGo_on {p : List Nd} : ∀ (k : Nat) {m : List Bool} {j : Nat}, m[j]? = some true → (reachGo p k m)[j]? = some true
  | 0, m, j, h => h
  | k + 1, m, j, h => by
    simp only [reachGo]
    apply reachGo_on k
    split
    · exact mkKids_on h
    · exact h
theorem mkKids_hi {p : List Nd} (hp : okPool p = true) {k : Nat} {x : Nd} (hx : p[k]? = some x) {m : List Bool} {j : Nat} (h : k ≤ j) : (mkKids x m)[j]? = m[j]? := by
  have ho := okPool_get hp hx
  unfold mkKids
  split
  · rename_i h5
    have := okN_pair ho h5
    rw [List.getElem?_set_ne (by omega), List.getElem?_set_ne (by omega)]
  · split
    · rename_i h6
      have := okN_one ho h6
      rw [List.getElem?_set_ne (by omega)]
    · rfl
theorem reachGo_hi {p : List Nd} (hp : okPool p = true) : ∀ (k : Nat) {m : List Bool} {j : Nat}, k ≤ j → (reachGo p k m)[j]? = m[j]?
  | 0, m, j, h => rfl
  | k + 1, m, j, h => by
    simp only [reachGo]
    rw [reachGo_hi hp k (by omega)]
    split
    · rename_i x hx _; exact mkKids_hi hp ‹_› (by omega)
    · rfl
/-- all that a reached node has is reached -/
noncomputable def Closed (p : List Nd) (m : List Bool) : Prop := ∀ (i : Nat) (x : Nd), p[i]? = some x → m[i]? = some true → (x.kind = 5 → On m x.a ∧ On m x.b) ∧ (x.kind = 6 ∨ x.kind = 7 → On m x.a)
theorem reachGo_closed {p : List Nd} (hp : okPool p = true) : ∀ (k : Nat) {m : List Bool}, m.length = p.length → ∀ (i : Nat) (x : Nd), i < k → p[i]? = some x → (reachGo p k m)[i]? = some true → (x.kind = 5 → On (reachGo p k m) x.a ∧ On (reachGo p k m) x.b) ∧ (x.kind = 6 ∨ x.kind = 7 → On (reachGo p k m) x.a)
  | 0, m, hm, i, x, hi, _, _ => by omega
  | k + 1, m, hm, i, x, hi, hx, hr => by
    by_cases e : i = k
    · subst e
      have ho := okPool_get hp hx
      rw [reachGo] at hr ⊢
      have hmi : m[i]? = some true := by
        rw [reachGo_hi hp i (Nat.le_refl _)] at hr
        split at hr
        · assumption
        · exact hr
      rw [hx, hmi]
      show (_ → On (reachGo p i (mkKids x m)) x.a ∧ On (reachGo p i (mkKids x m)) x.b) ∧ (_ → On (reachGo p i (mkKids x m)) x.a)
      have hlt := lt_of_get hx
      refine ⟨fun h5 => ?_, fun h6 => ?_⟩
      · have := okN_pair ho h5
        have ea : (mkKids x m)[x.a.toNat]? = some true := by
          simp only [mkKids, h5, if_true]
          exact set_on (set_self (by omega))
        have eb : (mkKids x m)[x.b.toNat]? = some true := by
          simp only [mkKids, h5, if_true]
          exact set_self (by simp; omega)
        exact ⟨reachGo_on i ea, reachGo_on i eb⟩
      · have := okN_one ho h6
        have ea : (mkKids x m)[x.a.toNat]? = some true := by
          have h5 : ¬ x.kind = 5 := by omega
          simp only [mkKids, h5, h6, if_false, if_true]
          exact set_self (by omega)
        exact reachGo_on i ea
    · rw [reachGo] at hr ⊢
      refine reachGo_closed hp k ?_ i x (by omega) hx hr
      split
      · rw [mkKids_length]; exact hm
      · exact hm
theorem reachL_closed {p : List Nd} (hp : okPool p = true) (rs : List Int) : Closed p (reachL p rs) := by
  intro i x hx hr
  exact reachGo_closed hp p.length (by rw [rootsM_length]; simp) i x (lt_of_get hx) hx hr
theorem rootsM_on {rs : List Int} : ∀ {m : List Bool} {r : Int}, (r ∈ rs ∧ r.toNat < m.length) ∨ m[r.toNat]? = some true → (rootsM rs m)[r.toNat]? = some true := by
  induction rs with
  | nil => intro m r h; rcases h with h | h; exact absurd h.1 (by simp); exact h
  | cons q rs ih =>
    intro m r h
    show (rootsM rs (m.set q.toNat true))[r.toNat]? = some true
    apply ih
    rcases h with ⟨h, hl⟩ | h
    · rcases List.mem_cons.1 h with rfl | h
      · right; simp [hl]
      · left; exact ⟨h, by simpa using hl⟩
    · right; exact set_on h
theorem reachL_root {p : List Nd} {rs : List Int} (hr : rootsIn p rs = true) : ∀ r ∈ rs, On (reachL p rs) r := by
  intro r h
  have := rootsIn_lt hr r h
  exact reachGo_on _ (rootsM_on (.inl ⟨h, by simp; omega⟩))

/-! ## where an unreached node is said to be does not matter -/
theorem mvGo_same {q : List Nd} (hp : okPool q = true) {m : List Bool} (hc : Closed q m) (hm : m.length = q.length) (d d' : Int) : ∀ (k : Nat) (pre pre' : List Int) (acc : List Nd), pre.length = pre'.length → pre.length + k = q.length → (∀ j : Nat, m[j]? = some true → pre[j]? = pre'[j]?) →
    (mvGo d q m k pre acc).2 = (mvGo d' q m k pre' acc).2 ∧ ∀ j : Nat, m[j]? = some true → (mvGo d q m k pre acc).1[j]? = (mvGo d' q m k pre' acc).1[j]?
  | 0, pre, pre', acc, hl, hk, h => ⟨rfl, h⟩
  | k + 1, pre, pre', acc, hl, hk, h => by
    obtain ⟨x, hx⟩ := get_of_lt (l := q) (i := pre.length) (by omega)
    obtain ⟨b, hb⟩ := get_of_lt (l := m) (i := pre.length) (by omega)
    have step : ∀ (u u' : Int), (b = true → u = u') → ∀ j : Nat, m[j]? = some true → (pre ++ [u])[j]? = (pre' ++ [u'])[j]? := by
      intro u u' huu j hj
      rcases Nat.lt_trichotomy j pre.length with h1 | h1 | h1
      · rw [List.getElem?_append_left h1, List.getElem?_append_left (by omega)]; exact h j hj
      · subst h1
        rw [hb] at hj; cases hj
        rw [List.getElem?_append_right (Nat.le_refl _), hl, List.getElem?_append_right (Nat.le_refl _), huu rfl]
      · rw [List.getElem?_eq_none (by simp; omega), List.getElem?_eq_none (by simp; omega)]
    have hb' := hb
    have hx' := hx
    rw [hl] at hb' hx'
    simp only [mvGo, hx, hb, hx', hb']
    cases b with
    | false => exact mvGo_same hp hc hm d d' k _ _ acc (by simp; omega) (by simp; omega) (step d d' (fun h => by cases h))
    | true =>
      have hcl := hc _ x hx hb
      have e : mvNode pre x = mvNode pre' x := by
        unfold mvNode
        split
        · rename_i h5
          have h1 := h _ (hcl.1 h5).1
          have h2 := h _ (hcl.1 h5).2
          simp only [List.getD_eq_getElem?_getD, h1, h2]
        · split
          · rename_i h6
            have h1 := h _ (hcl.2 h6)
            simp only [List.getD_eq_getElem?_getD, h1]
          · rfl
      have ih := mvGo_same hp hc hm d d' k (pre ++ [(acc.length : Int)]) (pre' ++ [(acc.length : Int)]) (acc ++ [mvNode pre x]) (by simp; omega) (by simp; omega) (step _ _ (fun _ => rfl))
      rw [e] at ih
      simp only [e]
      exact ih
theorem keepP_same {q : List Nd} (hp : okPool q = true) {rs : List Int} (hr : rootsIn q rs = true) (d d' : Int) : keepP d q rs = keepP d' q rs := by
  have h := mvGo_same hp (reachL_closed hp rs) (reachL_length q rs) d d' q.length [] [] [] rfl (Nat.zero_add _) (fun _ _ => rfl)
  unfold keepP
  refine Prod.ext h.1 ?_
  apply List.map_congr_left
  intro r hm
  have := h.2 r.toNat (reachL_root hr r hm)
  simp only [List.getD_eq_getElem?_getD]
  exact congrArg (fun o => Option.getD o 0) this
end Go.Eng
