/- how great a value is, the program's side -/
import Derived.Test.YtgoidfkdnkjojaaKeep2
namespace Go.Eng
open Go.Proofs Go.Proofs.Try

noncomputable def szOf (pre : List Int) (x : Nd) : Int :=
  if x.kind = 5 then mnI (1 + (pre.getD x.a.toNat 0 + pre.getD x.b.toNat 0)) 1000000000
  else if x.kind = 6 ∨ x.kind = 7 then mnI (1 + pre.getD x.a.toNat 0) 1000000000 else mnI 1 1000000000
noncomputable def szGo (p : List Nd) : Nat → List Int → List Int
  | 0, pre => pre
  | k + 1, pre => match p[pre.length]? with
    | some x => szGo p k (pre ++ [szOf pre x])
    | none => szGo p k (pre ++ [0])
noncomputable def Small (l : List Int) : Prop := ∀ x ∈ l, 0 ≤ x ∧ x ≤ 1000000000
theorem getD_small {l : List Int} (h : Small l) (i : Nat) : 0 ≤ l.getD i 0 ∧ l.getD i 0 ≤ 1000000000 := by
  rw [List.getD_eq_getElem?_getD]
  cases e : l[i]? with
  | none => simp
  | some x => exact h x (List.mem_of_getElem? e)
theorem szOf_small {pre : List Int} (h : Small pre) (x : Nd) : 0 ≤ szOf pre x ∧ szOf pre x ≤ 1000000000 := by
  have h1 := getD_small h x.a.toNat
  have h2 := getD_small h x.b.toNat
  unfold szOf mnI
  split
  · split <;> omega
  · split
    · split <;> omega
    · split <;> omega
theorem small_snoc {l : List Int} {x : Int} (h : Small l) (hx : 0 ≤ x ∧ x ≤ 1000000000) : Small (l ++ [x]) := by
  intro y hy
  rcases List.mem_append.1 hy with hy | hy
  · exact h y hy
  · simp at hy; subst hy; exact hx
theorem szGo_length (p : List Nd) : ∀ (k : Nat) (pre : List Int), (szGo p k pre).length = pre.length + k
  | 0, pre => rfl
  | k + 1, pre => by
    simp only [szGo]
    split <;> (rw [szGo_length p k]; simp; omega)
theorem size_loop {p : List Nd} (hp : okPool p = true) (v : Nat) (hv : v < p.length) : ∀ (k i : Nat) (pre : List Int), pre.length = i → i + k = p.length → Small pre →
    Limpl_SizeOf_5 (v : Int) (p.map eN) (ni (p.map eN).length) (i : Int) (pre.map eI) = some (.int .i64 ((szGo p k pre).getD v 0), [])
  | 0, i, pre, hpre, hi, hs => by
    obtain ⟨u, hu⟩ := get_of_lt (l := pre) (i := v) (by omega)
    rw [Limpl_SizeOf_5_eq, br_not (by rw [List.length_map]; exact ge_idx (by omega)), grd_of (by rw [List.length_map]; exact in_idx (by omega)), Int.toNat_natCast, oget_map hu, asI_int]
    simp [szGo, hu]
  | k + 1, i, pre, hpre, hi, hs => by
    have hl := okPool_len hp
    obtain ⟨x, hx⟩ := get_of_lt (l := p) (i := i) (by omega)
    have ho := okPool_get hp hx
    have hsm := szOf_small hs x
    have ih := size_loop hp v hv k (i + 1) (pre ++ [szOf pre x]) (by simp; omega) (by omega) (small_snoc hs hsm)
    have es : szGo p (k + 1) pre = szGo p k (pre ++ [szOf pre x]) := by simp only [szGo, hpre, hx]
    have ea : ∀ u : Int, pre.map eI ++ [D.int .i64 u] = (pre ++ [u]).map eI := by simp
    rw [es, Limpl_SizeOf_5_eq, br_of (by rw [List.length_map]; exact lt_idx (by omega)), grd_of (by rw [List.length_map]; exact in_idx (by omega)), Int.toNat_natCast, oget_map hx, nd_all]
    by_cases h5 : x.kind = 5
    · obtain ⟨a0, a1, b0, b1⟩ := okN_pair ho h5
      obtain ⟨u, hu⟩ := get_int (l := pre) (n := x.a) a0 (by omega)
      obtain ⟨w, hw⟩ := get_int (l := pre) (n := x.b) b0 (by omega)
      have h1 := hs u (List.mem_of_getElem? hu)
      have h2 := hs w (List.mem_of_getElem? hw)
      have e : szOf pre x = mnI (1 + (u + w)) 1000000000 := by simp [szOf, h5, hu, hw]
      rw [br_of (by simp [h5]), grd_of (by rw [List.length_map]; exact in_int a0 (by omega)), oget_map hu, asI_int, grd_of (by rw [List.length_map]; exact in_int b0 (by omega)), oget_map hw, asI_int, grd_of (lim_int (by omega) _), nam_eq, w64s (by omega), w64 (n := u + w) (by omega) (by omega), w64 (n := 1 + (u + w)) (by omega) (by omega), ← e, ea]
      exact ih
    rw [br_not (by simp [h5])]
    by_cases h6 : x.kind = 6
    · obtain ⟨a0, a1⟩ := okN_one ho (.inl h6)
      obtain ⟨u, hu⟩ := get_int (l := pre) (n := x.a) a0 (by omega)
      have h1 := hs u (List.mem_of_getElem? hu)
      have e : szOf pre x = mnI (1 + u) 1000000000 := by simp [szOf, h6, hu]
      rw [br_of (by simp [h6]), br_of (by simp [h6]), grd_of (by rw [List.length_map]; exact in_int a0 (by omega)), oget_map hu, asI_int, grd_of (lim_int (by omega) _), nam_eq, w64s (by omega), w64 (n := 1 + u) (by omega) (by omega), ← e, ea]
      exact ih
    rw [br_not (by simp [h6])]
    by_cases h7 : x.kind = 7
    · obtain ⟨a0, a1⟩ := okN_one ho (.inr h7)
      obtain ⟨u, hu⟩ := get_int (l := pre) (n := x.a) a0 (by omega)
      have h1 := hs u (List.mem_of_getElem? hu)
      have e : szOf pre x = mnI (1 + u) 1000000000 := by simp [szOf, h7, hu]
      rw [br_of (by simp [h7]), grd_of (by rw [List.length_map]; exact in_int a0 (by omega)), oget_map hu, asI_int, grd_of (lim_int (by omega) _), nam_eq, w64s (by omega), w64 (n := 1 + u) (by omega) (by omega), ← e, ea]
      exact ih
    rw [br_not (by simp [h7])]
    have e : szOf pre x = mnI 1 1000000000 := by simp [szOf, h5, h6, h7]
    rw [grd_of (lim_int (by omega) _), nam_eq, w64s (by omega), ← e, ea]
    exact ih
noncomputable def sizeP (p : List Nd) (v : Int) : Int := if okPool p = true ∧ wi v 0 ((p.length : Int) - 1) = true then (szGo p p.length []).getD v.toNat 0 else 0
theorem v_SizeOf {p : List Nd} (hf : Fits p) (hl : p.length < 4611686018427387904) (v : Int) : V 17 [eP p, .int .i64 v] = some (.int .i64 (sizeP p v), []) := by
  rw [eimpl_SizeOf, oc_i_PoolOk (v_impl_PoolOk hf hl)]
  unfold sizeP
  cases hp : okPool p with
  | false => rw [Bool.not_false, br_true, if_neg (by simp)]
  | true =>
    rw [Bool.not_true, br_false, oc_i_isNode (v_isNode hl v)]
    cases hv : wi v 0 ((p.length : Int) - 1) with
    | false => rw [Bool.not_false, br_true, if_neg (by simp)]
    | true =>
      have h := wi_iff.1 hv
      obtain ⟨n, rfl⟩ := Int.eq_ofNat_of_zero_le h.1
      rw [Bool.not_true, br_false, if_pos ⟨rfl, rfl⟩]
      exact size_loop hp n (by omega) p.length 0 [] rfl (Nat.zero_add _) (fun _ h => by simp at h)
end Go.Eng
