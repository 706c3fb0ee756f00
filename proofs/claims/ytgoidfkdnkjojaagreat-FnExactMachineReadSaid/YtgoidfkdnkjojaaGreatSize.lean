/- how great a value is, the program's side -/
import Derived.Test.YtgoidfkdnkjojaaGreatKeep2
namespace Go.Eng
open Go.Proofs Go.Proofs.Tryz

noncomputable def szOf (pre : List Int) (x : Nd) : Int :=
  if x.kind = 5 then mnI (1 + (pre.getD x.a.toNat 0 + pre.getD x.b.toNat 0)) 1000000000
  else if x.kind = 6 ∨ x.kind = 7 then mnI (1 + pre.getD x.a.toNat 0) 1000000000 else mnI 1 1000000000
noncomputable def szGo (p : List Nd) : Nat → List Int → List Int
  | 0, pre => pre
  | k + 1, pre => match p[pre.length]? with
    | some x => szGo p k (pre ++ [szOf pre x])
    | none => szGo p k (pre ++ [0])
noncomputable def Small (l : List Int) : Prop := ∀ x ∈ l, 0 ≤ x ∧ x ≤ 1000000000
theorem getD_small {l : List Int} (h : Small l) (i : Nat) : 0 ≤ l.getD i 0 ∧ l.getD i 0 ≤ 1000000000 := by
  rw [List.getD_eq_getElem?_getD]
  cases e : l[i]? with
  | none => simp
  | some x => exact h x (List.mem_of_getElem? e)
theorem szOf_small {pre : List Int} (h : Small pre) (x : Nd) : 0 ≤ szOf pre x ∧ szOf pre x ≤ 1000000000 := by
  have h1 := getD_small h x.a.toNat
  have h2 := getD_small h x.b.toNat
  unfold szOf mnI
  split
  · split <;> omega
  · split
    · split <;> omega
    · split <;> omega
theorem small_snoc {l : List Int} {x : Int} (h : Small l) (hx : 0 ≤ x ∧ x ≤ 1000000000) : Small (l ++ [x]) := by
  intro y hy
  rcases List.mem_append.1 hy with hy | hy
  · exact h y hy
  · simp at hy; subst hy; exact hx
theorem szGo_length (p : List Nd) : ∀ (k : Nat) (pre : List Int), (szGo p k pre).length = pre.length + k
  | 0, pre => rfl
  | k + 1, pre => by
    simp only [szGo]
    split <;> (rw [szGo_length p k]; simp; omega)
noncomputable def sizeP (p : List Nd) (v : Int) : Int := if okPool p = true ∧ wi v 0 ((p.length : Int) - 1) = true then (szGo p p.length []).getD v.toNat 0 else 0
end Go.Eng
