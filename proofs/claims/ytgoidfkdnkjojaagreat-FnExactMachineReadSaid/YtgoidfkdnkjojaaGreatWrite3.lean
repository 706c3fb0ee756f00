/- what is written of a value: the program's side -/
import Derived.Test.YtgoidfkdnkjojaaGreatWrite2
import Derived.Test.YtgoidfkdnkjojaaGreatEngC
namespace Go.Eng
open Go.Proofs Go.Proofs.Tryz

theorem lit (l : List UInt8) : (ByteArray.mk l.toArray) = mk l := rfl
noncomputable abbrev wO (p : List Nd) (o : List UInt8) : D := .op [.rs (5, 0) (p.map eN), .os (1, 0) (o.map eU)]
theorem wm_atom {p : List Nd} (hp : okPool p = true) (g : Nat) {v : Nat} {x : Nd} (hx : p[v]? = some x) (h5 : ¬ x.kind = 5) (h1 : ¬ x.kind = 1) (out : List UInt8) :
    (out.length ≤ 400 → (wm p g none v out).length ≤ 440) ∧ (400 < out.length → (wm p g none v out).length = out.length) := by
  cases g with
  | zero => simp only [wm]; exact ⟨fun h => by omega, fun h => trivial⟩
  | succ g =>
    have := atomB_len (okPool_get hp hx)
    simp only [wm, hx]
    refine ⟨fun h => ?_, fun h => by rw [if_pos h]⟩
    rw [if_neg (by omega), if_neg (fun h => h.elim h5 h1)]
    simp only [List.length_append]; omega
theorem wm_len {p : List Nd} (hp : okPool p = true) : ∀ (g : Nat) (v : Nat) (out : List UInt8),
    ((out.length ≤ 400 → (wm p g none v out).length ≤ 450 + 50 * v) ∧ (400 < out.length → (wm p g none v out).length = out.length)) ∧
    (∀ first, (out.length ≤ 400 → (wm p g (some first) v out).length ≤ 449 + 50 * v) ∧ (400 < out.length → (wm p g (some first) v out).length ≤ out.length + 3))
  | 0, v, out => by simp only [wm]; exact ⟨⟨fun h => by omega, fun h => trivial⟩, fun f => ⟨fun h => by omega, fun h => by omega⟩⟩
  | g + 1, v, out => by
    refine ⟨⟨fun h => ?_, fun h => by simp only [wm]; rw [if_pos h]⟩, fun first => ?_⟩
    · simp only [wm]
      rw [if_neg (by omega)]
      split
      · rename_i x hx
        split
        · have h1 := (wm_len hp g v (out ++ [40])).2 true
          simp only [List.length_append, List.length_cons, List.length_nil] at h1 ⊢
          by_cases c : out.length + 1 ≤ 400
          · have := h1.1 c; omega
          · have := h1.2 (by omega); omega
        · have := atomB_len (okPool_get hp hx)
          simp only [List.length_append]; omega
      · omega
    · simp only [wm]
      split
      · rename_i x hx
        split
        · rename_i hc
          have hk := okN_pair (okPool_get hp hx) hc.1
          have h1 := (wm_len hp g x.a.toNat (if first then out else out ++ [32])).1
          have h2 := (wm_len hp g x.b.toNat (wm p g none x.a.toNat (if first then out else out ++ [32]))).2 false
          have hs : (if first = true then out else out ++ [32]).length ≤ 401 := by split <;> (try simp only [List.length_append, List.length_cons, List.length_nil]) <;> omega
          refine ⟨fun h => ?_, fun h => by omega⟩
          by_cases c : (if first = true then out else out ++ [32]).length ≤ 400
          · have h3 := h1.1 c
            by_cases c2 : (wm p g none x.a.toNat (if first then out else out ++ [32])).length ≤ 400
            · have := h2.1 c2; omega
            · have := h2.2 (by omega); omega
          · have h3 := h1.2 (by omega)
            have := h2.2 (by omega); omega
        · rename_i hc
          split
          · exact ⟨fun h => by omega, fun h => by omega⟩
          · rename_i h15
            have h1 := wm_atom hp g hx (fun h => h15 (.inr h)) (fun h => h15 (.inl h)) (out ++ [32, 46, 32])
            simp only [List.length_append, List.length_cons, List.length_nil] at h1
            refine ⟨fun h => ?_, fun h => ?_⟩
            · by_cases c : out.length + 3 ≤ 400
              · have := h1.1 c; omega
              · have := h1.2 (by omega); omega
            · have := h1.2 (by omega); omega
      · exact ⟨fun h => by omega, fun h => by omega⟩

end Go.Eng
