/- what is written of a value: the program's side, as plain lists -/
import Derived.Test.YtgoidfkdnkjojaaWrite
namespace Go.Eng
open Go.Proofs Go.Proofs.Try

/-- what the program does: a value (none), or what stands in the brackets (some first) -/
noncomputable def wm (p : List Nd) : Nat → Option Bool → Nat → List UInt8 → List UInt8
  | 0, _, _, out => out
  | g + 1, none, v, out => if out.length > 400 then out else
    match p[v]? with
    | some x => if x.kind = 5 ∨ x.kind = 1 then wm p g (some true) v (out ++ [40]) ++ [41] else out ++ atomB x
    | none => out
  | g + 1, some first, v, out =>
    match p[v]? with
    | some x => if x.kind = 5 ∧ out.length ≤ 400 then wm p g (some false) x.b.toNat (wm p g none x.a.toNat (if first then out else out ++ [32]))
      else if x.kind = 1 ∨ x.kind = 5 then out else wm p g none v (out ++ [32, 46, 32])
    | none => out
/-- the same, or both too long -/
noncomputable def Alike (a b : List UInt8) : Prop := a = b ∨ (400 < a.length ∧ 400 < b.length)
theorem wr_mono {p : List Nd} : ∀ (g : Nat) (m : Bool) (v : Nat) (out : List UInt8), out.length ≤ (wr p g m v out).length
  | 0, m, v, out => Nat.le_refl _
  | g + 1, false, v, out => by
    simp only [wr]
    split
    · exact Nat.le_refl _
    · split
      · split
        · rename_i x _ _
          have h1 := wr_mono (p := p) g false x.a.toNat (out ++ [40])
          have h2 := wr_mono (p := p) g true x.b.toNat (wr p g false x.a.toNat (out ++ [40]))
          simp at h1; omega
        · simp
      · exact Nat.le_refl _
  | g + 1, true, v, out => by
    simp only [wr]
    split
    · split
      · rename_i x _ _
        have h1 := wr_mono (p := p) g false x.a.toNat (out ++ [32])
        have h2 := wr_mono (p := p) g true x.b.toNat (wr p g false x.a.toNat (out ++ [32]))
        simp at h1; omega
      · split
        · simp
        · have h1 := wr_mono (p := p) g false v (out ++ [32, 46, 32])
          simp at h1 ⊢; omega
    · exact Nat.le_refl _
theorem wm_mono {p : List Nd} : ∀ (g : Nat) (m : Option Bool) (v : Nat) (out : List UInt8), out.length ≤ (wm p g m v out).length
  | 0, m, v, out => Nat.le_refl _
  | g + 1, none, v, out => by
    simp only [wm]
    split
    · exact Nat.le_refl _
    · split
      · split
        · have h1 := wm_mono (p := p) g (some true) v (out ++ [40])
          simp at h1 ⊢; omega
        · simp
      · exact Nat.le_refl _
  | g + 1, some first, v, out => by
    simp only [wm]
    split
    · split
      · rename_i x _ _
        have h2 := wm_mono (p := p) g (some false) x.b.toNat (wm p g none x.a.toNat (if first then out else out ++ [32]))
        have h1 := wm_mono (p := p) g none x.a.toNat (if first then out else out ++ [32])
        cases first <;> simp at h1 h2 ⊢ <;> omega
      · split
        · exact Nat.le_refl _
        · have h1 := wm_mono (p := p) g none v (out ++ [32, 46, 32])
          simp at h1 ⊢; omega
    · exact Nat.le_refl _

theorem alike_step {p : List Nd} {g g' : Nat} {b : Nat} {r r' : List UInt8} (h : Alike r r') (ih : ∀ o, Alike (wm p g (some false) b o ++ [41]) (wr p g' true b o)) :
    Alike (wm p g (some false) b r ++ [41]) (wr p g' true b r') := by
  rcases h with rfl | ⟨h1, h2⟩
  · exact ih r
  · refine .inr ⟨?_, ?_⟩
    · have := wm_mono (p := p) g (some false) b r
      simp; omega
    · have := wr_mono (p := p) g' true b r'
      omega
theorem wm_alike {p : List Nd} (hp : okPool p = true) : ∀ (g : Nat),
    (∀ (g' v : Nat) (o : List UInt8), v < p.length → 2 * v + 3 ≤ g → 2 * v + 1 ≤ g' → Alike (wm p g none v o) (wr p g' false v o)) ∧
    (∀ (g' v : Nat) (o : List UInt8), v < p.length → 2 * v + 2 ≤ g → 2 * v + 2 ≤ g' → Alike (wm p g (some false) v o ++ [41]) (wr p g' true v o))
  | 0 => ⟨fun g' v o _ h _ => by omega, fun g' v o _ h _ => by omega⟩
  | g + 1 => by
    obtain ⟨ihv, iht⟩ := wm_alike hp g
    refine ⟨fun g' v o hv hg hg' => ?_, fun g' v o hv hg hg' => ?_⟩
    · obtain ⟨x, hx⟩ := get_of_lt hv
      have hok := okPool_get hp hx
      cases g' with
      | zero => omega
      | succ g' =>
      cases g with
      | zero => omega
      | succ g =>
      simp only [wm, wr, hx, if_true]
      by_cases hf : o.length > 400
      · rw [if_pos hf, if_pos hf]; exact .inl rfl
      rw [if_neg hf, if_neg hf]
      by_cases h5 : x.kind = 5
      · have hk := okN_pair hok h5
        rw [if_pos (.inl h5), if_pos h5]
        by_cases hl : (o ++ [40]).length ≤ 400
        · rw [if_pos ⟨h5, hl⟩]
          obtain ⟨ihv2, iht2⟩ := wm_alike hp g
          exact alike_step (ihv2 g' x.a.toNat (o ++ [40]) (by omega) (by omega) (by omega)) (fun r => iht2 g' x.b.toNat r (by omega) (by omega) (by omega))
        · rw [if_neg (fun h => hl h.2), if_pos (.inr h5)]
          refine .inr ⟨by simp at hl ⊢; omega, ?_⟩
          have h1 := wr_mono (p := p) g' false x.a.toNat (o ++ [40])
          have h2 := wr_mono (p := p) g' true x.b.toNat (wr p g' false x.a.toNat (o ++ [40]))
          omega
      · rw [if_neg h5]
        by_cases h1 : x.kind = 1
        · rw [if_pos (.inr h1), if_neg (fun h => h5 h.1), if_pos (.inl h1)]
          exact .inl (by simp [atomB, h1])
        · rw [if_neg (fun h => h.elim h5 h1)]; exact .inl rfl
    · obtain ⟨x, hx⟩ := get_of_lt hv
      have hok := okPool_get hp hx
      cases g' with
      | zero => omega
      | succ g' =>
      simp only [wm, wr, hx, Bool.false_eq_true, if_false]
      by_cases h5 : x.kind = 5
      · have hk := okN_pair hok h5
        by_cases hl : o.length ≤ 400
        · rw [if_pos ⟨h5, hl⟩, if_pos ⟨h5, hl⟩]
          exact alike_step (ihv g' x.a.toNat (o ++ [32]) (by omega) (by omega) (by omega)) (fun r => iht g' x.b.toNat r (by omega) (by omega) (by omega))
        · rw [if_neg (fun h => hl h.2), if_pos (.inr h5), if_neg (fun h => hl h.2), if_neg (by omega)]
          refine .inr ⟨by simp; omega, ?_⟩
          have := wr_mono (p := p) g' false v (o ++ [32, 46, 32])
          simp at this ⊢; omega
      · by_cases h1 : x.kind = 1
        · rw [if_neg (fun h => h5 h.1), if_pos (.inl h1), if_neg (fun h => h5 h.1), if_pos h1]; exact .inl rfl
        · rw [if_neg (fun h => h5 h.1), if_neg (fun h => h.elim h1 h5), if_neg (fun h => h5 h.1), if_neg h1]
          cases g with
          | zero => omega
          | succ g =>
          cases g' with
          | zero => omega
          | succ g' =>
          simp only [wm, wr, hx]
          by_cases hf : (o ++ [32, 46, 32]).length > 400
          · rw [if_pos hf, if_pos hf]; exact .inl rfl
          · rw [if_neg hf, if_neg (fun h => h.elim h5 h1), if_neg hf, if_neg h5]; exact .inl rfl
termination_by g => g
end Go.Eng
