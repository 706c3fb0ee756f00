/- when leases are right, said plainly -/
import Derived.Test.YtnibbejbclmanaaZPure4
namespace Go.Eng
open Go.Proofs Go.Proofs.Try

theorem okFrom_iff {l : List Ls} : ∀ (k i : Nat), i + k = l.length → (okFrom l i k = true ↔ (∀ (j : Nat) (h : j < l.length), i ≤ j → goodL l j l[j] = true) ∧ l.length ≤ 20)
  | 0, i, hi => by
    simp only [okFrom, decide_eq_true_eq]
    exact ⟨fun h => ⟨fun j hj hij => by omega, h⟩, fun h => h.2⟩
  | k + 1, i, hi => by
    have hlt : i < l.length := by omega
    simp only [okFrom, List.getElem?_eq_getElem hlt, Bool.and_eq_true]
    rw [okFrom_iff k (i + 1) (by omega)]
    constructor
    · rintro ⟨h1, h2, h3⟩
      refine ⟨fun j hj hij => ?_, h3⟩
      by_cases he : i = j
      · subst he; exact h1
      · exact h2 j hj (by omega)
    · rintro ⟨h1, h2⟩
      exact ⟨h1 i hlt (Nat.le_refl _), fun j hj hij => h1 j hj (by omega), h2⟩

def diffL (x y : Ls) : Prop := ¬(x.id = y.id ∧ x.who = y.who)
theorem okL_iff {l : List Ls} : okL l = true ↔ (∀ x ∈ l, rangeL x = true) ∧ l.Pairwise diffL ∧ l.length ≤ 20 := by
  unfold okL
  rw [okFrom_iff l.length 0 (by omega)]
  constructor
  · rintro ⟨h1, h2⟩
    refine ⟨fun x hx => ?_, ?_, h2⟩
    · obtain ⟨j, hj, rfl⟩ := List.getElem_of_mem hx
      have := h1 j hj (by omega)
      simp only [goodL, Bool.and_eq_true] at this
      exact this.1
    · rw [List.pairwise_iff_getElem]
      intro i j hi hj hij hh
      have := h1 j hj (by omega)
      simp only [goodL, Bool.and_eq_true, Bool.not_eq_true'] at this
      have h3 := List.any_eq_false.1 this.2 l[i] (List.mem_of_getElem? (i := i) (by rw [List.getElem?_take_of_lt hij]; exact List.getElem?_eq_getElem hi))
      apply h3
      simp only [sameL, Bool.and_eq_true, beq_iff_eq]
      exact hh
  · rintro ⟨h1, h2, h3⟩
    refine ⟨fun j hj _ => ?_, h3⟩
    simp only [goodL, Bool.and_eq_true, Bool.not_eq_true']
    refine ⟨h1 _ (List.getElem_mem _), ?_⟩
    rw [List.any_eq_false]
    intro y hy hs
    obtain ⟨i, hi, rfl⟩ := List.getElem_of_mem hy
    simp only [List.length_take] at hi
    rw [List.pairwise_iff_getElem] at h2
    rw [List.getElem_take] at hs
    simp only [sameL, Bool.and_eq_true, beq_iff_eq] at hs
    exact h2 i j (by omega) hj (by omega) hs

theorem okL_sub {l m : List Ls} (h : okL l = true) (hs : m.Sublist l) : okL m = true := by
  rw [okL_iff] at h ⊢
  exact ⟨fun x hx => h.1 x (hs.subset hx), h.2.1.sublist hs, Nat.le_trans hs.length_le h.2.2⟩

theorem dropF_ok {l : List Ls} {n : Int} (h : okL l = true) : okL (dropF n l) = true := by
  unfold dropF; rw [if_pos h]; exact okL_sub h List.filter_sublist
theorem mem_dropF {l : List Ls} {n : Int} {x : Ls} (h : okL l = true) : x ∈ dropF n l ↔ x ∈ l ∧ n ≤ x.un := by
  unfold dropF; rw [if_pos h, List.mem_filter]; simp

/-- one of them per id and who -/
theorem same_one {l : List Ls} (h : okL l = true) {i j : Nat} {x y : Ls} (hx : l[i]? = some x) (hy : l[j]? = some y) (hs : x.id = y.id ∧ x.who = y.who) : i = j := by
  have h2 := (okL_iff.1 h).2.1
  rw [List.pairwise_iff_getElem] at h2
  have hi := lt_of_get hx
  have hj := lt_of_get hy
  rw [List.getElem?_eq_getElem hi] at hx; cases hx
  rw [List.getElem?_eq_getElem hj] at hy; cases hy
  by_cases h3 : i < j
  · exact absurd hs (h2 i j hi hj h3)
  · by_cases h4 : j < i
    · exact absurd ⟨hs.1.symm, hs.2.symm⟩ (h2 j i hj hi h4)
    · omega

theorem askL_mem (a b n : Int) (l : List Ls) : (⟨a, b, IntKind.wrap .i64 (n + 20)⟩ : Ls) ∈ askL a b n l := by
  unfold askL
  cases h : l.findIdx? (sameL a b) with
  | none => simp
  | some k =>
    obtain ⟨x, hx, _⟩ := find_some h
    exact List.mem_of_getElem? (i := k) (by rw [List.getElem?_set_self (lt_of_get hx)])

/-- given back: it was there, and is not any more -/
theorem give_there {l : List Ls} (h : okL l = true) {x : Ls} (hx : x ∈ l) {n : Int} (hn : n ≤ x.un) : ∃ m, giveF x.id x.who n l = (m, true) ∧ (giveF x.id x.who n m).2 = false ∧ m.length + 1 = l.length := by
  have hs : sameL x.id x.who x = true := by simp [sameL]
  cases hf : l.findIdx? (sameL x.id x.who) with
  | none =>
    rw [List.findIdx?_eq_none_iff] at hf
    have := hf x hx
    rw [hs] at this; cases this
  | some k =>
    obtain ⟨y, hy, hp⟩ := find_some hf
    obtain ⟨j, hj, hjx⟩ := List.getElem_of_mem hx
    have hjx' : l[j]? = some x := by rw [List.getElem?_eq_getElem hj, hjx]
    have hp' : y.id = x.id ∧ y.who = x.who := by simpa [sameL] using hp
    have hk := same_one h hy hjx' hp'
    subst hk
    rw [hy] at hjx'; cases hjx'
    have hkl := lt_of_get hy
    refine ⟨l.eraseIdx k, ?_, ?_, ?_⟩
    · simp only [giveF, h, if_true, lsGive, hf, hy, if_neg (show ¬ x.un < n by omega)]
    · have hno : (l.eraseIdx k).findIdx? (sameL x.id x.who) = none := by
        rw [List.findIdx?_eq_none_iff]
        intro z hz
        rw [List.mem_eraseIdx_iff_getElem?] at hz
        obtain ⟨i, hik, hzi⟩ := hz
        cases hc : sameL x.id x.who z with
        | false => rfl
        | true =>
          have hc' : z.id = x.id ∧ z.who = x.who := by simpa [sameL] using hc
          exact absurd (same_one h hzi hy hc') hik
      unfold giveF lsGive
      rw [hno]; split <;> rfl
    · rw [List.length_eraseIdx_of_lt hkl]; omega
end Go.Eng
