/- a value read of bytes: both sides come to the same -/
import Derived.Test.YtgoidfkdnkjojaaGreatWire4
namespace Go.Eng
open Go.Proofs Go.Proofs.Tryz
set_option maxHeartbeats 4000000

/-! ## the two readers go together -/
theorem num_same (b : List UInt8) (a : Nat) : numI b (a, true) = numS b (a, true) := by
  unfold numI numS
  split <;> rfl
theorem numI_bad {b : List UInt8} {s : RS} (h : s.2 = false) : (numI b s).2.2 = false := by
  unfold numI
  split
  · exact h
  · rfl
theorem numS_bad {b : List UInt8} {s : RS} (h : s.2 = false) : (numS b s).2.2 = false := by
  unfold numS
  split
  · rw [h]
  · rfl
theorem txtI_bad {b : List UInt8} {s : RS} (h : s.2 = false) : (txtI b s).2.2 = false := by
  unfold txtI
  split
  · exact h
  · rfl
theorem txtS_bad {b : List UInt8} {s : RS} (h : s.2 = false) : (txtS b s).2.2 = false := by
  unfold txtS
  split
  · exact h
  · rfl
/-- as well, and where it is well the same -/
noncomputable def Sy {α : Type} (r r' : α × RS) : Prop := r.2.2 = r'.2.2 ∧ (r.2.2 = true → r = r')
theorem txt_sync (b : List UInt8) (a : Nat) : Sy (txtI b (a, true)) (txtS b (a, true)) := by
  unfold Sy txtI txtS
  cases getT b a with
  | none => exact ⟨rfl, fun h => by cases h⟩
  | some p => exact ⟨rfl, fun _ => rfl⟩
theorem nodeR_bad {num : RS → Nat × RS} {txt : RS → List UInt8 × RS} (hn : ∀ s : RS, s.2 = false → (num s).2.2 = false) (ht : ∀ s : RS, s.2 = false → (txt s).2.2 = false) {s : RS} (h : (num s).2.2 = false) : (nodeR num txt s).2.2 = false := by
  unfold nodeR
  repeat' split
  all_goals (first | exact hn _ (hn _ h) | exact hn _ h | exact ht _ h | exact h)
theorem node_sync (b : List UInt8) (a : Nat) : Sy (nodeR (numI b) (txtI b) (a, true)) (nodeR (numS b) (txtS b) (a, true)) := by
  have e := num_same b a
  cases hk : (numI b (a, true)).2.2 with
  | false =>
    have h1 := nodeR_bad (num := numI b) (txt := txtI b) (s := (a, true)) (fun s h => numI_bad h) (fun s h => txtI_bad h) hk
    have h2 := nodeR_bad (num := numS b) (txt := txtS b) (s := (a, true)) (fun s h => numS_bad h) (fun s h => txtS_bad h) (by rw [← e]; exact hk)
    exact ⟨by rw [h1, h2], fun h => by rw [h1] at h; cases h⟩
  | true =>
    unfold nodeR
    rw [← e]
    obtain ⟨a1, ha1⟩ : ∃ a1, (numI b (a, true)).2 = (a1, true) := ⟨_, Prod.ext rfl hk⟩
    rw [ha1]
    have e1 := num_same b a1
    have et := txt_sync b a1
    have e2 : Sy (numI b (numI b (a1, true)).2) (numS b (numS b (a1, true)).2) ∧ (numI b (a1, true)).1 = (numS b (a1, true)).1 := by
      rw [← e1]
      refine ⟨?_, rfl⟩
      cases h1 : (numI b (a1, true)).2.2 with
      | false =>
        have q1 := numI_bad (b := b) h1
        have q2 := numS_bad (b := b) h1
        exact ⟨by rw [q1, q2], fun h => by rw [q1] at h; cases h⟩
      | true =>
        obtain ⟨a2, ha2⟩ : ∃ a2, (numI b (a1, true)).2 = (a2, true) := ⟨_, Prod.ext rfl h1⟩
        rw [ha2, num_same]
        exact ⟨rfl, fun _ => rfl⟩
    repeat' split
    · rw [e1]; exact ⟨rfl, fun _ => rfl⟩
    · rw [e1]; exact ⟨rfl, fun _ => rfl⟩
    · exact ⟨et.1, fun h => by rw [et.2 h]⟩
    · exact ⟨e2.1.1, fun h => by rw [e2.1.2 h, e2.2]⟩
    · exact ⟨e2.1.1, fun h => by rw [e2.1.2 h, e2.2]⟩
    · rw [e1]; exact ⟨rfl, fun _ => rfl⟩
    · exact ⟨rfl, fun _ => rfl⟩
theorem goI_bad {b : List UInt8} {cnt k i a : Nat} {p : List Nd} : goI b cnt k i (a, false) p = (p, (a, false)) := by
  cases k <;> simp [goI]
theorem goS_bad {b : List UInt8} {cnt k i a : Nat} {p : List Nd} : goS b cnt k i (a, false) p = (p, (a, false)) := by
  cases k <;> simp [goS]
theorem go_sync {b : List UInt8} {cnt : Nat} (hc : cnt ≤ 3000) : ∀ (k i a : Nat) (p : List Nd), i + k = 3001 → Sy (goI b cnt (k + 1) i (a, true) p) (goS b cnt k i (a, true) p)
  | 0, i, a, p, hi => by
    have h1 : ¬ i < cnt := by omega
    simp only [goI, goS, h1, false_and, if_false]
    exact ⟨rfl, fun _ => rfl⟩
  | k + 1, i, a, p, hi => by
    rw [goI, goS]
    by_cases h1 : i < cnt
    · rw [if_pos ⟨h1, rfl, by omega⟩, if_pos ⟨h1, rfl⟩]
      have hs := node_sync b a
      cases hk : (nodeR (numI b) (txtI b) (a, true)).2.2 with
      | false =>
        obtain ⟨a1, ha1⟩ : ∃ a1, (nodeR (numI b) (txtI b) (a, true)).2 = (a1, false) := ⟨_, Prod.ext rfl hk⟩
        obtain ⟨a2, ha2⟩ : ∃ a2, (nodeR (numS b) (txtS b) (a, true)).2 = (a2, false) := ⟨_, Prod.ext rfl (by rw [← hs.1]; exact hk)⟩
        rw [ha1, ha2, goI_bad, goS_bad]
        exact ⟨rfl, fun h => by cases h⟩
      | true =>
        obtain ⟨a1, ha1⟩ : ∃ a1, (nodeR (numI b) (txtI b) (a, true)).2 = (a1, true) := ⟨_, Prod.ext rfl hk⟩
        have e := hs.2 hk
        rw [← e, ha1]
        exact go_sync hc k (i + 1) a1 _ (by omega)
    · rw [if_neg (fun h => h1 h.1), if_neg (fun h => h1 h.1)]
      exact ⟨rfl, fun _ => rfl⟩
theorem goI_long {b : List UInt8} {cnt : Nat} (hc : 3000 < cnt) : ∀ (k i : Nat) (s : RS) (p : List Nd), i + k = 3002 → i ≤ 3001 → p.length = i → (goI b cnt k i s p).2.2 = true → (goI b cnt k i s p).1.length = 3001
  | 0, i, s, p, hi, hi2, hp, h => by omega
  | k + 1, i, s, p, hi, hi2, hp, h => by
    rw [goI] at h ⊢
    by_cases h1 : i < cnt ∧ s.2 = true ∧ i ≤ 3000
    · rw [if_pos h1] at h ⊢
      exact goI_long hc k (i + 1) _ _ (by omega) (by omega) (by simp; omega) h
    · rw [if_neg h1] at h ⊢
      by_cases h2 : i ≤ 3000
      · exact absurd ⟨by omega, h, h2⟩ h1
      · simp only; omega

/-! ## what was written is read -/
theorem getN_put : ∀ (f n : Nat) (rest : List UInt8), n < 128 ^ (f + 1) → (n = 0 → 8 ≤ f) → getN (f + 1) (putU n ++ rest) = some (n, (putU n).length)
  | f, n, rest, hn, h0 => by
    by_cases h : n ≤ 127
    · rw [putU_small h]
      have e : (UInt8.ofNat n).toNat = n := by simp; omega
      simp only [List.cons_append, List.nil_append, getN, e]
      rw [if_pos (by omega), if_neg (by omega)]; rfl
    · rw [putU_big h]
      have e : (UInt8.ofNat (n % 128 + 128)).toNat = n % 128 + 128 := by simp; omega
      cases f with
      | zero => simp at hn; omega
      | succ f =>
      have ih := getN_put f (n / 128) rest (by rw [Nat.pow_succ] at hn; omega) (fun h => by omega)
      simp only [List.cons_append, getN, e]
      rw [if_neg (by omega)]
      rw [show getN (f + 1) (putU (n / 128) ++ rest) = some (n / 128, (putU (n / 128)).length) from ih]
      have e1 : (n % 128 + 128) % 128 + 128 * (n / 128) = n := by omega
      simp only [e1, List.length_cons]
theorem drop_more {b l rest : List UInt8} {i : Nat} (h : b.drop i = l ++ rest) : b.drop (i + l.length) = rest := by
  rw [← List.drop_drop, h, List.drop_left]
theorem numI_put {b : List UInt8} {s : RS} {n : Nat} {rest : List UInt8} (hn : n < 9223372036854775808) (h : b.drop s.1 = putU n ++ rest) : numI b s = (n, (s.1 + (putU n).length, s.2)) := by
  have e : (128 : Nat) ^ (8 + 1) = 9223372036854775808 := rfl
  have := getN_put 8 n rest (by omega) (fun _ => Nat.le_refl _)
  unfold numI
  rw [h, this]
theorem getT_put {b : List UInt8} {i : Nat} {t rest : List UInt8} (hn : t.length < 4611686018427387904) (h : b.drop i = putT t ++ rest) : getT b i = some (t, i + (putT t).length) := by
  have e : (128 : Nat) ^ (8 + 1) = 9223372036854775808 := rfl
  rw [putT, List.append_assoc] at h
  have h1 := getN_put 8 t.length (t ++ rest) (by omega) (fun _ => Nat.le_refl _)
  have h2 := drop_more h
  have hl : (b.drop i).length = (putU t.length).length + (t.length + rest.length) := by rw [h]; simp
  rw [List.length_drop] at hl
  have hp := putU_len9 hn
  have hi : (putU t.length).length ≥ 1 := by
    by_cases c : t.length ≤ 127
    · rw [putU_small c]; simp
    · rw [putU_big c]; simp
  unfold getT
  rw [h, h1]
  simp only
  rw [if_pos (by omega), h2, List.take_left]
  simp only [putT, List.length_append, Nat.add_assoc]
theorem txtI_put {b : List UInt8} {s : RS} {t rest : List UInt8} (hn : t.length < 4611686018427387904) (h : b.drop s.1 = putT t ++ rest) : txtI b s = (t, (s.1 + (putT t).length, s.2)) := by
  unfold txtI
  rw [getT_put hn h]
theorem nil_of {s : ByteArray} (h : s.size = 0) : s = nilS := by
  apply ByteArray.ext
  have : s.data.size = 0 := h
  exact Array.eq_empty_of_size_eq_zero this
theorem nodeR_put {b : List UInt8} {s : RS} {x : Nd} {i : Nat} (hi : i ≤ 3000) (ho : okN x i = true) {rest : List UInt8} (h : b.drop s.1 = nodeB x ++ rest) : nodeR (numI b) (txtI b) s = (x, (s.1 + (nodeB x).length, s.2)) := by
  obtain ⟨k1, k9, n3, n9, n0, a0, a1, b0, b1, s4⟩ := okN_facts ho
  obtain ⟨kd, n, sx, a, c⟩ := x
  simp only at k1 k9 n3 n9 n0 a0 a1 b0 b1 s4
  obtain ⟨k, rfl⟩ := Int.eq_ofNat_of_zero_le (show 0 ≤ kd by omega)
  obtain ⟨a, rfl⟩ := Int.eq_ofNat_of_zero_le a0
  obtain ⟨c, rfl⟩ := Int.eq_ofNat_of_zero_le b0
  have hk : k = 1 ∨ k = 2 ∨ k = 3 ∨ k = 4 ∨ k = 5 ∨ k = 6 ∨ k = 7 ∨ k = 8 ∨ k = 9 := by omega
  have hd : ∃ r2, b.drop s.1 = putU k ++ r2 := by
    rw [h]; unfold nodeB; exact ⟨_, by rw [List.append_assoc]; rfl⟩
  obtain ⟨r2, hr2⟩ := hd
  have hn1 := numI_put (by omega) hr2
  have hr := drop_more hr2
  have er : nodeB ⟨(k : Int), n, sx, (a : Int), (c : Int)⟩ ++ rest = putU k ++ r2 := by rw [← h, hr2]
  unfold nodeR
  rw [hn1]
  simp only
  rcases hk with e | e | e | e | e | e | e | e | e <;> subst e
  · -- nil
    have hs := nil_of (okN_s0 ho (by simp))
    simp [okN, wi] at ho
    rw [nodeB_1 rfl] at er ⊢
    simp
    refine ⟨by omega, hs.symm, by omega, by omega⟩
  · have hs := nil_of (okN_s0 ho (by simp))
    simp [okN, wi] at ho
    obtain ⟨m, rfl⟩ := Int.eq_ofNat_of_zero_le (show 0 ≤ n by omega)
    rw [nodeB_2 (.inl rfl), List.append_assoc] at er
    have er2 := List.append_cancel_left er
    have h2 := numI_put (b := b) (s := (s.1 + (putU 2).length, s.2)) (n := m) (rest := rest) (by omega) (by rw [hr, ← er2]; rfl)
    rw [h2, nodeB_2 (.inl rfl)]
    simp
    refine ⟨⟨hs.symm, by omega, by omega⟩, by omega⟩
  · have hs := nil_of (okN_s0 ho (by simp))
    simp [okN, wi] at ho
    obtain ⟨m, hm⟩ := Int.eq_ofNat_of_zero_le (show 0 ≤ n + 1000000000 by omega)
    rw [nodeB_3 rfl, List.append_assoc] at er
    have er2 := List.append_cancel_left er
    have h2 := numI_put (b := b) (s := (s.1 + (putU 3).length, s.2)) (n := m) (rest := rest) (by omega) (by rw [hr, ← er2, hm]; rfl)
    rw [h2, nodeB_3 rfl]
    simp
    refine ⟨⟨by omega, hs.symm, by omega, by omega⟩, by rw [hm]; simp; omega⟩
  · have hz : sx.data.toList.length = sx.size := bytes_len sx
    simp [okN, wi] at ho
    rw [nodeB_4 rfl, List.append_assoc] at er
    have er2 := List.append_cancel_left er
    have h2 := txtI_put (b := b) (s := (s.1 + (putU 4).length, s.2)) (t := sx.data.toList) (rest := rest) (by omega) (by rw [hr, ← er2])
    rw [h2, nodeB_4 rfl]
    simp [mk_of]
    refine ⟨⟨by omega, by omega, by omega⟩, by omega⟩
  · have hs := nil_of (okN_s0 ho (by simp))
    simp [okN, wi] at ho
    rw [nodeB_5 rfl, List.append_assoc, List.append_assoc] at er
    have er2 := List.append_cancel_left er
    have h2 := numI_put (b := b) (s := (s.1 + (putU 5).length, s.2)) (n := a) (rest := putU c ++ rest) (by omega) (by rw [hr, ← er2]; rfl)
    have hr3 := drop_more (b := b) (i := s.1 + (putU 5).length) (l := putU a) (rest := putU c ++ rest) (by rw [hr, ← er2]; rfl)
    have h3 := numI_put (b := b) (s := (s.1 + (putU 5).length + (putU a).length, s.2)) (n := c) (rest := rest) (by omega) hr3
    rw [h2]
    simp only
    rw [h3, nodeB_5 rfl]
    simp
    refine ⟨⟨by omega, hs.symm⟩, by omega⟩
  · have hs := nil_of (okN_s0 ho (by simp))
    simp [okN, wi] at ho
    obtain ⟨m, rfl⟩ := Int.eq_ofNat_of_zero_le (show 0 ≤ n by omega)
    rw [nodeB_6 rfl, List.append_assoc, List.append_assoc] at er
    have er2 := List.append_cancel_left er
    have h2 := numI_put (b := b) (s := (s.1 + (putU 6).length, s.2)) (n := m) (rest := putU a ++ rest) (by omega) (by rw [hr, ← er2]; rfl)
    have hr3 := drop_more (b := b) (i := s.1 + (putU 6).length) (l := putU m) (rest := putU a ++ rest) (by rw [hr, ← er2]; rfl)
    have h3 := numI_put (b := b) (s := (s.1 + (putU 6).length + (putU m).length, s.2)) (n := a) (rest := rest) (by omega) hr3
    rw [h2]
    simp only
    rw [h3, nodeB_6 rfl]
    simp
    refine ⟨⟨hs.symm, by omega⟩, by omega⟩
  · have hs := nil_of (okN_s0 ho (by simp))
    simp [okN, wi] at ho
    rw [nodeB_7 rfl, List.append_assoc] at er
    have er2 := List.append_cancel_left er
    have h2 := numI_put (b := b) (s := (s.1 + (putU 7).length, s.2)) (n := a) (rest := rest) (by omega) (by rw [hr, ← er2]; rfl)
    rw [h2, nodeB_7 rfl]
    simp
    refine ⟨⟨by omega, hs.symm, by omega⟩, by omega⟩
  · have hs := nil_of (okN_s0 ho (by simp))
    simp [okN, wi] at ho
    obtain ⟨m, rfl⟩ := Int.eq_ofNat_of_zero_le (show 0 ≤ n by omega)
    rw [nodeB_2 (.inr (.inl rfl)), List.append_assoc] at er
    have er2 := List.append_cancel_left er
    have h2 := numI_put (b := b) (s := (s.1 + (putU 8).length, s.2)) (n := m) (rest := rest) (by omega) (by rw [hr, ← er2]; rfl)
    rw [h2, nodeB_2 (.inr (.inl rfl))]
    simp
    refine ⟨⟨hs.symm, by omega, by omega⟩, by omega⟩
  · have hs := nil_of (okN_s0 ho (by simp))
    simp [okN, wi] at ho
    obtain ⟨m, rfl⟩ := Int.eq_ofNat_of_zero_le (show 0 ≤ n by omega)
    rw [nodeB_2 (.inr (.inr rfl)), List.append_assoc] at er
    have er2 := List.append_cancel_left er
    have h2 := numI_put (b := b) (s := (s.1 + (putU 9).length, s.2)) (n := m) (rest := rest) (by omega) (by rw [hr, ← er2]; rfl)
    rw [h2, nodeB_2 (.inr (.inr rfl))]
    simp
    refine ⟨⟨hs.symm, by omega, by omega⟩, by omega⟩
end Go.Eng
