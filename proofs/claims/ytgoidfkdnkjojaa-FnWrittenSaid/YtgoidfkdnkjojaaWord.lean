/- words of a text, on both sides -/
import Derived.Test.YtgoidfkdnkjojaaWrite3
import Derived.Test.YtgoidfkdnkjojaaDig
namespace Go.Eng
open Go.Proofs Go.Proofs.Try
set_option maxHeartbeats 4000000

noncomputable def dU (x : UInt8) : Bool := decide (48 ≤ x.toNat) && decide (x.toNat ≤ 57)
noncomputable def wordU (x : UInt8) : Bool := nmB (x.toNat : Int) || (dU x || (x.toNat : Int) == 35)
theorem dU_iff {x : UInt8} : dU x = true ↔ 48 ≤ x.toNat ∧ x.toNat ≤ 57 := by simp [dU]
theorem dig_eq (x : UInt8) : br (decide ((x.toNat : Int) ≥ 48)) (some (D.bool (decide ((x.toNat : Int) ≤ 57)), ([] : List D))) (some (D.bool false, [])) = some (.bool (dU x), []) := by
  unfold dU
  by_cases h1 : 48 ≤ x.toNat
  · by_cases h2 : x.toNat ≤ 57
    · rw [br_of (decide_eq_true (by omega)), decide_eq_true (by omega), decide_eq_true h1, decide_eq_true h2]; rfl
    · rw [br_of (decide_eq_true (by omega)), decide_eq_false (by omega), decide_eq_true h1, decide_eq_false h2]; rfl
  · rw [br_not (decide_eq_false (by omega)), decide_eq_false h1]; rfl
theorem v_isDigit (x : UInt8) : V 165 [.int .u8 (x.toNat : Int)] = some (.bool (dU x), []) := (eimpl_isDigit _).trans (dig_eq x)
theorem v_l3Digit (x : UInt8) : V 129 [.int .u8 (x.toNat : Int)] = some (.bool (dU x), []) := (espec_l3Digit _).trans (dig_eq x)
theorem v_isWordByte (x : UInt8) : V 135 [.int .u8 (x.toNat : Int)] = some (.bool (wordU x), []) := by
  rw [eimpl_isWordByte, oc_i_isNameByte (v_isNameByte _), oc_i_isDigit (v_isDigit x), br_or, br_or]; rfl
theorem v_l3WordByte (x : UInt8) : V 73 [.int .u8 (x.toNat : Int)] = some (.bool (wordU x), []) := by
  rw [espec_l3WordByte, oc_s_l2NameByte (v_l2NameByte _), oc_s_l3Digit (v_l3Digit x), br_or, br_or]; rfl

/-! ## numbers -/
noncomputable def valD (acc : Nat) (l : List UInt8) : Nat := l.foldl (fun n x => 10 * n + (x.toNat - 48)) acc
theorem valD_lt : ∀ (l : List UInt8) (acc k : Nat), l.all dU = true → acc < 10 ^ k → valD acc l < 10 ^ (k + l.length)
  | [], acc, k, _, h => h
  | x :: l, acc, k, hl, h => by
    rw [List.all_cons, Bool.and_eq_true] at hl
    have hx := dU_iff.1 hl.1
    have := valD_lt l (10 * acc + (x.toNat - 48)) (k + 1) hl.2 (by rw [Nat.pow_succ]; omega)
    rw [List.length_cons]
    have e : k + (l.length + 1) = k + 1 + l.length := by omega
    rw [e]; exact this
noncomputable abbrev noW : D := .tup [.int .i64 0, .bool false]
theorem pow10_le {k : Nat} (h : k ≤ 10) : 10 ^ k ≤ 10000000000 := by
  have : 10 ^ k ≤ 10 ^ 10 := Nat.pow_le_pow_right (by omega) h
  simpa using this
theorem nat_loop {l : List UInt8} (hl : l.length ≤ 10) : ∀ (k i acc : Nat), i + k = l.length → acc < 10 ^ i → Limpl_natural_5 (mk l) (acc : Int) (ni l.length) (i : Int) = some (if (l.drop i).all dU = true then .tup [.int .i64 (valD acc (l.drop i) : Nat), .bool true] else noW, [])
  | 0, i, acc, hi, ha => by
    rw [Limpl_natural_5_eq, List.drop_of_length_le (by omega)]
    simp (disch := first | omega | (simp only [List.length_append, List.length_cons, List.length_nil, List.length_map, mk_size, nat_cast_eq]; omega)) only [↓br_false, dec_f, nat_cast_eq]
    rfl
  | k + 1, i, acc, hi, ha => by
    obtain ⟨x, hx⟩ := get_of_lt (l := l) (i := i) (by omega)
    have hp := pow10_le (k := i) (by omega)
    have hb := bt_mk hx
    have hd := v_isDigit x
    rw [Limpl_natural_5_eq, br_of (lt_idx (by omega)), grd_of (by rw [mk_size]; exact in_idx (by omega)), hb, oc_i_isDigit hd, drop_at hx, List.all_cons]
    cases h : dU x with
    | false => rw [Bool.not_false, br_true, if_neg (by simp)]
    | true =>
      have hx2 := dU_iff.1 h
      have e1 : IntKind.wrap .u8 ((x.toNat : Int) - 48) = ((x.toNat - 48 : Nat) : Int) := by rw [wrap_u8 (by omega) (by omega)]; omega
      have e2 : IntKind.wrap IntKind.i64 (IntKind.wrap IntKind.i64 (10 * (acc : Int)) + IntKind.wrap IntKind.i64 ((x.toNat - 48 : Nat) : Int)) = ((10 * acc + (x.toNat - 48) : Nat) : Int) := by
        rw [w64 (n := 10 * (acc : Int)) (by omega) (by omega), w64 (n := ((x.toNat - 48 : Nat) : Int)) (by omega) (by omega), w64 (by omega) (by omega)]; omega
      have ih := nat_loop hl k (i + 1) (10 * acc + (x.toNat - 48)) (by omega) (by rw [Nat.pow_succ]; omega)
      rw [Bool.not_true, br_false, grd_of (by rw [mk_size]; exact in_idx (by omega)), e1, e2, w64s (by omega), ih, Bool.true_and]
      rfl
/-- digits without needless noughts, ten at most -/
noncomputable def natF (l : List UInt8) : Option Nat := if l.length = 0 ∨ 10 < l.length ∨ (l[0]? = some 48 ∧ 1 < l.length) ∨ l.all dU = false then none else some (valD 0 l)
noncomputable def natD (r : Option Nat) : D := match r with | some n => .tup [.int .i64 (n : Int), .bool true] | none => noW
theorem v_natural (l : List UInt8) (hb : l.length < 4611686018427387904) : V 166 [.str (mk l), .int .i64 10] = some (natD (natF l), []) := by
  have he : strEq (mk l) ⟨#[]⟩ = decide (l = []) := strEq_mk l []
  rw [eimpl_natural, he, mk_size]
  unfold natF
  by_cases h0 : l = []
  · subst h0; rfl
  have hz : l.length ≠ 0 := fun h => h0 (List.eq_nil_of_length_eq_zero h)
  rw [br_not (decide_eq_false h0)]
  by_cases h1 : 10 < l.length
  · rw [br_of (decide_eq_true (by simp only [ni]; omega)), if_pos (.inr (.inl h1))]; rfl
  rw [br_not (decide_eq_false (by simp only [ni]; omega))]
  obtain ⟨x, hx⟩ := get_of_lt (l := l) (i := 0) (by omega)
  have hbt : bt (mk l) 0 = (x.toNat : Int) := bt_mk hx
  have hl := nat_loop (l := l) (by omega) l.length 0 0 (by omega) (by simp)
  rw [Int.natCast_zero, List.drop_zero] at hl
  rw [grd_of (by simp only [ni, Bool.and_eq_true, decide_eq_true_eq]; omega), hbt]
  have fin : ¬ (l[0]? = some 48 ∧ 1 < l.length) → Limpl_natural_5 (mk l) 0 (ni l.length) 0 = some (natD (if l.length = 0 ∨ 10 < l.length ∨ (l[0]? = some 48 ∧ 1 < l.length) ∨ l.all dU = false then none else some (valD 0 l)), []) := by
    intro hn
    rw [hl]
    cases ha : l.all dU with
    | false => rw [if_neg (by simp), if_pos (.inr (.inr (.inr rfl)))]; rfl
    | true => rw [if_pos rfl, if_neg (by rintro (h | h | h | h) <;> first | omega | exact hn h | cases h)]; rfl
  by_cases h48 : x.toNat = 48
  · have hx48 : l[0]? = some 48 := by rw [hx]; congr 1; exact UInt8.toNat_inj.1 h48
    rw [br_of (by simp [h48])]
    by_cases hl1 : 1 < l.length
    · rw [br_of (decide_eq_true (by simp only [ni]; omega)), if_pos (.inr (.inr (.inl ⟨hx48, hl1⟩)))]; rfl
    · rw [br_not (decide_eq_false (by simp only [ni]; omega))]
      exact fin (fun h => hl1 h.2)
  · have hx48 : l[0]? ≠ some 48 := by
      rw [hx]; intro h; apply h48; cases h; rfl
    rw [br_not (by simp only [beq_eq_false_iff_ne, ne_eq]; omega)]
    exact fin (fun h => hx48 h.1)
/-! ## digits and values -/
theorem valD_snoc (l : List UInt8) (x : UInt8) (acc : Nat) : valD acc (l ++ [x]) = 10 * valD acc l + (x.toNat - 48) := by simp [valD]
theorem valD_pos : ∀ (l : List UInt8) (acc : Nat), 0 < acc → 0 < valD acc l
  | [], acc, h => h
  | x :: l, acc, h => valD_pos l (10 * acc + (x.toNat - 48)) (by omega)
theorem digU_val : ∀ (n : Nat) (l : List UInt8), l.length = n + 1 → l.all dU = true → (l[0]? ≠ some 48 ∨ l.length = 1) → digU (valD 0 l) = l
  | 0, l, hn, ha, h0 => by
    match l, hn with
    | [x], _ =>
      have hx := dU_iff.1 (by simpa using ha)
      have e : valD 0 [x] = x.toNat - 48 := by simp [valD]
      rw [e, digU_small (by omega)]
      congr 1
      apply UInt8.toNat_inj.1
      simp; omega
  | n + 1, l, hn, ha, h0 => by
    have hne : l ≠ [] := by intro h; rw [h] at hn; simp at hn
    obtain ⟨l', x, rfl⟩ : ∃ l' x, l = l' ++ [x] := ⟨l.dropLast, l.getLast hne, (List.dropLast_concat_getLast hne).symm⟩
    have hl' : l'.length = n + 1 := by simp at hn; omega
    have ha' : l'.all dU = true ∧ dU x = true := by simpa using ha
    have hx := dU_iff.1 ha'.2
    have h48 : l'[0]? ≠ some 48 := by
      rcases h0 with h | h
      · rwa [List.getElem?_append_left (by omega)] at h
      · exfalso; rw [List.length_append, List.length_singleton] at h; omega
    have ih := digU_val n l' hl' ha'.1 (.inl h48)
    rw [valD_snoc]
    have hpos : 0 < valD 0 l' := by
      match l', hl' with
      | y :: r, _ =>
        have hy := dU_iff.1 (by simpa using (show (y :: r).all dU = true from ha'.1) : dU y = true ∧ _).1
        have hy48 : y.toNat ≠ 48 := by
          intro h; apply h48; simp; exact UInt8.toNat_inj.1 h
        exact valD_pos r (10 * 0 + (y.toNat - 48)) (by omega)
    rw [digU_big (by omega)]
    have e1 : (10 * valD 0 l' + (x.toNat - 48)) / 10 = valD 0 l' := by omega
    have e2 : (10 * valD 0 l' + (x.toNat - 48)) % 10 = x.toNat - 48 := by omega
    rw [e1, e2, ih]
    congr 2
    apply UInt8.toNat_inj.1
    simp; omega
theorem digU_head : ∀ (n : Nat), (digU n)[0]? ≠ some 48 ∨ n = 0 := by
  intro n
  induction n using Nat.strongRecOn with
  | _ n ih =>
    by_cases h : n < 10
    · by_cases h0 : n = 0
      · exact .inr h0
      · left
        rw [digU_small h]
        intro e
        simp at e
        have := congrArg UInt8.toNat e
        simp at this
        omega
    · left
      rw [digU_big h, List.getElem?_append_left (digU_pos _)]
      rcases ih (n / 10) (by omega) with h1 | h1
      · exact h1
      · omega
/-- digits come back of their value just when they bear no needless nought -/
theorem digU_iff {l : List UInt8} (h0 : l.length ≠ 0) (h10 : ¬ 10 < l.length) (ha : l.all dU = true) : digU (valD 0 l) = l ↔ ¬ (l[0]? = some 48 ∧ 1 < l.length) := by
  constructor
  · rintro h ⟨h1, h2⟩
    rcases digU_head (valD 0 l) with h3 | h3
    · rw [h] at h3; exact h3 h1
    · rw [h3, digU_small (by omega)] at h
      have := congrArg List.length h
      simp at this; omega
  · intro h
    refine digU_val (l.length - 1) l (by omega) ha ?_
    by_cases h1 : l[0]? = some 48
    · exact .inr (by have : ¬ 1 < l.length := fun h2 => h ⟨h1, h2⟩
                     omega)
    · exact .inl h1
/-! ## names bear no digits -/
theorem nmFrom_get {l : List UInt8} : ∀ (k i : Nat), nmFrom (mk l) i k = true → ∀ j, i ≤ j → j < i + k → ∀ x, l[j]? = some x → nmB (x.toNat : Int) = true
  | 0, i, _, j, h1, h2, _, _ => by omega
  | k + 1, i, h, j, h1, h2, x, hx => by
    simp only [nmFrom, Bool.and_eq_true] at h
    by_cases e : i = j
    · subst e
      rw [bt_mk hx] at h
      exact h.1
    · exact nmFrom_get k (i + 1) h.2 j (by omega) (by omega) x hx
theorem nmB_digit {x : UInt8} (h : dU x = true) : nmB (x.toNat : Int) = false := by
  have := dU_iff.1 h
  unfold nmB
  rw [decide_eq_false (show ¬ (x.toNat : Int) ≥ 97 by omega)]
  simp only [Bool.false_and, Bool.false_or, List.any_cons, List.any_nil, Bool.or_false]
  have hne : ∀ k : Int, (k < 48 ∨ 57 < k) → ((x.toNat : Int) == k) = false := fun k hk => by simp only [beq_eq_false_iff_ne, ne_eq]; omega
  rw [hne 43 (by omega), hne 45 (by omega), hne 42 (by omega), hne 60 (by omega), hne 61 (by omega), hne 63 (by omega), hne 33 (by omega), hne 47 (by omega)]
  rfl
theorem nm_digit {l : List UInt8} {j : Nat} {x : UInt8} (hx : l[j]? = some x) (h : dU x = true) : nmOk (mk l) = false := by
  cases e : nmOk (mk l) with
  | false => rfl
  | true =>
    simp only [nmOk, Bool.and_eq_true] at e
    have := nmFrom_get _ _ e.2 j (Nat.zero_le _) (by rw [mk_size]; have := lt_of_get hx; omega) x hx
    rw [nmB_digit h] at this; cases this
end Go.Eng
