/- numbers and texts as bytes, on both sides -/
import Derived.Test.YtgoidfkdnkjojaaBytes
import Derived.Test.YtgoidfkdnkjojaaCalls
import Derived.Test.YtgoidfkdnkjojaaWrite3
import Derived.Test.YtgoidfkdnkjojaaEngC
namespace Go.Eng
open Go.Proofs Go.Proofs.Try

/-! ## a number as bytes -/
noncomputable def putU (n : Nat) : List UInt8 := if n ≤ 127 then [UInt8.ofNat n] else UInt8.ofNat (n % 128 + 128) :: putU (n / 128)
termination_by n
theorem putU_small {n : Nat} (h : n ≤ 127) : putU n = [UInt8.ofNat n] := by rw [putU, if_pos h]
theorem putU_big {n : Nat} (h : ¬ n ≤ 127) : putU n = UInt8.ofNat (n % 128 + 128) :: putU (n / 128) := by rw [putU, if_neg h]
theorem putU_len : ∀ (k n : Nat), n < 128 ^ (k + 1) → (putU n).length ≤ k + 1
  | 0, n, h => by rw [putU_small (by simp at h; omega)]; simp
  | k + 1, n, h => by
    by_cases h1 : n ≤ 127
    · rw [putU_small h1]; simp
    · rw [putU_big h1]
      have := putU_len k (n / 128) (by rw [Nat.pow_succ] at h; omega)
      simp; omega
theorem putU_len9 {n : Nat} (h : n < 4611686018427387904) : (putU n).length ≤ 9 := putU_len 8 n (by have : (128 : Nat) ^ (8 + 1) = 9223372036854775808 := rfl; omega)
theorem eU_of {n : Nat} (h : n < 256) : eU (UInt8.ofNat n) = D.int .u8 (n : Int) := by
  have : (UInt8.ofNat n).toNat = n := by simp; omega
  simp only [eU, this]
theorem tmod128 (n : Nat) : Int.tmod (n : Int) 128 = ((n % 128 : Nat) : Int) := by rw [Int.tmod_eq_emod_of_nonneg (by omega)]; omega
theorem tdiv128 (n : Nat) : Int.tdiv (n : Int) 128 = ((n / 128 : Nat) : Int) := by rw [Int.tdiv_eq_ediv_of_nonneg (by omega)]; omega
theorem lim_u {l : List UInt8} (h : l.length < 4294967296) (x : D) : decide (ni (l.map eU ++ [x]).length ≤ LIM) = true :=
  decide_eq_true (by rw [LIM_eq]; simp only [ni, List.length_append, List.length_map, List.length_cons, List.length_nil]; omega)
theorem snoc_u {l : List UInt8} {n : Nat} (h : n < 256) : l.map eU ++ [D.int .u8 (n : Int)] = (l ++ [UInt8.ofNat n]).map eU := by
  rw [List.map_append, List.map_cons, List.map_nil, eU_of h]
theorem impl_put_loop : ∀ (n : Nat) (out : List UInt8), n < 4611686018427387904 → out.length + (putU n).length < 4294967296 → Limpl_PutNum_4 (n : Int) (out.map eU) = some (.os (1, 0) ((out ++ putU n).map eU), []) := by
  intro n
  induction n using Nat.strongRecOn with
  | _ n ih =>
    intro out hn hl
    rw [Limpl_PutNum_4_eq]
    by_cases h : n ≤ 127
    · rw [br_not (decide_eq_false (by omega)), wrap_u8 (by omega) (by omega), grd_of (lim_u (by omega) _), nam_eq, snoc_u (by omega), putU_small h]
    · rw [putU_big h] at hl ⊢
      rw [List.length_cons] at hl
      have e : ((n % 128 : Nat) : Int) + 128 = ((n % 128 + 128 : Nat) : Int) := by omega
      rw [br_of (decide_eq_true (by omega)), grd_of (by decide), tmod128, w64 (by omega) (by omega), wrap_u8 (by omega) (by omega), grd_of (lim_u (by omega) _), nam_eq, grd_of (by decide), e, snoc_u (by omega), tdiv128, w64 (by omega) (by omega), ih (n / 128) (by omega) _ (by omega) (by simp; omega)]
      simp
theorem spec_put_loop : ∀ (n : Nat) (out : List UInt8), n < 4611686018427387904 → out.length + (putU n).length < 4294967296 → Lspec_PutNum_4 (n : Int) (out.map eU) = some (.os (1, 0) ((out ++ putU n).map eU), []) := by
  intro n
  induction n using Nat.strongRecOn with
  | _ n ih =>
    intro out hn hl
    rw [Lspec_PutNum_4_eq]
    by_cases h : n ≤ 127
    · rw [br_not (decide_eq_false (by omega)), wrap_u8 (by omega) (by omega), grd_of (lim_u (by omega) _), nam_eq, snoc_u (by omega), putU_small h]
    · rw [putU_big h] at hl ⊢
      rw [List.length_cons] at hl
      have e : ((n % 128 : Nat) : Int) + 128 = ((n % 128 + 128 : Nat) : Int) := by omega
      rw [br_of (decide_eq_true (by omega)), grd_of (by decide), tmod128, w64 (by omega) (by omega), wrap_u8 (by omega) (by omega), grd_of (lim_u (by omega) _), nam_eq, grd_of (by decide), e, snoc_u (by omega), tdiv128, w64 (by omega) (by omega), ih (n / 128) (by omega) _ (by omega) (by simp; omega)]
      simp
theorem v_impl_PutNum {n : Nat} (h : n < 4611686018427387904) : V 100 [.int .i64 (n : Int)] = some (.os (1, 0) ((putU n).map eU), []) := by
  rw [eimpl_PutNum, br_not (decide_eq_false (by omega))]
  exact impl_put_loop n [] h (by have := putU_len9 h; simp; omega)
theorem v_spec_PutNum {n : Nat} (h : n < 4611686018427387904) : V 95 [.int .i64 (n : Int)] = some (.os (1, 0) ((putU n).map eU), []) := by
  rw [espec_PutNum, br_not (decide_eq_false (by omega))]
  exact spec_put_loop n [] h (by have := putU_len9 h; simp; omega)
noncomputable def putT (s : List UInt8) : List UInt8 := putU s.length ++ s
theorem v_impl_PutText {s : List UInt8} (h : s.length < 4294967200) : V 146 [.str (mk s)] = some (.os (1, 0) ((putT s).map eU), []) := by
  have hn := v_impl_PutNum (n := s.length) (by omega)
  have hp := putU_len9 (n := s.length) (by omega)
  rw [eimpl_PutText, mk_size]
  simp (disch := first | omega | (simp only [List.length_append, List.length_cons, List.length_nil, List.length_map, mk_size, nat_cast_eq]; omega)) only [↓ocall_ocont, ocont_some, ↓grd_true, ↓unn_nil, ↓asOs_os, ↓nam_eq, dec_t, List.length_map, List.length_append, LIM_eq, nat_cast_eq, hn, bytesD_mk, map_app]
  rfl
theorem v_spec_PutText {s : List UInt8} (h : s.length < 4294967200) : V 147 [.str (mk s)] = some (.os (1, 0) ((putT s).map eU), []) := by
  have hn := v_spec_PutNum (n := s.length) (by omega)
  have hp := putU_len9 (n := s.length) (by omega)
  rw [espec_PutText, mk_size]
  simp (disch := first | omega | (simp only [List.length_append, List.length_cons, List.length_nil, List.length_map, mk_size, nat_cast_eq]; omega)) only [↓ocall_ocont, ocont_some, ↓grd_true, ↓unn_nil, ↓asOs_os, ↓nam_eq, dec_t, List.length_map, List.length_append, LIM_eq, nat_cast_eq, hn, bytesD_mk, map_app]
  rfl

/-! ## a number of bytes -/
/-- of so many bytes at most: the number, and how many they are -/
noncomputable def getN : Nat → List UInt8 → Option (Nat × Nat)
  | 0, _ => none
  | _ + 1, [] => none
  | f + 1, d :: r => if d.toNat < 128 then (if d.toNat = 0 ∧ f < 8 then none else some (d.toNat, 1)) else
    match getN f r with
    | some (v, c) => some (d.toNat % 128 + 128 * v, c + 1)
    | none => none
theorem getN_bound : ∀ (f : Nat) (l : List UInt8) (v c : Nat), getN f l = some (v, c) → v < 128 ^ f ∧ 1 ≤ c ∧ c ≤ l.length
  | 0, l, v, c, h => by cases h
  | f + 1, [], v, c, h => by cases h
  | f + 1, d :: r, v, c, h => by
    simp only [getN] at h
    have hp : 0 < 128 ^ f := Nat.pow_pos (by omega)
    split at h
    · split at h
      · cases h
      · cases h
        rw [Nat.pow_succ, List.length_cons]; omega
    · split at h
      · rename_i v' c' e
        cases h
        have := getN_bound f r v' c' e
        rw [Nat.pow_succ, List.length_cons]; omega
      · cases h
theorem or_add {p q k : Nat} (hp : p < 2 ^ k) (h : p + q * 2 ^ k < 9223372036854775808) : IntKind.wrap .i64 (ni (BitVec.toNat (BitVec.ofInt (IntKind.bits .i64) (p : Int) ||| BitVec.ofInt (IntKind.bits .i64) ((q * 2 ^ k : Nat) : Int)))) = ((p + q * 2 ^ k : Nat) : Int) := by
  have e1 : BitVec.toNat (BitVec.ofInt (IntKind.bits .i64) (p : Int)) = p := by
    show BitVec.toNat (BitVec.ofInt 64 (p : Int)) = p
    rw [BitVec.toNat_ofInt]; omega
  have e2 : BitVec.toNat (BitVec.ofInt (IntKind.bits .i64) ((q * 2 ^ k : Nat) : Int)) = q * 2 ^ k := by
    show BitVec.toNat (BitVec.ofInt 64 ((q * 2 ^ k : Nat) : Int)) = q * 2 ^ k
    rw [BitVec.toNat_ofInt]; omega
  have e3 : p ||| q * 2 ^ k = p + q * 2 ^ k := by
    have := Nat.shiftLeft_add_eq_or_of_lt hp q
    rw [Nat.shiftLeft_eq] at this
    rw [Nat.or_comm, ← this, Nat.add_comm]
  rw [BitVec.toNat_or, e1, e2, e3]
  exact IntWalk.i64_in _ (by simp only [ni]; omega)
noncomputable abbrev noN : D := .tup [.int .i64 0, .int .i64 0, .bool false]
noncomputable def getA (b : List UInt8) (at' k acc : Nat) : D := match getN (9 - k) (b.drop (at' + k)) with
  | some (v, c) => .tup [.int .i64 ((acc + v * 128 ^ k : Nat) : Int), .int .i64 ((at' + k + c : Nat) : Int), .bool true]
  | none => noN
theorem pow7 (k : Nat) : 128 ^ k = 2 ^ (7 * k) := by rw [Nat.pow_mul]
theorem pow_le9 {k : Nat} (h : k ≤ 9) : 128 ^ k ≤ 9223372036854775808 := by
  have : 128 ^ k ≤ 128 ^ 9 := Nat.pow_le_pow_right (by omega) h
  have e : (128 : Nat) ^ 9 = 9223372036854775808 := rfl
  omega
theorem get_step {b : List UInt8} {at' k acc : Nat} {d : UInt8} (hd : b[at' + k]? = some d) (hk : k < 9) (h128 : ¬ d.toNat < 128) : getA b at' k acc = getA b at' (k + 1) (acc + d.toNat % 128 * 128 ^ k) := by
  unfold getA
  obtain ⟨f, hf⟩ : ∃ f, 9 - k = f + 1 := ⟨8 - k, by omega⟩
  have hf2 : 9 - (k + 1) = f := by omega
  rw [hf, hf2, drop_at hd]
  simp only [getN, if_neg h128, Nat.add_assoc]
  cases e : getN f (b.drop (at' + (k + 1))) with
  | none => rfl
  | some p =>
    obtain ⟨v, c⟩ := p
    have e1 : acc + (d.toNat % 128 + 128 * v) * 128 ^ k = acc + (d.toNat % 128 * 128 ^ k + v * 128 ^ (k + 1)) := by
      rw [Nat.add_mul, Nat.pow_succ]
      have : 128 * v * 128 ^ k = v * (128 ^ k * 128) := by rw [Nat.mul_comm 128 v, Nat.mul_assoc, Nat.mul_comm 128]
      omega
    have e2 : k + (c + 1) = k + (1 + c) := by omega
    simp only [e1, e2]
theorem get_end {b : List UInt8} {at' k acc : Nat} {d : UInt8} (hd : b[at' + k]? = some d) (hk : k < 9) (h128 : d.toNat < 128) : getA b at' k acc = if d.toNat = 0 ∧ 0 < k then noN else .tup [.int .i64 ((acc + d.toNat * 128 ^ k : Nat) : Int), .int .i64 ((at' + k + 1 : Nat) : Int), .bool true] := by
  unfold getA
  obtain ⟨f, hf⟩ : ∃ f, 9 - k = f + 1 := ⟨8 - k, by omega⟩
  rw [hf, drop_at hd]
  simp only [getN, if_pos h128]
  by_cases h : d.toNat = 0 ∧ 0 < k
  · rw [if_pos ⟨h.1, by omega⟩, if_pos h]
  · rw [if_neg (fun h' => h ⟨h'.1, by omega⟩), if_neg h]
theorem get_none {b : List UInt8} {at' k acc : Nat} (h : b.length ≤ at' + k ∨ 9 ≤ k) : getA b at' k acc = noN := by
  unfold getA
  rcases h with h | h
  · rw [List.drop_of_length_le h]
    cases 9 - k <;> rfl
  · have : 9 - k = 0 := by omega
    rw [this]; rfl
theorem u8_lt (d : UInt8) : d.toNat < 256 := d.toNat_lt
theorem digit_le {acc k : Nat} {d : UInt8} (hk : k < 9) (ha : acc < 128 ^ k) : acc + d.toNat % 128 * 128 ^ k < 128 ^ (k + 1) := by
  have h2 : d.toNat % 128 * 128 ^ k ≤ 127 * 128 ^ k := Nat.mul_le_mul_right _ (by omega)
  rw [Nat.pow_succ]; omega
theorem wfull {n : Int} (h1 : -9223372036854775808 ≤ n) (h2 : n ≤ 9223372036854775807) : IntKind.wrap IntKind.i64 n = n := IntWalk.i64_in n (by omega)
theorem impl_get_loop {b : List UInt8} (hb : b.length < 4611686018427387904) (at' : Nat) (ha : at' ≤ b.length) : ∀ (f k acc : Nat), f + k = 9 → acc < 128 ^ k → Limpl_GetNum_5 (b.map eU) (at' : Int) (acc : Int) (k : Int) = some (getA b at' k acc, [])
  | 0, k, acc, hk, hacc => by
    rw [Limpl_GetNum_5_eq, br_not (decide_eq_false (by omega)), get_none (.inr (by omega))]
  | f + 1, k, acc, hk, hacc => by
    have hw : IntKind.wrap IntKind.i64 ((at' : Int) + (k : Int)) = ((at' + k : Nat) : Int) := by rw [wfull (by omega) (by omega)]; omega
    rw [Limpl_GetNum_5_eq, br_of (decide_eq_true (by omega)), hw]
    by_cases hlt : at' + k < b.length
    · obtain ⟨d, hd⟩ := get_of_lt hlt
      have hd2 := u8_lt d
      have h9 := pow_le9 (k := k + 1) (by omega)
      have hdl := digit_le (d := d) (by omega) hacc
      have e7 : IntKind.wrap IntKind.i64 (7 * (k : Int)) = ((7 * k : Nat) : Int) := by rw [w64 (by omega) (by omega)]; omega
      have emin : min (7 * k) (IntKind.bits .i64) = 7 * k := by
        show min (7 * k) 64 = 7 * k
        omega
      have epow : ((d.toNat % 128 : Nat) : Int) * 2 ^ (7 * k) = ((d.toNat % 128 * 2 ^ (7 * k) : Nat) : Int) := by
        rw [Int.natCast_mul, Int.natCast_pow]; rfl
      have hq : d.toNat % 128 * 2 ^ (7 * k) < 9223372036854775808 := by rw [← pow7]; omega
      have hor := or_add (p := acc) (q := d.toNat % 128) (k := 7 * k) (by rw [← pow7]; exact hacc) (by rw [← pow7]; omega)
      rw [← pow7] at hor
      rw [br_of (by rw [List.length_map]; exact lt_idx hlt), grd_of (by rw [List.length_map]; exact in_idx hlt), Int.toNat_natCast, oget_map hd, asI_int, grd_of (by decide), e7, grd_of (by simp; omega), tmod128, w64 (n := ((d.toNat % 128 : Nat) : Int)) (by omega) (by omega), Int.toNat_natCast, emin, epow, wfull (n := ((d.toNat % 128 * 2 ^ (7 * k) : Nat) : Int)) (by omega) (by omega), ← pow7, hor]
      have hn1 : IntKind.wrap IntKind.i64 (((at' + k : Nat) : Int) + 1) = ((at' + k + 1 : Nat) : Int) := w64s (by omega)
      by_cases h128 : d.toNat < 128
      · have em : d.toNat % 128 = d.toNat := Nat.mod_eq_of_lt h128
        rw [br_of (decide_eq_true (by omega)), get_end hd (by omega) h128, hn1, em]
        by_cases h0 : d.toNat = 0
        · rw [br_of (by simp [h0])]
          by_cases hk0 : 0 < k
          · rw [br_of (decide_eq_true (by omega)), if_pos ⟨h0, hk0⟩]
          · rw [br_not (decide_eq_false (by omega)), if_neg (fun h => hk0 h.2)]
        · rw [br_not (by simp only [beq_eq_false_iff_ne, ne_eq]; omega), if_neg (fun h => h0 h.1)]
      · rw [br_not (decide_eq_false (by omega)), get_step hd (by omega) h128, w64s (by omega)]
        exact impl_get_loop hb at' ha f (k + 1) _ (by omega) hdl
    · rw [br_not (by rw [List.length_map]; exact ge_idx (by omega)), get_none (.inl (by omega))]
theorem spec_get_loop {b : List UInt8} (hb : b.length < 4611686018427387904) (at' : Nat) (ha : at' ≤ b.length) : ∀ (f k acc : Nat) (u : Int), f + k = 9 → acc < 128 ^ k → (k < 9 → u = ((128 ^ k : Nat) : Int)) → Lspec_GetNum_6 (b.map eU) (at' : Int) (acc : Int) u (k : Int) = some (getA b at' k acc, [])
  | 0, k, acc, u, hk, hacc, hu => by
    rw [Lspec_GetNum_6_eq, br_not (decide_eq_false (by omega)), get_none (.inr (by omega))]
  | f + 1, k, acc, u, hk, hacc, hu => by
    have hw : IntKind.wrap IntKind.i64 ((at' : Int) + (k : Int)) = ((at' + k : Nat) : Int) := by rw [wfull (by omega) (by omega)]; omega
    have hu := hu (by omega)
    subst hu
    rw [Lspec_GetNum_6_eq, br_of (decide_eq_true (by omega)), hw]
    by_cases hlt : at' + k < b.length
    · obtain ⟨d, hd⟩ := get_of_lt hlt
      have hd2 := u8_lt d
      have h9 := pow_le9 (k := k + 1) (by omega)
      have hdl := digit_le (d := d) (by omega) hacc
      have ewd : IntKind.wrap IntKind.i64 (d.toNat : Int) = (d.toNat : Int) := w64 (by omega) (by omega)
      have em0 : ((d.toNat % 128 : Nat) : Int) * ((128 ^ k : Nat) : Int) = ((d.toNat % 128 * 128 ^ k : Nat) : Int) := by rw [Int.natCast_mul]
      have em1 : (acc : Int) + ((d.toNat % 128 * 128 ^ k : Nat) : Int) = ((acc + d.toNat % 128 * 128 ^ k : Nat) : Int) := by omega
      rw [br_of (by rw [List.length_map]; exact lt_idx hlt), grd_of (by rw [List.length_map]; exact in_idx hlt), Int.toNat_natCast, oget_map hd, asI_int, grd_of (by decide), ewd, tmod128, em0, wfull (n := ((d.toNat % 128 * 128 ^ k : Nat) : Int)) (by omega) (by omega), em1, wfull (n := ((acc + d.toNat % 128 * 128 ^ k : Nat) : Int)) (by omega) (by omega)]
      have hn1 : IntKind.wrap IntKind.i64 (((at' + k : Nat) : Int) + 1) = ((at' + k + 1 : Nat) : Int) := w64s (by omega)
      by_cases h128 : d.toNat < 128
      · have em : d.toNat % 128 = d.toNat := Nat.mod_eq_of_lt h128
        rw [br_of (decide_eq_true (by omega)), get_end hd (by omega) h128, hn1, em]
        by_cases h0 : d.toNat = 0
        · rw [br_of (by simp [h0])]
          by_cases hk0 : 0 < k
          · rw [br_of (decide_eq_true (by omega)), if_pos ⟨h0, hk0⟩]
          · rw [br_not (decide_eq_false (by omega)), if_neg (fun h => hk0 h.2)]
        · rw [br_not (by simp only [beq_eq_false_iff_ne, ne_eq]; omega), if_neg (fun h => h0 h.1)]
      · rw [br_not (decide_eq_false (by omega)), get_step hd (by omega) h128, w64s (by omega)]
        refine spec_get_loop hb at' ha f (k + 1) _ _ (by omega) hdl (fun h => ?_)
        have h8 : 128 ^ (k + 1) ≤ 128 ^ 8 := Nat.pow_le_pow_right (by omega) (by omega)
        have e8 : (128 : Nat) ^ 8 = 72057594037927936 := rfl
        have em : ((128 ^ k : Nat) : Int) * 128 = ((128 ^ (k + 1) : Nat) : Int) := by rw [Nat.pow_succ, Int.natCast_mul]; rfl
        rw [em, w64 (by omega) (by omega)]
    · rw [br_not (by rw [List.length_map]; exact ge_idx (by omega)), get_none (.inl (by omega))]
theorem v_impl_GetNum {b : List UInt8} (hb : b.length < 4611686018427387904) {at' : Nat} (ha : at' ≤ b.length) : V 168 [.rs (1, 0) (b.map eU), .int .i64 (at' : Int)] = some (getA b at' 0 0, []) := by
  have h := impl_get_loop hb at' ha 9 0 0 rfl (by decide)
  rw [eimpl_GetNum, List.length_map, w64 (n := ni b.length - 1) (by simp only [ni]; omega) (by simp only [ni]; omega)]
  by_cases hlt : at' < b.length
  · have hwi : wi (at' : Int) 0 (ni b.length - 1) = true := wi_iff.2 ⟨by omega, by simp only [ni]; omega⟩
    rw [oc_i_within (v_within _ _ _), hwi, Bool.not_true, br_false]
    exact h
  · have hwi : wi (at' : Int) 0 (ni b.length - 1) = false := by
      cases e : wi (at' : Int) 0 (ni b.length - 1) with
      | false => rfl
      | true => have := wi_iff.1 e; simp only [ni] at this; omega
    rw [oc_i_within (v_within _ _ _), hwi, Bool.not_false, br_true, get_none (.inl (by omega))]
theorem v_spec_GetNum {b : List UInt8} (hb : b.length < 4611686018427387904) {at' : Nat} (ha : at' ≤ b.length) : V 167 [.rs (1, 0) (b.map eU), .int .i64 (at' : Int)] = some (getA b at' 0 0, []) := by
  have h := spec_get_loop hb at' ha 9 0 0 1 rfl (by decide) (fun _ => rfl)
  rw [espec_GetNum, List.length_map, br_not (decide_eq_false (by omega))]
  by_cases hlt : at' < b.length
  · rw [br_not (decide_eq_false (by simp only [ni]; omega))]
    exact h
  · rw [br_of (decide_eq_true (by simp only [ni]; omega)), get_none (.inl (by omega))]
end Go.Eng
