/- decimal digits, on both sides -/
import Derived.Test.YtgoidfkdnkjojaaBytes
import Derived.Test.YtgoidfkdnkjojaaCalls
namespace Go.Eng
open Go.Proofs Go.Proofs.Try

theorem w32 {n : Int} (h0 : 0 ≤ n) (h1 : n < 1000) : IntKind.wrap .i32 n = n := by
  simp [IntKind.wrap, IntKind.bits, IntKind.signed]; omega
theorem tdiv10 (n : Nat) : Int.tdiv (n : Int) 10 = ((n / 10 : Nat) : Int) := by
  rw [Int.tdiv_eq_ediv_of_nonneg (by omega)]; omega
theorem tmod10 (n : Nat) : Int.tmod (n : Int) 10 = ((n % 10 : Nat) : Int) := by
  rw [Int.tmod_eq_emod_of_nonneg (by omega)]; omega
theorem enc_digit {d : Nat} (h : d < 10) : Utf8.encode (IntKind.wrap .i32 (IntKind.wrap .i64 (48 + (d : Int)))) = mk [UInt8.ofNat (48 + d)] := by
  rw [w64 (by omega) (by omega), w32 (by omega) (by omega), encode_digit (by omega) (by omega)]
  congr 3
theorem lim_dig {a b : List UInt8} (ha : a.length ≤ 1000) (hb : b.length ≤ 1000) : decide (ni ((mk a).size + (mk b).size) ≤ LIM) = true :=
  decide_eq_true (by rw [LIM_eq, mk_size, mk_size]; simp only [ni]; omega)
theorem digU_len20 {n : Nat} (h : n < 1000000000000000000) : (digU n).length ≤ 20 := by
  have := digU_len 18 n (by omega)
  omega
theorem decimal_nat : ∀ (n : Nat), n < 1000000000000000000 → V 120 [.int .i64 (n : Int)] = some (.str (mk (digU n)), []) := by
  intro n
  induction n using Nat.strongRecOn with
  | _ n ih =>
    intro hn
    rw [eimpl_decimal, br_not (decide_eq_false (by omega)), br_not (decide_eq_false (by omega))]
    by_cases h : n < 10
    · rw [br_of (decide_eq_true (by omega)), enc_digit h, digU_small h]
    · rw [br_not (decide_eq_false (by omega)), grd_of (by decide), tdiv10, w64 (by omega) (by omega), oc_i_decimal (ih (n / 10) (by omega) (by omega)), grd_of (by decide), tmod10, enc_digit (by omega), grd_of (lim_dig (by have := digU_len20 (n := n / 10) (by omega); omega) (by simp)), mk_append, digU_big h]
theorem decimal_neg : ∀ (n : Nat), 0 < n → n < 1000000000000000000 → V 120 [.int .i64 (-(n : Int))] = some (.str (mk (45 :: digU n)), []) := by
  intro n
  induction n using Nat.strongRecOn with
  | _ n ih =>
    intro h0 hn
    rw [eimpl_decimal, br_of (decide_eq_true (by omega))]
    by_cases h : n < 10
    · have hd := decimal_nat n hn
      rw [br_of (decide_eq_true (by omega)), show (0 : Int) - -(n : Int) = n by omega, w64 (by omega) (by omega), oc_i_decimal hd]
      rw [← show mk [45] = ⟨#[45]⟩ from rfl, grd_of (lim_dig (a := [45]) (by simp) (by have := digU_len20 hn; omega)), mk_append]
      rfl
    · have e1 : Int.tdiv (-(n : Int)) 10 = -((n / 10 : Nat) : Int) := by rw [Int.neg_tdiv, tdiv10]
      have e2 : Int.tmod (-(n : Int)) 10 = -((n % 10 : Nat) : Int) := by rw [Int.neg_tmod, tmod10]
      have hd := decimal_nat (n % 10) (by omega)
      rw [br_not (decide_eq_false (by omega)), br_of (decide_eq_true (by omega)), grd_of (by decide), e1, w64 (by omega) (by omega), oc_i_decimal (ih (n / 10) (by omega) (by omega) (by omega)), grd_of (by decide), e2, show (0 : Int) - -((n % 10 : Nat) : Int) = ((n % 10 : Nat) : Int) by omega, w64 (by omega) (by omega), oc_i_decimal hd]
      rw [grd_of (lim_dig (by have := digU_len20 (n := n / 10) (by omega); simp; omega) (by have := digU_len20 (n := n % 10) (by omega); omega)), mk_append, digU_big h, digU_small (show n % 10 < 10 by omega)]
      rfl
theorem v_decimal {n : Int} (h : n.natAbs < 1000000000000000000) : V 120 [.int .i64 n] = some (.str (mk (digI n)), []) := by
  by_cases h0 : n < 0
  · have := decimal_neg n.natAbs (by omega) h
    rw [show -(n.natAbs : Int) = n by omega] at this
    rw [this, digI, if_pos h0]
  · have := decimal_nat n.natAbs h
    rw [show (n.natAbs : Int) = n by omega] at this
    rw [this, digI, if_neg h0]
theorem u8_digit {d : Nat} (h : d < 10) : IntKind.wrap .u8 (IntKind.wrap .i64 (48 + (d : Int))) = 48 + (d : Int) := by
  rw [w64 (by omega) (by omega), wrap_u8 (by omega) (by omega)]
theorem digits_loop : ∀ (n : Nat) (acc : List UInt8), n < 1000000000000000000 → acc.length + (if n = 0 then [] else digU n).length ≤ 1000 → Lspec_l3Digits_6 (n : Int) (mk acc) = some (.str (mk ((if n = 0 then [] else digU n) ++ acc)), []) := by
  intro n
  induction n using Nat.strongRecOn with
  | _ n ih =>
    intro acc hn hl
    by_cases h0 : n = 0
    · subst h0
      rw [Lspec_l3Digits_6_eq, br_not (by rfl), if_pos rfl]; rfl
    · have hd : digU n = (if n / 10 = 0 then [] else digU (n / 10)) ++ [UInt8.ofNat (48 + n % 10)] := by
        by_cases h : n < 10
        · rw [digU_small h, if_pos (by omega), show n % 10 = n by omega]; rfl
        · rw [digU_big h, if_neg (by omega)]
      rw [if_neg h0, hd] at hl
      simp only [List.length_append, List.length_cons, List.length_nil] at hl
      rw [Lspec_l3Digits_6_eq, br_of (decide_eq_true (by omega)), grd_of (by decide), tmod10, u8_digit (by omega), obytes_one]
      have e : UInt8.ofNat (48 + ((n % 10 : Nat) : Int)).toNat = UInt8.ofNat (48 + n % 10) := by congr 1
      rw [e, grd_of (lim_dig (by simp) (by omega)), grd_of (by decide), tdiv10, w64 (by omega) (by omega), mk_append, ih (n / 10) (by omega) _ (by omega) (by simp only [List.length_append, List.length_cons, List.length_nil]; omega), if_neg h0, hd]
      simp
theorem l3Digits_nat {n : Nat} (h : n < 1000000000000000000) : V 126 [.int .i64 (n : Int)] = some (.str (mk (digU n)), []) := by
  rw [espec_l3Digits, br_not (decide_eq_false (by omega))]
  by_cases h0 : n = 0
  · subst h0
    rw [br_of (by rfl), digU_small (by omega)]; rfl
  · have := digits_loop n [] h (by have := digU_len20 h; rw [if_neg h0]; simp; omega)
    rw [if_neg h0, List.append_nil] at this
    rw [br_not (by simp; omega)]
    exact this
theorem v_l3Digits {n : Int} (h : n.natAbs < 1000000000000000000) : V 126 [.int .i64 n] = some (.str (mk (digI n)), []) := by
  by_cases h0 : n < 0
  · have hd := l3Digits_nat h
    rw [espec_l3Digits, br_of (decide_eq_true h0), show (0 : Int) - n = (n.natAbs : Int) by omega, w64 (by omega) (by omega), oc_s_l3Digits hd]
    rw [← show mk [45] = ⟨#[45]⟩ from rfl, grd_of (lim_dig (a := [45]) (by simp) (by have := digU_len20 h; omega)), mk_append, digI, if_pos h0]
    rfl
  · have := l3Digits_nat h
    rw [show (n.natAbs : Int) = n by omega] at this
    rw [this, digI, if_neg h0]
end Go.Eng
