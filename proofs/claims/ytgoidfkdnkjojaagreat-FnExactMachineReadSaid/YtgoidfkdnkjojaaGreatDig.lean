/- decimal digits, on both sides -/
import Derived.Test.YtgoidfkdnkjojaaGreatBytes
import Derived.Test.YtgoidfkdnkjojaaGreatCalls
namespace Go.Eng
open Go.Proofs Go.Proofs.Tryz

theorem w32 {n : Int} (h0 : 0 ≤ n) (h1 : n < 1000) : IntKind.wrap .i32 n = n := by
  simp [IntKind.wrap, IntKind.bits, IntKind.signed]; omega
theorem tdiv10 (n : Nat) : Int.tdiv (n : Int) 10 = ((n / 10 : Nat) : Int) := by
  rw [Int.tdiv_eq_ediv_of_nonneg (by omega)]; omega
theorem tmod10 (n : Nat) : Int.tmod (n : Int) 10 = ((n % 10 : Nat) : Int) := by
  rw [Int.tmod_eq_emod_of_nonneg (by omega)]; omega
theorem enc_digit {d : Nat} (h : d < 10) : Utf8.encode (IntKind.wrap .i32 (IntKind.wrap .i64 (48 + (d : Int)))) = mk [UInt8.ofNat (48 + d)] := by
  rw [w64 (by omega) (by omega), w32 (by omega) (by omega), encode_digit (by omega) (by omega)]
  congr 3
theorem lim_dig {a b : List UInt8} (ha : a.length ≤ 1000) (hb : b.length ≤ 1000) : decide (ni ((mk a).size + (mk b).size) ≤ LIM) = true :=
  decide_eq_true (by rw [LIM_eq, mk_size, mk_size]; simp only [ni]; omega)
theorem digU_len20 {n : Nat} (h : n < 1000000000000000000) : (digU n).length ≤ 20 := by
  have := digU_len 18 n (by omega)
  omega
theorem u8_digit {d : Nat} (h : d < 10) : IntKind.wrap .u8 (IntKind.wrap .i64 (48 + (d : Int))) = 48 + (d : Int) := by
  rw [w64 (by omega) (by omega), wrap_u8 (by omega) (by omega)]
end Go.Eng
