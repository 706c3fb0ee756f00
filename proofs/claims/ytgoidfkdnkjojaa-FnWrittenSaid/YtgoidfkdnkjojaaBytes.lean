/- bytes, texts, digits: plain facts -/
import Derived.Test.YtgoidfkdnkjojaaEngC
namespace Go.Eng

noncomputable def mk (l : List UInt8) : ByteArray := ⟨l.toArray⟩
theorem mk_size (l : List UInt8) : (mk l).size = l.length := by simp [mk, ByteArray.size]
theorem mk_append (a b : List UInt8) : mk a ++ mk b = mk (a ++ b) := by
  apply ByteArray.ext
  simp [mk]
theorem mk_data (l : List UInt8) : (mk l).data.toList = l := by simp [mk]
theorem mk_of (s : ByteArray) : mk s.data.toList = s := by
  apply ByteArray.ext
  simp [mk]
theorem mk_inj {a b : List UInt8} : mk a = mk b ↔ a = b := by
  constructor
  · intro h
    have := congrArg (fun s => s.data.toList) h
    simpa [mk_data] using this
  · rintro rfl; rfl
theorem toList_loop (s : ByteArray) : ∀ (k i : Nat) (acc : List UInt8), k = s.size - i → ByteArray.toList.loop s i acc = acc.reverse ++ s.data.toList.drop i
  | 0, i, acc, h => by
    unfold ByteArray.toList.loop
    have hs : s.data.toList.length = s.size := by rw [Array.length_toList]; rfl
    rw [if_neg (by omega), List.drop_of_length_le (by omega), List.append_nil]
  | k + 1, i, acc, h => by
    unfold ByteArray.toList.loop
    have hs : s.data.toList.length = s.size := by rw [Array.length_toList]; rfl
    rw [if_pos (by omega), toList_loop s k (i + 1) _ (by omega)]
    have hi : i < s.data.toList.length := by omega
    rw [List.drop_eq_getElem_cons hi]
    have hi' : i < s.data.size := by simpa using hi
    have hg : s.get! i = s.data.toList[i] := by
      show s.data[i]! = _
      rw [getElem!_pos s.data i hi', Array.getElem_toList]
    rw [hg]
    simp
theorem toList_data (s : ByteArray) : s.toList = s.data.toList := by
  have := toList_loop s s.size 0 [] (by omega)
  rw [List.reverse_nil, List.nil_append, List.drop_zero] at this
  exact this
theorem strEq_eq (x y : ByteArray) : strEq x y = decide (x = y) := by
  unfold strEq
  rw [toList_data, toList_data]
  by_cases h : x = y
  · subst h; simp
  · have h2 : ¬ x.data.toList = y.data.toList := by
      intro e; apply h; rw [← mk_of x, ← mk_of y, e]
    rw [decide_eq_false h]
    exact beq_eq_false_iff_ne.2 h2
theorem strEq_mk (a b : List UInt8) : strEq (mk a) (mk b) = decide (a = b) := by
  rw [strEq_eq]; simp only [mk_inj]
theorem strEq_mk_l (a b : List UInt8) : strEq (mk a) ⟨b.toArray⟩ = decide (a = b) := strEq_mk a b

/-- a byte, as data -/
noncomputable abbrev eU (b : UInt8) : D := .int .u8 (b.toNat : Int)
theorem bt_mk {l : List UInt8} {i : Nat} {x : UInt8} (h : l[i]? = some x) : bt (mk l) (i : Int) = (x.toNat : Int) := by
  simp only [bt, mk_data, Int.toNat_natCast]
  rw [List.getD_eq_getElem?_getD, h]; rfl
theorem extract_mk (l : List UInt8) (a b : Nat) : (mk l).extract a b = mk ((l.drop a).take (b - a)) := by
  apply ByteArray.ext
  simp [mk, ByteArray.data_extract, List.extract_eq_take_drop]
theorem bytesD_mk (l : List UInt8) : bytesD (mk l) = l.map eU := by simp [bytesD, mk_data]
theorem obytes_map {R : Type} (l : List UInt8) (K : ByteArray → Option R) : obytes (l.map eU) K = K (mk l) := by
  have hm : ∀ (f : D → Option UInt8), (∀ x : UInt8, f (eU x) = some x) → ∀ l : List UInt8, (l.map eU).mapM f = some l := by
    intro f hf l
    induction l with
    | nil => rfl
    | cons x l ih => rw [List.map_cons, List.mapM_cons, hf, ih]; rfl
  unfold obytes
  rw [hm _ (fun x => by simp [])]; rfl
theorem obytes_one {R : Type} (n : Int) (K : ByteArray → Option R) : obytes [.int .u8 n] K = K (mk [UInt8.ofNat n.toNat]) := rfl
theorem wrap_u8 {n : Int} (h0 : 0 ≤ n) (h1 : n < 256) : IntKind.wrap .u8 n = n := by
  simp [IntKind.wrap, IntKind.bits, IntKind.signed]; omega

/-! ## decimal digits -/
noncomputable def digU (n : Nat) : List UInt8 := if n < 10 then [UInt8.ofNat (48 + n)] else digU (n / 10) ++ [UInt8.ofNat (48 + n % 10)]
termination_by n
noncomputable def digI (n : Int) : List UInt8 := if n < 0 then 45 :: digU n.natAbs else digU n.natAbs
theorem digU_small {n : Nat} (h : n < 10) : digU n = [UInt8.ofNat (48 + n)] := by rw [digU, if_pos h]
theorem digU_big {n : Nat} (h : ¬ n < 10) : digU n = digU (n / 10) ++ [UInt8.ofNat (48 + n % 10)] := by rw [digU, if_neg h]
theorem digU_len : ∀ (k n : Nat), n < 10 ^ (k + 1) → (digU n).length ≤ k + 1
  | 0, n, h => by rw [digU_small (by simpa using h)]; simp
  | k + 1, n, h => by
    by_cases h10 : n < 10
    · rw [digU_small h10]; simp
    · rw [digU_big h10]
      have := digU_len k (n / 10) (by rw [Nat.pow_succ] at h; omega)
      simp; omega
theorem digU_pos (n : Nat) : 0 < (digU n).length := by
  by_cases h10 : n < 10
  · rw [digU_small h10]; simp
  · rw [digU_big h10]; simp
theorem digI_len {n : Int} (h : n.natAbs < 10000000000000000000) : (digI n).length ≤ 20 := by
  have := digU_len 18 n.natAbs (by simpa using h)
  unfold digI; split <;> simp <;> omega
theorem encode_digit {n : Int} (h0 : 0 ≤ n) (h1 : n < 10) : Utf8.encode (48 + n) = mk [UInt8.ofNat (48 + n).toNat] := by
  obtain ⟨k, rfl⟩ := Int.eq_ofNat_of_zero_le h0
  have : k = 0 ∨ k = 1 ∨ k = 2 ∨ k = 3 ∨ k = 4 ∨ k = 5 ∨ k = 6 ∨ k = 7 ∨ k = 8 ∨ k = 9 := by omega
  rcases this with rfl | rfl | rfl | rfl | rfl | rfl | rfl | rfl | rfl | rfl <;> rfl
end Go.Eng
