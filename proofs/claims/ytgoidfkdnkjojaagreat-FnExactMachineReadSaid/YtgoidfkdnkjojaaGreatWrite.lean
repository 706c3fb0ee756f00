/- what is written of a value: the reference's side -/
import Derived.Test.YtgoidfkdnkjojaaGreatKeep2
import Derived.Test.YtgoidfkdnkjojaaGreatDig
namespace Go.Eng
open Go.Proofs Go.Proofs.Tryz

/-- a value without parts -/
noncomputable def atomB (x : Nd) : List UInt8 :=
  if x.kind = 1 then [40, 41]
  else if x.kind = 2 then (if x.n = 1 then [35, 116] else [35, 102])
  else if x.kind = 3 then digI x.n
  else if x.kind = 4 then x.s.data.toList
  else if x.kind = 6 then [35, 102, 117, 110] ++ digI x.n
  else if x.kind = 7 then [35, 107, 111, 110, 116] ++ digI x.n
  else if x.kind = 8 then [35, 112, 114, 105, 109] ++ digI x.n
  else [35, 112, 105, 100] ++ digI x.n
/-- a value (false), or what follows the first of a pair (true), put behind a text -/
noncomputable def wr (p : List Nd) : Nat → Bool → Nat → List UInt8 → List UInt8
  | 0, _, _, out => out
  | g + 1, false, v, out => if out.length > 400 then out else
    match p[v]? with
    | some x => if x.kind = 5 then wr p g true x.b.toNat (wr p g false x.a.toNat (out ++ [40])) else out ++ atomB x
    | none => out
  | g + 1, true, v, out =>
    match p[v]? with
    | some x => if x.kind = 5 ∧ out.length ≤ 400 then wr p g true x.b.toNat (wr p g false x.a.toNat (out ++ [32]))
      else if x.kind = 1 then out ++ [41] else wr p g false v (out ++ [32, 46, 32]) ++ [41]
    | none => out
theorem nmOk_len {s : ByteArray} (h : nmOk s = true) : s.size ≤ 12 := by
  simp only [nmOk, Bool.and_eq_true, wi, decide_eq_true_eq] at h; omega
theorem okN_digits {x : Nd} {h : Int} (ho : okN x h = true) (hk : x.kind ≠ 4) : x.n.natAbs ≤ 1000000000 := by
  unfold okN at ho
  repeat' split at ho
  all_goals (try simp only [Bool.and_eq_true, wi, decide_eq_true_eq] at ho)
  all_goals (first | omega | (cases ho))
theorem okN_name {x : Nd} {h : Int} (ho : okN x h = true) (hk : x.kind = 4) : nmOk x.s = true := by
  simp [okN, hk] at ho; exact ho.2.1
theorem digI_len12 {n : Int} (h : n.natAbs ≤ 1000000000) : (digI n).length ≤ 12 := by
  have := digU_len 9 n.natAbs (by simpa using (by omega : n.natAbs < 10000000000))
  unfold digI; split <;> simp <;> omega
theorem atomB_len {x : Nd} {h : Int} (ho : okN x h = true) : (atomB x).length ≤ 40 := by
  by_cases h4 : x.kind = 4
  · have := nmOk_len (okN_name ho h4)
    have e : x.s.data.toList.length = x.s.size := by rw [Array.length_toList]; rfl
    simp [atomB, h4]
    omega
  · have := digI_len12 (okN_digits ho h4)
    unfold atomB
    repeat' split
    all_goals (first | contradiction | (simp; done) | (simp; omega) | omega)
/-- how long it becomes -/
theorem wr_len {p : List Nd} (hp : okPool p = true) : ∀ (g : Nat) (m : Bool) (v : Nat) (out : List UInt8),
    (out.length ≤ 400 → (wr p g m v out).length ≤ 400 + 50 * v + (if m then 50 else 45)) ∧ (400 < out.length → (wr p g m v out).length ≤ out.length + (if m then 4 else 0))
  | 0, m, v, out => by simp only [wr]; exact ⟨fun h => by split <;> omega, fun h => by split <;> omega⟩
  | g + 1, false, v, out => by
    simp only [wr]
    refine ⟨fun h => ?_, fun h => by rw [if_pos h]; simp⟩
    rw [if_neg (by omega)]
    split
    · rename_i x hx
      have ho := okPool_get hp hx
      split
      · rename_i h5
        have hk := okN_pair ho h5
        have h1 := wr_len hp g false x.a.toNat (out ++ [40])
        have h2 := wr_len hp g true x.b.toNat (wr p g false x.a.toNat (out ++ [40]))
        simp only [List.length_append, List.length_cons, List.length_nil, Bool.false_eq_true, if_false, if_true] at h1 h2 ⊢
        by_cases c1 : out.length + 1 ≤ 400
        · have h3 := h1.1 c1
          by_cases c2 : (wr p g false x.a.toNat (out ++ [40])).length ≤ 400
          · have := h2.1 c2; omega
          · have := h2.2 (by omega); omega
        · have h3 := h1.2 (by omega)
          by_cases c2 : (wr p g false x.a.toNat (out ++ [40])).length ≤ 400
          · have := h2.1 c2; omega
          · have := h2.2 (by omega); omega
      · have := atomB_len ho
        simp only [List.length_append, Bool.false_eq_true, if_false]; omega
    · simp; omega
  | g + 1, true, v, out => by
    simp only [wr]
    split
    · rename_i x hx
      have ho := okPool_get hp hx
      split
      · rename_i h5
        have hk := okN_pair ho h5.1
        have h1 := wr_len hp g false x.a.toNat (out ++ [32])
        have h2 := wr_len hp g true x.b.toNat (wr p g false x.a.toNat (out ++ [32]))
        simp only [List.length_append, List.length_cons, List.length_nil, Bool.false_eq_true, if_false, if_true] at h1 h2 ⊢
        refine ⟨fun h => ?_, fun h => by omega⟩
        by_cases c1 : out.length + 1 ≤ 400
        · have h3 := h1.1 c1
          by_cases c2 : (wr p g false x.a.toNat (out ++ [32])).length ≤ 400
          · have := h2.1 c2; omega
          · have := h2.2 (by omega); omega
        · have h3 := h1.2 (by omega)
          by_cases c2 : (wr p g false x.a.toNat (out ++ [32])).length ≤ 400
          · have := h2.1 c2; omega
          · have := h2.2 (by omega); omega
      · split
        · simp only [List.length_append, List.length_cons, List.length_nil, if_true]; omega
        · have h1 := wr_len hp g false v (out ++ [32, 46, 32])
          simp only [List.length_append, List.length_cons, List.length_nil, Bool.false_eq_true, if_false, if_true] at h1 ⊢
          by_cases c1 : out.length + 3 ≤ 400
          · have := h1.1 c1; omega
          · have := h1.2 (by omega); omega
    · simp only [if_true]; omega

/-! ## the reference -/
theorem lim_mk {a b : List UInt8} (h : a.length + b.length ≤ 4294967296) : decide (ni ((mk a).size + (mk b).size) ≤ LIM) = true :=
  decide_eq_true (by rw [LIM_eq, mk_size, mk_size]; simp only [ni]; omega)
theorem lit1 (a : UInt8) : (⟨#[a]⟩ : ByteArray) = mk [a] := rfl
theorem lit2 (a b : UInt8) : (⟨#[a, b]⟩ : ByteArray) = mk [a, b] := rfl
theorem lit3 (a b c : UInt8) : (⟨#[a, b, c]⟩ : ByteArray) = mk [a, b, c] := rfl
theorem lit4 (a b c d : UInt8) : (⟨#[a, b, c, d]⟩ : ByteArray) = mk [a, b, c, d] := rfl
theorem lit5 (a b c d e : UInt8) : (⟨#[a, b, c, d, e]⟩ : ByteArray) = mk [a, b, c, d, e] := rfl
theorem full_mk (out : List UInt8) : decide (ni (mk out).size > 400) = decide (out.length > 400) := by
  rw [mk_size]; simp only [ni, gt_iff_lt]
  by_cases h : 400 < out.length
  · rw [decide_eq_true h, decide_eq_true (by omega)]
  · rw [decide_eq_false h, decide_eq_false (by omega)]
theorem okN_kind {x : Nd} {h : Int} (ho : okN x h = true) : 1 ≤ x.kind ∧ x.kind ≤ 9 := by
  unfold okN at ho
  repeat' split at ho
  all_goals (first | omega | (cases ho))
theorem wr_small {p : List Nd} (hp : okPool p = true) (g : Nat) {v : Nat} (hv : v < p.length) {out : List UInt8} (h : out.length ≤ 401) : (wr p g false v out).length ≤ 200000 := by
  have hl := okPool_len hp
  have h1 := wr_len hp g false v out
  simp only [Bool.false_eq_true, if_false] at h1
  by_cases c : out.length ≤ 400
  · have := h1.1 c; omega
  · have := h1.2 (by omega); omega
/-- what is written of a value; nothing where it is too long -/
noncomputable def writeP (p : List Nd) (v : Int) : List UInt8 :=
  if okPool p = true ∧ wi v 0 ((p.length : Int) - 1) = true then (if (wr p (2 * v.toNat + 1) false v.toNat []).length > 400 then [] else wr p (2 * v.toNat + 1) false v.toNat []) else []
end Go.Eng
