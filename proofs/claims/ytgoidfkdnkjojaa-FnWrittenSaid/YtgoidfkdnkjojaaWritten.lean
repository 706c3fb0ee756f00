/- what is written is well formed; the law -/
import Derived.Test.YtgoidfkdnkjojaaRead3
import Derived.Test.YtgoidfkdnkjojaaDrew
import Derived.Test.YtgoidfkdnkjojaaWrite3
namespace Go.Eng
open Go.Proofs Go.Proofs.Try
set_option maxHeartbeats 4000000

/-- depth, and whether a space has just been (or the text begins) -/
noncomputable def sc : List UInt8 → Nat → Bool → Option (Nat × Bool)
  | [], d, s => some (d, s)
  | c :: l, d, s => if c = 40 then sc l (d + 1) false else if c = 41 then (if d = 0 then none else sc l (d - 1) false) else if c = 32 then (if s = true then none else sc l d true) else sc l d false
theorem sc_app : ∀ (a b : List UInt8) (d : Nat) (s : Bool) (d2 : Nat) (s2 : Bool), sc a d s = some (d2, s2) → sc (a ++ b) d s = sc b d2 s2
  | [], b, d, s, d2, s2, h => by simp only [sc, Option.some.injEq, Prod.mk.injEq] at h; obtain ⟨rfl, rfl⟩ := h; rfl
  | c :: a, b, d, s, d2, s2, h => by
    rw [List.cons_append, sc]
    rw [sc] at h
    by_cases h1 : c = 40
    · rw [if_pos h1] at h ⊢; exact sc_app a b _ _ d2 s2 h
    rw [if_neg h1] at h ⊢
    by_cases h2 : c = 41
    · rw [if_pos h2] at h ⊢
      by_cases h3 : d = 0
      · rw [if_pos h3] at h; cases h
      · rw [if_neg h3] at h ⊢; exact sc_app a b _ _ d2 s2 h
    rw [if_neg h2] at h ⊢
    by_cases h3 : c = 32
    · rw [if_pos h3] at h ⊢
      by_cases h4 : s = true
      · rw [if_pos h4] at h; cases h
      · rw [if_neg h4] at h ⊢; exact sc_app a b _ _ d2 s2 h
    rw [if_neg h3] at h ⊢
    exact sc_app a b _ _ d2 s2 h
noncomputable def plainU (c : UInt8) : Bool := !(c == 40) && (!(c == 41) && !(c == 32))
theorem sc_plain : ∀ (l : List UInt8) (d : Nat) (s : Bool), l.all plainU = true → l ≠ [] → sc l d s = some (d, false)
  | [], d, s, _, h => absurd rfl h
  | c :: l, d, s, h, _ => by
    rw [List.all_cons, Bool.and_eq_true] at h
    have hc := h.1
    simp only [plainU, Bool.and_eq_true, Bool.not_eq_true', beq_eq_false_iff_ne, ne_eq] at hc
    rw [sc, if_neg hc.1, if_neg hc.2.1, if_neg hc.2.2]
    match l, h.2 with
    | [], _ => rfl
    | y :: r, h2 => exact sc_plain (y :: r) d false h2 (by simp)
theorem plain_of {c : UInt8} (h : c.toNat ≠ 40 ∧ c.toNat ≠ 41 ∧ c.toNat ≠ 32) : plainU c = true := by
  simp only [plainU, Bool.and_eq_true, Bool.not_eq_true', beq_eq_false_iff_ne, ne_eq]
  refine ⟨?_, ?_, ?_⟩ <;> (rintro rfl; revert h; decide)
theorem plain_digU : ∀ (n : Nat), (digU n).all plainU = true := by
  intro n
  induction n using Nat.strongRecOn with
  | _ n ih =>
    have hd : ∀ d : Nat, d < 10 → plainU (UInt8.ofNat (48 + d)) = true := fun d h => plain_of (by
      have : (UInt8.ofNat (48 + d)).toNat = 48 + d := by simp; omega
      omega)
    by_cases h : n < 10
    · rw [digU_small h, List.all_cons, hd n h]; rfl
    · rw [digU_big h, List.all_append, ih (n / 10) (by omega), List.all_cons, hd (n % 10) (by omega)]; rfl
theorem digU_ne (n : Nat) : digU n ≠ [] := by
  intro h
  have := digU_pos n
  rw [h] at this; simp at this
theorem plain_digI (n : Int) : (digI n).all plainU = true ∧ digI n ≠ [] := by
  unfold digI
  split
  · exact ⟨by rw [List.all_cons, plain_digU]; rfl, by simp⟩
  · exact ⟨plain_digU _, digU_ne _⟩
theorem nmB_plain {x : UInt8} (h : nmB (x.toNat : Int) = true) : plainU x = true := by
  apply plain_of
  refine ⟨?_, ?_, ?_⟩ <;> (intro e; rw [e] at h; revert h; unfold nmB; decide)
theorem plain_name {s : ByteArray} (h : nmOk s = true) : s.data.toList.all plainU = true ∧ s.data.toList ≠ [] := by
  have hs : mk s.data.toList = s := mk_of s
  have hl : s.data.toList.length = s.size := by rw [Array.length_toList]; rfl
  have h0 := h
  simp only [nmOk, Bool.and_eq_true, wi, decide_eq_true_eq] at h
  refine ⟨?_, ?_⟩
  · rw [List.all_eq_true]
    intro x hx
    obtain ⟨j, hj⟩ := List.getElem?_of_mem hx
    have hlt := lt_of_get hj
    have h2 := h.2
    rw [← hs] at h2
    exact nmB_plain (nmFrom_get _ _ h2 j (Nat.zero_le _) (by rw [mk_size]; omega) x hj)
  · intro e
    rw [e] at hl
    simp at hl
    omega
theorem sc_atom {x : Nd} {h : Int} (ho : okN x h = true) (d : Nat) (s : Bool) : sc (atomB x) d s = some (d, false) := by
  have hd := plain_digI x.n
  unfold atomB
  by_cases h1 : x.kind = 1
  · rw [if_pos h1]; rfl
  rw [if_neg h1]
  by_cases h2 : x.kind = 2
  · rw [if_pos h2]; split <;> exact sc_plain _ _ _ (by decide) (by simp)
  rw [if_neg h2]
  by_cases h3 : x.kind = 3
  · rw [if_pos h3]; exact sc_plain _ _ _ hd.1 hd.2
  rw [if_neg h3]
  by_cases h4 : x.kind = 4
  · rw [if_pos h4]
    have hn := plain_name (okN_name ho h4)
    exact sc_plain _ _ _ hn.1 hn.2
  rw [if_neg h4]
  have hp : ∀ l : List UInt8, l.all plainU = true → sc (l ++ digI x.n) d s = some (d, false) := fun l hl => sc_plain _ _ _ (by rw [List.all_append, hl, hd.1]; rfl) (by simp [hd.2])
  repeat' split
  all_goals exact hp _ (by decide)
theorem wr_ext (p : List Nd) : ∀ (g : Nat) (m : Bool) (v : Nat) (out : List UInt8), ∃ w, wr p g m v out = out ++ w
  | 0, m, v, out => ⟨[], by simp [wr]⟩
  | g + 1, false, v, out => by
    rw [wr]
    split
    · exact ⟨[], by simp⟩
    split
    · rename_i x hx
      split
      · obtain ⟨w1, e1⟩ := wr_ext p g false x.a.toNat (out ++ [40])
        obtain ⟨w2, e2⟩ := wr_ext p g true x.b.toNat (wr p g false x.a.toNat (out ++ [40]))
        exact ⟨[40] ++ w1 ++ w2, by rw [e2, e1]; simp⟩
      · exact ⟨atomB x, rfl⟩
    · exact ⟨[], by simp⟩
  | g + 1, true, v, out => by
    rw [wr]
    split
    · rename_i x hx
      split
      · obtain ⟨w1, e1⟩ := wr_ext p g false x.a.toNat (out ++ [32])
        obtain ⟨w2, e2⟩ := wr_ext p g true x.b.toNat (wr p g false x.a.toNat (out ++ [32]))
        exact ⟨[32] ++ w1 ++ w2, by rw [e2, e1]; simp⟩
      split
      · exact ⟨[41], rfl⟩
      · obtain ⟨w1, e1⟩ := wr_ext p g false v (out ++ [32, 46, 32])
        exact ⟨[32, 46, 32] ++ w1 ++ [41], by rw [e1]; simp⟩
    · exact ⟨[], by simp⟩
noncomputable def good (m : Bool) (w : List UInt8) : Prop := if m then ∀ d, sc w (d + 1) false = some (d, false) else ∀ d s, sc w d s = some (d, false)
theorem good_f {w : List UInt8} (h : good false w) (d : Nat) (s : Bool) : sc w d s = some (d, false) := h d s
theorem good_t {w : List UInt8} (h : good true w) (d : Nat) : sc w (d + 1) false = some (d, false) := h d
theorem wr_good {p : List Nd} (hp : okPool p = true) : ∀ (g : Nat) (m : Bool) (v : Nat) (out : List UInt8), v < p.length → 2 * v + (if m then 2 else 1) ≤ g → (wr p g m v out).length ≤ 400 → ∃ w, wr p g m v out = out ++ w ∧ good m w
  | 0, m, v, out, _, h, _ => by cases m <;> simp at h
  | g + 1, false, v, out, hv, hg, hl => by
    simp only [Bool.false_eq_true, if_false] at hg
    obtain ⟨x, hx⟩ := get_of_lt (l := p) (i := v) hv
    have ho := okPool_get hp hx
    obtain ⟨w, hw⟩ := wr_ext p (g + 1) false v out
    have hol : out.length ≤ 400 := by rw [hw, List.length_append] at hl; omega
    rw [wr, if_neg (by omega), hx] at hl ⊢
    by_cases h5 : x.kind = 5
    · simp only [if_pos h5] at hl ⊢
      obtain ⟨k1, k2, k3, k4⟩ := okN_pair ho h5
      obtain ⟨w2, e2, g2⟩ := wr_good hp g true x.b.toNat (wr p g false x.a.toNat (out ++ [40])) (by omega) (by simp only [if_true]; omega) hl
      obtain ⟨w1, e1, g1⟩ := wr_good hp g false x.a.toNat (out ++ [40]) (by omega) (by simp only [Bool.false_eq_true, if_false]; omega) (by rw [e2, List.length_append] at hl; omega)
      refine ⟨[40] ++ w1 ++ w2, by rw [e2, e1]; simp, ?_⟩
      intro d s
      rw [List.append_assoc, sc_app [40] _ d s (d + 1) false (by rfl), sc_app w1 _ (d + 1) false (d + 1) false (good_f g1 _ _)]
      exact good_t g2 d
    · simp only [if_neg h5] at hl ⊢
      exact ⟨atomB x, rfl, fun d s => sc_atom ho d s⟩
  | g + 1, true, v, out, hv, hg, hl => by
    simp only [if_true] at hg
    obtain ⟨x, hx⟩ := get_of_lt (l := p) (i := v) hv
    have ho := okPool_get hp hx
    obtain ⟨w, hw⟩ := wr_ext p (g + 1) true v out
    have hol : out.length ≤ 400 := by rw [hw, List.length_append] at hl; omega
    rw [wr, hx] at hl ⊢
    by_cases h5 : x.kind = 5
    · simp only [if_pos (And.intro h5 hol)] at hl ⊢
      obtain ⟨k1, k2, k3, k4⟩ := okN_pair ho h5
      obtain ⟨w2, e2, g2⟩ := wr_good hp g true x.b.toNat (wr p g false x.a.toNat (out ++ [32])) (by omega) (by simp only [if_true]; omega) hl
      obtain ⟨w1, e1, g1⟩ := wr_good hp g false x.a.toNat (out ++ [32]) (by omega) (by simp only [Bool.false_eq_true, if_false]; omega) (by rw [e2, List.length_append] at hl; omega)
      refine ⟨[32] ++ w1 ++ w2, by rw [e2, e1]; simp, ?_⟩
      intro d
      rw [List.append_assoc, sc_app [32] _ (d + 1) false (d + 1) true (by rfl), sc_app w1 _ (d + 1) true (d + 1) false (good_f g1 _ _)]
      exact good_t g2 d
    · have h5' : ¬ (x.kind = 5 ∧ out.length ≤ 400) := fun h => h5 h.1
      simp only [if_neg h5'] at hl ⊢
      by_cases h1 : x.kind = 1
      · simp only [if_pos h1] at hl ⊢
        exact ⟨[41], rfl, fun d => by rfl⟩
      · simp only [if_neg h1] at hl ⊢
        obtain ⟨w1, e1, g1⟩ := wr_good hp g false v (out ++ [32, 46, 32]) hv (by simp only [Bool.false_eq_true, if_false]; omega) (by rw [List.length_append] at hl; omega)
        refine ⟨[32, 46, 32] ++ w1 ++ [41], by rw [e1]; simp, ?_⟩
        intro d
        rw [List.append_assoc, sc_app [32, 46, 32] _ (d + 1) false (d + 1) true (by rfl), sc_app w1 _ (d + 1) true (d + 1) false (good_f g1 _ _)]
        rfl
theorem writeP_good {p : List Nd} (v : Int) : (writeP p v).length ≤ 400 ∧ (writeP p v = [] ∨ sc (writeP p v) 0 true = some (0, false)) := by
  unfold writeP
  by_cases h : okPool p = true ∧ wi v 0 ((p.length : Int) - 1) = true
  · rw [if_pos h]
    by_cases h2 : (wr p (2 * v.toNat + 1) false v.toNat []).length > 400
    · rw [if_pos h2]; exact ⟨by simp, .inl rfl⟩
    · rw [if_neg h2]
      have hv := h.2
      simp only [wi, Bool.and_eq_true, decide_eq_true_eq] at hv
      obtain ⟨w, e, hg⟩ := wr_good h.1 (2 * v.toNat + 1) false v.toNat [] (by omega) (by simp) (by omega)
      rw [e, List.nil_append] at h2 ⊢
      exact ⟨by omega, .inr (hg 0 true)⟩
  · rw [if_neg h]; exact ⟨by simp, .inl rfl⟩
end Go.Eng
