/- nodes and pools: when they are right, on both sides -/
import Derived.Test.YtgoidfkdnkjojaaBytes
import Derived.Test.YtgoidfkdnkjojaaCalls
namespace Go.Eng
open Go.Proofs Go.Proofs.Try

theorem br_and (b c : Bool) (l : List D) : br b (some (D.bool c, l)) (some (D.bool false, l)) = some (D.bool (b && c), l) := by cases b <;> rfl
theorem br_or (b c : Bool) (l : List D) : br b (some (D.bool true, l)) (some (D.bool c, l)) = some (D.bool (b || c), l) := by cases b <;> rfl
theorem br_nota (b c : Bool) (l : List D) : br b (some (D.bool false, l)) (some (D.bool c, l)) = some (D.bool (!b && c), l) := by cases b <;> rfl

structure Nd where
  kind : Int
  n : Int
  s : ByteArray
  a : Int
  b : Int
noncomputable abbrev eN (x : Nd) : D := .agg [.int .i64 x.kind, .int .i64 x.n, .str x.s, .int .i64 x.a, .int .i64 x.b]
section
variable {R : Type}
theorem nd_all (x : Nd) (K : Int → Int → ByteArray → Int → Int → Option R) : asAgg (eN x) (fun l1 => unc l1 fun x2 l3 => asI .i64 x2 fun n4 => unc l3 fun x5 l6 => asI .i64 x5 fun n7 => unc l6 fun x8 l9 => asS x8 fun s10 => unc l9 fun x11 l12 => asI .i64 x11 fun n13 => unc l12 fun x14 l15 => asI .i64 x14 fun n16 => unn l15 (K n4 n7 s10 n13 n16)) = K x.kind x.n x.s x.a x.b := rfl
theorem nd_0 (x : Nd) (K : Int → Option R) : asAgg (eN x) (fun l => oget l 0 fun y => asI .i64 y fun n => K n) = K x.kind := rfl
theorem nd_1 (x : Nd) (K : Int → Option R) : asAgg (eN x) (fun l => oget l 1 fun y => asI .i64 y fun n => K n) = K x.n := rfl
theorem nd_2 (x : Nd) (K : ByteArray → Option R) : asAgg (eN x) (fun l => oget l 2 fun y => asS y fun n => K n) = K x.s := rfl
theorem nd_3 (x : Nd) (K : Int → Option R) : asAgg (eN x) (fun l => oget l 3 fun y => asI .i64 y fun n => K n) = K x.a := rfl
theorem nd_4 (x : Nd) (K : Int → Option R) : asAgg (eN x) (fun l => oget l 4 fun y => asI .i64 y fun n => K n) = K x.b := rfl
end

theorem v_within (n lo hi : Int) : V 106 [.int .i64 n, .int .i64 lo, .int .i64 hi] = some (.bool (wi n lo hi), []) := (eimpl_within n lo hi).trans within_eq
theorem v_l1In (n lo hi : Int) : V 104 [.int .i64 n, .int .i64 lo, .int .i64 hi] = some (.bool (wi n lo hi), []) := (espec_l1In n lo hi).trans within_eq
theorem v_l1Min (a b : Int) : V 124 [.int .i64 a, .int .i64 b] = some (.int .i64 (mnI a b), []) := by
  rw [espec_l1Min]
  unfold mnI
  by_cases h : a < b
  · rw [br_of (decide_eq_true h), if_neg (by omega)]
  · rw [br_not (decide_eq_false h)]
    by_cases h2 : b < a
    · rw [if_pos h2]
    · rw [if_neg h2, show b = a by omega]

/-! ## names -/
noncomputable def nmB (c : Int) : Bool := (decide (c ≥ 97) && decide (c ≤ 122)) || [43, 45, 42, 60, 61, 63, 33, 47].any fun x => c == x
theorem index_loop {l : List Int} (hl : l.length < 4611686018427387904) (c : Int) : ∀ (k i : Nat), i + k = l.length → Lslices_Index_byte_byte_2 (l.map (D.int .u8)) c (ni (l.map (D.int .u8)).length) (i : Int) = some (.int .i64 (posFrom (fun x => c == x) l i), [])
  | 0, i, hi => by
    rw [Lslices_Index_byte_byte_2_eq, br_not (by rw [List.length_map]; exact ge_idx (by omega)), posFrom_end (by omega)]
  | k + 1, i, hi => by
    obtain ⟨x, hx⟩ := get_of_lt (l := l) (i := i) (by omega)
    have ih := index_loop hl c k (i + 1) (by omega)
    rw [Lslices_Index_byte_byte_2_eq, br_of (by rw [List.length_map]; exact lt_idx (by omega)), grd_of (by rw [List.length_map]; exact in_idx (by omega)), Int.toNat_natCast, oget_map hx, asI_int]
    cases h : c == x with
    | true => rw [br_true, posFrom_hit hx h]
    | false => rw [br_false, w64s (by omega), ih, posFrom_miss hx h]
theorem posB_any {l : List Int} {c : Int} : decide (posB (fun x => c == x) l ≥ 0) = l.any fun x => c == x := by
  unfold posB
  cases h : l.findIdx? fun x => c == x with
  | none =>
    have := List.findIdx?_eq_none_iff.1 h
    symm
    simpa [List.any_eq_false] using this
  | some k =>
    have h2 : (l.any fun x => c == x) = true := by
      rw [List.findIdx?_eq_some_iff_getElem] at h
      obtain ⟨hk, h3, _⟩ := h
      exact List.any_eq_true.2 ⟨l[k], List.getElem_mem hk, h3⟩
    rw [h2]
    simp
theorem v_contains {l : List Int} (hl : l.length < 4611686018427387904) (c : Int) : V 175 [.rs (1, 0) (l.map (D.int .u8)), .int .u8 c] = some (.bool (l.any fun x => c == x), []) := by
  have h : V 180 [.rs (1, 0) (l.map (D.int .u8)), .int .u8 c] = some (.int .i64 (posB (fun x => c == x) l), []) := by
    rw [eslices_Index_byte_byte, ← posFrom_zero]
    exact index_loop hl c l.length 0 (Nat.zero_add _)
  rw [eslices_Contains_byte_byte, oc_slices_Index_byte_byte h, posB_any]
theorem v_isNameByte (c : Int) : V 163 [.int .u8 c] = some (.bool (nmB c), []) := by
  have h := v_contains (l := [43, 45, 42, 60, 61, 63, 33, 47]) (by simp) c
  simp only [List.map_cons, List.map_nil] at h
  rw [eimpl_isNameByte, grd_of (by decide), oc_slices_Contains_byte_byte h]
  unfold nmB
  cases decide (c ≥ 97) <;> cases decide (c ≤ 122) <;> rfl
theorem v_l2NameByte (c : Int) : V 128 [.int .u8 c] = some (.bool (nmB c), []) := by
  rw [espec_l2NameByte]
  simp only [br_or, nmB, List.any_cons, List.any_nil, Bool.or_false]
  cases decide (c ≥ 97) <;> cases decide (c ≤ 122) <;> rfl

/-- all bytes from one on are those of names -/
noncomputable def nmFrom (s : ByteArray) : Nat → Nat → Bool
  | _, 0 => true
  | i, k + 1 => nmB (bt s i) && nmFrom s (i + 1) k
noncomputable def nmOk (s : ByteArray) : Bool := wi s.size 1 12 && nmFrom s 0 s.size
theorem impl_name_loop {s : ByteArray} (hl : s.size < 4611686018427387904) : ∀ (k i : Nat), i + k = s.size → Limpl_NameOk_4 s (ni s.size) (i : Int) = some (.bool (nmFrom s i k), [])
  | 0, i, hi => by rw [Limpl_NameOk_4_eq, br_not (ge_idx (by omega))]; rfl
  | k + 1, i, hi => by
    rw [Limpl_NameOk_4_eq, br_of (lt_idx (by omega)), grd_of (in_idx (by omega)), oc_i_isNameByte (v_isNameByte _), w64s (by omega), impl_name_loop hl k (i + 1) (by omega), br_nota, Bool.not_not]
    rfl
theorem spec_name_loop {s : ByteArray} (hl : s.size < 4611686018427387904) : ∀ (k i : Nat), i + k = s.size → Lspec_NameOk_2 s (i : Int) = some (.bool (nmFrom s i k && wi s.size 1 12), [])
  | 0, i, hi => by rw [Lspec_NameOk_2_eq, br_not (ge_idx (by omega)), oc_s_l1In (v_l1In _ _ _)]; rfl
  | k + 1, i, hi => by
    rw [Lspec_NameOk_2_eq, br_of (lt_idx (by omega)), grd_of (in_idx (by omega)), oc_s_l2NameByte (v_l2NameByte _), w64s (by omega), spec_name_loop hl k (i + 1) (by omega), br_nota, Bool.not_not, ← Bool.and_assoc]
    rfl
theorem v_impl_NameOk {s : ByteArray} (hl : s.size < 4611686018427387904) : V 121 [.str s] = some (.bool (nmOk s), []) := by
  have h : Limpl_NameOk_4 s (ni s.size) 0 = _ := impl_name_loop hl s.size 0 (Nat.zero_add _)
  rw [eimpl_NameOk, oc_i_within (v_within _ _ _), h, br_nota, Bool.not_not]
  rfl
theorem v_spec_NameOk {s : ByteArray} (hl : s.size < 4611686018427387904) : V 131 [.str s] = some (.bool (nmOk s), []) := by
  have h : Lspec_NameOk_2 s 0 = _ := spec_name_loop hl s.size 0 (Nat.zero_add _)
  rw [espec_NameOk, h, Bool.and_comm]
  rfl

/-! ## nodes -/
noncomputable def nz (s : ByteArray) : Bool := strEq s ⟨#[]⟩
noncomputable def okN (x : Nd) (h : Int) : Bool :=
  if x.kind = 1 then wi x.n 0 0 && (nz x.s && (x.a == 0 && x.b == 0))
  else if x.kind = 2 then wi x.n 0 1 && (nz x.s && (x.a == 0 && x.b == 0))
  else if x.kind = 3 then wi x.n (-1000000000) 1000000000 && (nz x.s && (x.a == 0 && x.b == 0))
  else if x.kind = 4 then wi x.n 0 0 && (nmOk x.s && (x.a == 0 && x.b == 0))
  else if x.kind = 5 then wi x.n 0 0 && (nz x.s && (wi x.a 0 (h - 1) && wi x.b 0 (h - 1)))
  else if x.kind = 6 then wi x.n 0 1000000000 && (nz x.s && (wi x.a 0 (h - 1) && x.b == 0))
  else if x.kind = 7 then wi x.n 0 0 && (nz x.s && (wi x.a 0 (h - 1) && x.b == 0))
  else if x.kind = 8 then wi x.n 0 99 && (nz x.s && (x.a == 0 && x.b == 0))
  else if x.kind = 9 then wi x.n 0 1000000000 && (nz x.s && (x.a == 0 && x.b == 0))
  else false
theorem wi00 (n : Int) : wi n 0 0 = (n == 0) := by
  unfold wi
  by_cases h : n = 0
  · subst h; rfl
  · have : (n == 0) = false := by simp [h]
    rw [this]
    simp; omega

theorem v_impl_nodeOk {x : Nd} (hs : x.s.size < 4611686018427387904) {h : Int} (h0 : -4611686018427387904 < h) (h1 : h < 4611686018427387904) : V 62 [eN x, .int .i64 h] = some (.bool (okN x h), []) := by
  rw [eimpl_nodeOk, w64 (n := h - 1) (by omega) (by omega)]
  unfold okN
  by_cases e1 : x.kind = 1
  · rw [br_of (by simp [e1]), if_pos e1, oc_i_within (v_within _ _ _)]; simp only [br_and]; rfl
  rw [br_not (by simp [e1]), if_neg e1]
  by_cases e2 : x.kind = 2
  · rw [br_of (by simp [e2]), if_pos e2, oc_i_within (v_within _ _ _)]; simp only [br_and]; rfl
  rw [br_not (by simp [e2]), if_neg e2]
  by_cases e3 : x.kind = 3
  · rw [br_of (by simp [e3]), if_pos e3, oc_i_within (v_within _ _ _)]; simp only [br_and]; rfl
  rw [br_not (by simp [e3]), if_neg e3]
  by_cases e4 : x.kind = 4
  · rw [br_of (by simp [e4]), if_pos e4, oc_i_NameOk (v_impl_NameOk hs), oc_i_within (v_within _ _ _)]; simp only [br_and]
  rw [br_not (by simp [e4]), if_neg e4]
  by_cases e5 : x.kind = 5
  · rw [br_of (by simp [e5]), if_pos e5, oc_i_within (v_within _ _ _), oc_i_within (v_within _ _ _), oc_i_within (v_within _ _ _)]; simp only [br_and]; rfl
  rw [br_not (by simp [e5]), if_neg e5]
  by_cases e6 : x.kind = 6
  · rw [br_of (by simp [e6]), if_pos e6, oc_i_within (v_within _ _ _), oc_i_within (v_within _ _ _)]; simp only [br_and]; rfl
  rw [br_not (by simp [e6]), if_neg e6]
  by_cases e7 : x.kind = 7
  · rw [br_of (by simp [e7]), if_pos e7, oc_i_within (v_within _ _ _), oc_i_within (v_within _ _ _)]; simp only [br_and]; rfl
  rw [br_not (by simp [e7]), if_neg e7]
  by_cases e8 : x.kind = 8
  · rw [br_of (by simp [e8]), if_pos e8, oc_i_within (v_within _ _ _)]; simp only [br_and]; rfl
  rw [br_not (by simp [e8]), if_neg e8]
  by_cases e9 : x.kind = 9
  · rw [br_of (by simp [e9]), if_pos e9, oc_i_within (v_within _ _ _)]; simp only [br_and]; rfl
  rw [br_not (by simp [e9]), if_neg e9]

theorem v_l2Node {x : Nd} (hs : x.s.size < 4611686018427387904) {h : Int} (h0 : -4611686018427387904 < h) (h1 : h < 4611686018427387904) : V 125 [eN x, .int .i64 h] = some (.bool (okN x h), []) := by
  rw [espec_l2Node, w64 (n := h - 1) (by omega) (by omega), oc_s_l1In (v_l1In _ _ _), oc_s_l1In (v_l1In _ _ _)]
  unfold okN
  have hss : strEq x.s x.s = true := by rw [strEq_eq]; simp
  by_cases e1 : x.kind = 1
  · rw [br_of (by simp [e1]), if_pos e1, e1, wi00]; simp [nz]
  rw [br_not (by simp [e1]), if_neg e1]
  by_cases e2 : x.kind = 2
  · rw [br_of (by simp [e2]), if_pos e2, e2, oc_s_l1In (v_l1In _ _ _)]; simp only [br_and]; simp [nz]
  rw [br_not (by simp [e2]), if_neg e2]
  by_cases e3 : x.kind = 3
  · rw [br_of (by simp [e3]), if_pos e3, e3, oc_s_l1In (v_l1In _ _ _)]; simp only [br_and]; simp [nz]
  rw [br_not (by simp [e3]), if_neg e3]
  by_cases e4 : x.kind = 4
  · rw [br_of (by simp [e4]), if_pos e4, e4, oc_s_NameOk (v_spec_NameOk hs), wi00, hss]; simp only [br_and]
    cases nmOk x.s <;> cases x.n == 0 <;> simp
  rw [br_not (by simp [e4]), if_neg e4]
  by_cases e5 : x.kind = 5
  · rw [br_of (by simp [e5]), if_pos e5, wi00]; simp only [br_and]
    show some (D.bool (_ && (_ && (_ && nz x.s))), _) = _
    cases wi x.a 0 (h - 1) <;> cases wi x.b 0 (h - 1) <;> cases x.n == 0 <;> cases nz x.s <;> rfl
  rw [br_not (by simp [e5]), if_neg e5]
  by_cases e6 : x.kind = 6
  · rw [br_of (by simp [e6]), if_pos e6, oc_s_l1In (v_l1In _ _ _)]; simp only [br_and]
    show some (D.bool (_ && (_ && (_ && nz x.s))), _) = _
    cases wi x.a 0 (h - 1) <;> cases wi x.n 0 1000000000 <;> cases x.b == 0 <;> cases nz x.s <;> rfl
  rw [br_not (by simp [e6]), if_neg e6]
  by_cases e7 : x.kind = 7
  · rw [br_of (by simp [e7]), if_pos e7, wi00]; simp only [br_and]
    show some (D.bool (_ && (_ && (_ && nz x.s))), _) = _
    cases wi x.a 0 (h - 1) <;> cases x.n == 0 <;> cases x.b == 0 <;> cases nz x.s <;> rfl
  rw [br_not (by simp [e7]), if_neg e7]
  by_cases e8 : x.kind = 8
  · rw [br_of (by simp [e8]), if_pos e8, e8, oc_s_l1In (v_l1In _ _ _)]; simp only [br_and]; simp [nz]
  rw [br_not (by simp [e8]), if_neg e8]
  by_cases e9 : x.kind = 9
  · rw [br_of (by simp [e9]), if_pos e9, e9, oc_s_l1In (v_l1In _ _ _)]; simp only [br_and]; simp [nz]
  rw [br_not (by simp [e9]), if_neg e9]

/-! ## pools -/
noncomputable abbrev eP (p : List Nd) : D := .agg [.rs (5, 0) (p.map eN)]
noncomputable abbrev oP (p : List Nd) : D := .agg [.os (5, 0) (p.map eN)]
noncomputable abbrev rP (p : List Nd) : D := .op [.os (5, 0) (p.map eN)]
/-- all texts are short enough to be looked at -/
noncomputable def Fits (p : List Nd) : Prop := ∀ x ∈ p, x.s.size < 4611686018427387904
noncomputable def okFrom (p : List Nd) : Nat → Nat → Bool
  | _, 0 => true
  | i, k + 1 => (match p[i]? with | some x => okN x i | none => true) && okFrom p (i + 1) k
noncomputable def okPool (p : List Nd) : Bool := okFrom p 0 p.length && decide ((p.length : Int) ≤ 3000)
theorem impl_pool_loop {p : List Nd} (hf : Fits p) (hl : p.length < 4611686018427387904) : ∀ (k i : Nat), i + k = p.length → Limpl_PoolOk_2 (p.map eN) (ni (p.map eN).length) (i : Int) (p.map eN) = some (.bool (okFrom p i k && decide ((p.length : Int) ≤ 3000)), [])
  | 0, i, hi => by
    rw [Limpl_PoolOk_2_eq, br_not (by rw [List.length_map]; exact ge_idx (by omega)), List.length_map]; rfl
  | k + 1, i, hi => by
    obtain ⟨x, hx⟩ := get_of_lt (l := p) (i := i) (by omega)
    rw [Limpl_PoolOk_2_eq, br_of (by rw [List.length_map]; exact lt_idx (by omega)), grd_of (by rw [List.length_map]; exact in_idx (by omega)), Int.toNat_natCast, oget_map hx, nd_all, oc_i_nodeOk (v_impl_nodeOk (hf x (List.mem_of_getElem? hx)) (by omega) (by omega)), w64s (by omega), impl_pool_loop hf hl k (i + 1) (by omega), br_nota, Bool.not_not, ← Bool.and_assoc]
    simp only [okFrom, hx]
theorem spec_pool_loop {p : List Nd} (hf : Fits p) (hl : p.length < 4611686018427387904) : ∀ (k i : Nat), i + k = p.length → Lspec_PoolOk_2 (i : Int) (p.map eN) = some (.bool (okFrom p i k && decide ((p.length : Int) ≤ 3000)), [])
  | 0, i, hi => by
    rw [Lspec_PoolOk_2_eq, br_not (by rw [List.length_map]; exact ge_idx (by omega)), List.length_map]; rfl
  | k + 1, i, hi => by
    obtain ⟨x, hx⟩ := get_of_lt (l := p) (i := i) (by omega)
    rw [Lspec_PoolOk_2_eq, br_of (by rw [List.length_map]; exact lt_idx (by omega)), grd_of (by rw [List.length_map]; exact in_idx (by omega)), Int.toNat_natCast, oget_map hx, nd_all, oc_s_l2Node (v_l2Node (hf x (List.mem_of_getElem? hx)) (by omega) (by omega)), w64s (by omega), spec_pool_loop hf hl k (i + 1) (by omega), br_nota, Bool.not_not, ← Bool.and_assoc]
    simp only [okFrom, hx]
theorem v_impl_PoolOk {p : List Nd} (hf : Fits p) (hl : p.length < 4611686018427387904) : V 18 [eP p] = some (.bool (okPool p), []) := by
  rw [eimpl_PoolOk]; exact impl_pool_loop hf hl p.length 0 (Nat.zero_add _)
theorem v_spec_PoolOk {p : List Nd} (hf : Fits p) (hl : p.length < 4611686018427387904) : V 67 [eP p] = some (.bool (okPool p), []) := by
  rw [espec_PoolOk]; exact spec_pool_loop hf hl p.length 0 (Nat.zero_add _)
end Go.Eng
