/- sizes, copies and equality of what a law's arguments hold -/
import Derived.Test.YtgoidfkdnkjojaaMark
import Derived.Test.YtgoidfkdnkjojaaCode
namespace Go.Eng
open Go.Proofs Go.Proofs.Try
set_option maxHeartbeats 4000000

theorem eqIn_refl (x : In) : V 158 [eIn x, eIn x] = some (.bool true, []) := by
  have hs : strEq x.s x.s = true := by rw [strEq_eq]; simp
  rw [elaws_eqInstr]
  simp (disch := first | omega | (simp only [List.length_append, List.length_cons, List.length_nil, List.length_map, mk_size, nat_cast_eq]; omega)) only [↓br_false, bne_f, Bool.not_true, hs]
theorem eqDf_refl (x : Df) : V 159 [eDf x, eDf x] = some (.bool true, []) := by
  have hs : strEq x.name x.name = true := by rw [strEq_eq]; simp
  rw [elaws_eqDef]
  simp (disch := first | omega | (simp only [List.length_append, List.length_cons, List.length_nil, List.length_map, mk_size, nat_cast_eq]; omega)) only [↓br_false, bne_f, Bool.not_true, hs]

/-! ## Node -/
theorem toNode_loop {l : List Nd} (hl : l.length < 4611686018427387904) (Z : D) : ∀ (k i : Nat), i + k = l.length → Llaws_toNodeS_3 (l.map eN) (i : Int) ((l.take i).map eN ++ List.replicate k Z) = some (.os (5, 0) (l.map eN), [])
  | 0, i, hi => by
    have : i = l.length := by omega
    subst this
    rw [Llaws_toNodeS_3_eq, List.take_length, List.replicate_zero, List.append_nil]
    simp (disch := first | omega | (simp only [List.length_append, List.length_cons, List.length_nil, List.length_map, mk_size, nat_cast_eq]; omega)) only [↓br_false, dec_f, List.length_map, nat_cast_eq]
  | k + 1, i, hi => by
    obtain ⟨x, hx⟩ := get_of_lt (l := l) (i := i) (by omega)
    have ih := toNode_loop hl Z k (i + 1) (by omega)
    have hA : ((l.take i).map eN).length = i := by rw [List.length_map, List.length_take]; omega
    have hw : IntKind.wrap IntKind.i64 ((i : Int) + 1) = ((i + 1 : Nat) : Int) := w64s (by omega)
    have hto : V 132 [eN x] = some (eN x, []) := by rw [elaws_toNode]
    have hj : (l.take i).map eN ++ eN x :: List.replicate k Z = (l.take (i + 1)).map eN ++ List.replicate k Z := by rw [take_at hx]; simp
    rw [Llaws_toNodeS_3_eq, List.replicate_succ]
    simp (disch := first | omega | (simp only [List.length_append, List.length_cons, List.length_nil, List.length_map, mk_size, nat_cast_eq]; omega)) only [↓ocall_ocont, ocont_some, ↓br_true, ↓grd_true, ↓unn_nil, ↓unc_cons, ↓asI_int, ↓asS_str, ↓asAgg_agg, ↓nam_eq, ↓oget_nat, dec_t, Bool.and_true, List.length_map, List.length_append, List.length_cons, nat_cast_eq, ↓oget_map hx, hto, ↓oget_mid hA, set_mid' hA, List.length_take, List.length_replicate, Int.toNat_natCast, hw, hj, ih]
theorem v_toNodeS {l : List Nd} (hl : l.length ≤ 4294967296) : V 76 [.rs (5, 0) (l.map eN)] = some (.os (5, 0) (l.map eN), []) := by
  have h := toNode_loop (l := l) (by omega) (eN ⟨0, 0, ⟨#[]⟩, 0, 0⟩) l.length 0 (Nat.zero_add _)
  rw [Int.natCast_zero, List.take_zero, List.map_nil, List.nil_append] at h
  rw [elaws_toNodeS]
  simp (disch := first | omega | (simp only [List.length_append, List.length_cons, List.length_nil, List.length_map, mk_size, nat_cast_eq]; omega)) only [↓grd_true, dec_t, Bool.and_true, List.length_map, LIM_eq, nat_cast_eq, Int.toNat_natCast]
  exact h
theorem szNode_loop {l : List Nd} (hl : l.length < 4611686018427387904) (hs : ∀ x ∈ l, x.s.size < 4611686018427387904) : ∀ (k i : Nat) (left : Int), i + k = l.length → 0 ≤ left → left ≤ 4611686018427387904 → ∃ n : Int, Llaws_szNodeS_5 (l.map eN) left (i : Int) = some (.int .i64 n, []) ∧ n ≤ left
  | 0, i, left, hi, h0, h1 => by
    refine ⟨left, ?_, Int.le_refl _⟩
    rw [Llaws_szNodeS_5_eq]
    simp (disch := first | omega | (simp only [List.length_append, List.length_cons, List.length_nil, List.length_map, mk_size, nat_cast_eq]; omega)) only [↓br_false, dec_f, List.length_map, nat_cast_eq]
  | k + 1, i, left, hi, h0, h1 => by
    obtain ⟨x, hx⟩ := get_of_lt (l := l) (i := i) (by omega)
    have hsx := hs x (List.mem_of_getElem? hx)
    have hw : IntKind.wrap IntKind.i64 ((i : Int) + 1) = ((i + 1 : Nat) : Int) := w64s (by omega)
    have hsz : V 127 [eN x, .int .i64 left] = some (.int .i64 (if left - x.s.size < 0 then -1 else left - x.s.size), []) := by
      rw [elaws_szNode]
      by_cases h : left - (x.s.size : Int) < 0
      · rw [if_pos h]; simp (disch := first | omega | (simp only [List.length_append, List.length_cons, List.length_nil, List.length_map, mk_size, nat_cast_eq]; omega)) only [↓br_true, dec_t, wS, nat_cast_eq]
      · rw [if_neg h]; simp (disch := first | omega | (simp only [List.length_append, List.length_cons, List.length_nil, List.length_map, mk_size, nat_cast_eq]; omega)) only [↓br_false, dec_f, wS, nat_cast_eq]
    by_cases h : left - (x.s.size : Int) < 0
    · rw [if_pos h] at hsz
      refine ⟨-1, ?_, by omega⟩
      rw [Llaws_szNodeS_5_eq]
      simp (disch := first | omega | (simp only [List.length_append, List.length_cons, List.length_nil, List.length_map, mk_size, nat_cast_eq]; omega)) only [↓ocall_ocont, ocont_some, ↓br_true, ↓grd_true, ↓unn_nil, ↓unc_cons, ↓asI_int, ↓asS_str, ↓asAgg_agg, ↓oget_nat, dec_t, Bool.and_true, List.length_map, nat_cast_eq, ↓oget_map hx, hsz]
    · rw [if_neg h] at hsz
      obtain ⟨n, hn, hle⟩ := szNode_loop hl hs k (i + 1) (left - x.s.size) (by omega) (by omega) (by omega)
      refine ⟨n, ?_, by omega⟩
      rw [Llaws_szNodeS_5_eq]
      simp (disch := first | omega | (simp only [List.length_append, List.length_cons, List.length_nil, List.length_map, mk_size, nat_cast_eq]; omega)) only [↓ocall_ocont, ocont_some, ↓br_true, ↓br_false, ↓grd_true, ↓unn_nil, ↓unc_cons, ↓asI_int, ↓asS_str, ↓asAgg_agg, ↓oget_nat, dec_t, dec_f, Bool.and_true, List.length_map, nat_cast_eq, ↓oget_map hx, hsz, hw, hn]
theorem v_szNodeS {l : List Nd} (hl : l.length < 4611686018427387904) (hs : ∀ x ∈ l, x.s.size < 4611686018427387904) {left : Int} (h0 : 0 ≤ left) (h1 : left ≤ 4611686018427387904) : ∃ n : Int, V 70 [.rs (5, 0) (l.map eN), .int .i64 left] = some (.int .i64 n, []) ∧ n ≤ left ∧ (0 ≤ n → (l.length : Int) ≤ left) := by
  by_cases h : left - (l.length : Int) < 0
  · refine ⟨-1, ?_, by omega, by omega⟩
    rw [elaws_szNodeS]
    simp (disch := first | omega | (simp only [List.length_append, List.length_cons, List.length_nil, List.length_map, mk_size, nat_cast_eq]; omega)) only [↓br_true, dec_t, List.length_map, wS, nat_cast_eq]
  · obtain ⟨n, hn, hle⟩ := szNode_loop hl hs l.length 0 (left - l.length) (Nat.zero_add _) (by omega) (by omega)
    rw [Int.natCast_zero] at hn
    refine ⟨n, ?_, by omega, by omega⟩
    rw [elaws_szNodeS]
    simp (disch := first | omega | (simp only [List.length_append, List.length_cons, List.length_nil, List.length_map, mk_size, nat_cast_eq]; omega)) only [↓br_false, dec_f, List.length_map, wS, nat_cast_eq, hn]

/-! ## Instr -/
theorem toInstr_loop {l : List In} (hl : l.length < 4611686018427387904) (Z : D) : ∀ (k i : Nat), i + k = l.length → Llaws_toInstrS_3 (l.map eIn) (i : Int) ((l.take i).map eIn ++ List.replicate k Z) = some (.os (4, 0) (l.map eIn), [])
  | 0, i, hi => by
    have : i = l.length := by omega
    subst this
    rw [Llaws_toInstrS_3_eq, List.take_length, List.replicate_zero, List.append_nil]
    simp (disch := first | omega | (simp only [List.length_append, List.length_cons, List.length_nil, List.length_map, mk_size, nat_cast_eq]; omega)) only [↓br_false, dec_f, List.length_map, nat_cast_eq]
  | k + 1, i, hi => by
    obtain ⟨x, hx⟩ := get_of_lt (l := l) (i := i) (by omega)
    have ih := toInstr_loop hl Z k (i + 1) (by omega)
    have hA : ((l.take i).map eIn).length = i := by rw [List.length_map, List.length_take]; omega
    have hw : IntKind.wrap IntKind.i64 ((i : Int) + 1) = ((i + 1 : Nat) : Int) := w64s (by omega)
    have hto : V 153 [eIn x] = some (eIn x, []) := by rw [elaws_toInstr]
    have hj : (l.take i).map eIn ++ eIn x :: List.replicate k Z = (l.take (i + 1)).map eIn ++ List.replicate k Z := by rw [take_at hx]; simp
    rw [Llaws_toInstrS_3_eq, List.replicate_succ]
    simp (disch := first | omega | (simp only [List.length_append, List.length_cons, List.length_nil, List.length_map, mk_size, nat_cast_eq]; omega)) only [↓ocall_ocont, ocont_some, ↓br_true, ↓grd_true, ↓unn_nil, ↓unc_cons, ↓asI_int, ↓asS_str, ↓asAgg_agg, ↓nam_eq, ↓oget_nat, dec_t, Bool.and_true, List.length_map, List.length_append, List.length_cons, nat_cast_eq, ↓oget_map hx, hto, ↓oget_mid hA, set_mid' hA, List.length_take, List.length_replicate, Int.toNat_natCast, hw, hj, ih]
theorem v_toInstrS {l : List In} (hl : l.length ≤ 4294967296) : V 96 [.rs (4, 0) (l.map eIn)] = some (.os (4, 0) (l.map eIn), []) := by
  have h := toInstr_loop (l := l) (by omega) (eIn ⟨0, 0, 0, ⟨#[]⟩⟩) l.length 0 (Nat.zero_add _)
  rw [Int.natCast_zero, List.take_zero, List.map_nil, List.nil_append] at h
  rw [elaws_toInstrS]
  simp (disch := first | omega | (simp only [List.length_append, List.length_cons, List.length_nil, List.length_map, mk_size, nat_cast_eq]; omega)) only [↓grd_true, dec_t, Bool.and_true, List.length_map, LIM_eq, nat_cast_eq, Int.toNat_natCast]
  exact h
theorem szInstr_loop {l : List In} (hl : l.length < 4611686018427387904) (hs : ∀ x ∈ l, x.s.size < 4611686018427387904) : ∀ (k i : Nat) (left : Int), i + k = l.length → 0 ≤ left → left ≤ 4611686018427387904 → ∃ n : Int, Llaws_szInstrS_5 (l.map eIn) left (i : Int) = some (.int .i64 n, []) ∧ n ≤ left
  | 0, i, left, hi, h0, h1 => by
    refine ⟨left, ?_, Int.le_refl _⟩
    rw [Llaws_szInstrS_5_eq]
    simp (disch := first | omega | (simp only [List.length_append, List.length_cons, List.length_nil, List.length_map, mk_size, nat_cast_eq]; omega)) only [↓br_false, dec_f, List.length_map, nat_cast_eq]
  | k + 1, i, left, hi, h0, h1 => by
    obtain ⟨x, hx⟩ := get_of_lt (l := l) (i := i) (by omega)
    have hsx := hs x (List.mem_of_getElem? hx)
    have hw : IntKind.wrap IntKind.i64 ((i : Int) + 1) = ((i + 1 : Nat) : Int) := w64s (by omega)
    have hsz : V 149 [eIn x, .int .i64 left] = some (.int .i64 (if left - x.s.size < 0 then -1 else left - x.s.size), []) := by
      rw [elaws_szInstr]
      by_cases h : left - (x.s.size : Int) < 0
      · rw [if_pos h]; simp (disch := first | omega | (simp only [List.length_append, List.length_cons, List.length_nil, List.length_map, mk_size, nat_cast_eq]; omega)) only [↓br_true, dec_t, wS, nat_cast_eq]
      · rw [if_neg h]; simp (disch := first | omega | (simp only [List.length_append, List.length_cons, List.length_nil, List.length_map, mk_size, nat_cast_eq]; omega)) only [↓br_false, dec_f, wS, nat_cast_eq]
    by_cases h : left - (x.s.size : Int) < 0
    · rw [if_pos h] at hsz
      refine ⟨-1, ?_, by omega⟩
      rw [Llaws_szInstrS_5_eq]
      simp (disch := first | omega | (simp only [List.length_append, List.length_cons, List.length_nil, List.length_map, mk_size, nat_cast_eq]; omega)) only [↓ocall_ocont, ocont_some, ↓br_true, ↓grd_true, ↓unn_nil, ↓unc_cons, ↓asI_int, ↓asS_str, ↓asAgg_agg, ↓oget_nat, dec_t, Bool.and_true, List.length_map, nat_cast_eq, ↓oget_map hx, hsz]
    · rw [if_neg h] at hsz
      obtain ⟨n, hn, hle⟩ := szInstr_loop hl hs k (i + 1) (left - x.s.size) (by omega) (by omega) (by omega)
      refine ⟨n, ?_, by omega⟩
      rw [Llaws_szInstrS_5_eq]
      simp (disch := first | omega | (simp only [List.length_append, List.length_cons, List.length_nil, List.length_map, mk_size, nat_cast_eq]; omega)) only [↓ocall_ocont, ocont_some, ↓br_true, ↓br_false, ↓grd_true, ↓unn_nil, ↓unc_cons, ↓asI_int, ↓asS_str, ↓asAgg_agg, ↓oget_nat, dec_t, dec_f, Bool.and_true, List.length_map, nat_cast_eq, ↓oget_map hx, hsz, hw, hn]
theorem v_szInstrS {l : List In} (hl : l.length < 4611686018427387904) (hs : ∀ x ∈ l, x.s.size < 4611686018427387904) {left : Int} (h0 : 0 ≤ left) (h1 : left ≤ 4611686018427387904) : ∃ n : Int, V 91 [.rs (4, 0) (l.map eIn), .int .i64 left] = some (.int .i64 n, []) ∧ n ≤ left ∧ (0 ≤ n → (l.length : Int) ≤ left) := by
  by_cases h : left - (l.length : Int) < 0
  · refine ⟨-1, ?_, by omega, by omega⟩
    rw [elaws_szInstrS]
    simp (disch := first | omega | (simp only [List.length_append, List.length_cons, List.length_nil, List.length_map, mk_size, nat_cast_eq]; omega)) only [↓br_true, dec_t, List.length_map, wS, nat_cast_eq]
  · obtain ⟨n, hn, hle⟩ := szInstr_loop hl hs l.length 0 (left - l.length) (Nat.zero_add _) (by omega) (by omega)
    rw [Int.natCast_zero] at hn
    refine ⟨n, ?_, by omega, by omega⟩
    rw [elaws_szInstrS]
    simp (disch := first | omega | (simp only [List.length_append, List.length_cons, List.length_nil, List.length_map, mk_size, nat_cast_eq]; omega)) only [↓br_false, dec_f, List.length_map, wS, nat_cast_eq, hn]
theorem eqInstr_loop {l : List In} (hl : l.length < 4611686018427387904) : ∀ (k i : Nat), i + k = l.length → Llaws_eqInstrS_4 (l.map eIn) (l.map eIn) (i : Int) = some (.bool true, [])
  | 0, i, hi => by rw [Llaws_eqInstrS_4_eq]; simp (disch := first | omega | (simp only [List.length_append, List.length_cons, List.length_nil, List.length_map, mk_size, nat_cast_eq]; omega)) only [↓br_false, dec_f, List.length_map, nat_cast_eq]
  | k + 1, i, hi => by
    obtain ⟨x, hx⟩ := get_of_lt (l := l) (i := i) (by omega)
    have ih := eqInstr_loop hl k (i + 1) (by omega)
    have hw : IntKind.wrap IntKind.i64 ((i : Int) + 1) = ((i + 1 : Nat) : Int) := w64s (by omega)
    have hr := eqIn_refl x
    rw [Llaws_eqInstrS_4_eq]
    simp (disch := first | omega | (simp only [List.length_append, List.length_cons, List.length_nil, List.length_map, mk_size, nat_cast_eq]; omega)) only [↓ocall_ocont, ocont_some, ↓br_true, ↓br_false, ↓grd_true, ↓unn_nil, ↓unc_cons, ↓asI_int, ↓asB_bool, ↓asS_str, ↓asAgg_agg, ↓oget_nat, dec_t, Bool.and_true, Bool.not_true, List.length_map, nat_cast_eq, ↓oget_map hx, hr, hw, ih]
theorem v_eqInstrS {l : List In} (hl : l.length < 4611686018427387904) : V 101 [.rs (4, 0) (l.map eIn), .rs (4, 0) (l.map eIn)] = some (.bool true, []) := by
  have h := eqInstr_loop hl l.length 0 (Nat.zero_add _)
  rw [Int.natCast_zero] at h
  rw [elaws_eqInstrS]
  simp (disch := first | omega | (simp only [List.length_append, List.length_cons, List.length_nil, List.length_map, mk_size, nat_cast_eq]; omega)) only [↓br_false, bne_f, List.length_map, nat_cast_eq, h]

/-! ## Def -/
theorem toDef_loop {l : List Df} (hl : l.length < 4611686018427387904) (Z : D) : ∀ (k i : Nat), i + k = l.length → Llaws_toDefS_3 (l.map eDf) (i : Int) ((l.take i).map eDf ++ List.replicate k Z) = some (.os (3, 0) (l.map eDf), [])
  | 0, i, hi => by
    have : i = l.length := by omega
    subst this
    rw [Llaws_toDefS_3_eq, List.take_length, List.replicate_zero, List.append_nil]
    simp (disch := first | omega | (simp only [List.length_append, List.length_cons, List.length_nil, List.length_map, mk_size, nat_cast_eq]; omega)) only [↓br_false, dec_f, List.length_map, nat_cast_eq]
  | k + 1, i, hi => by
    obtain ⟨x, hx⟩ := get_of_lt (l := l) (i := i) (by omega)
    have ih := toDef_loop hl Z k (i + 1) (by omega)
    have hA : ((l.take i).map eDf).length = i := by rw [List.length_map, List.length_take]; omega
    have hw : IntKind.wrap IntKind.i64 ((i : Int) + 1) = ((i + 1 : Nat) : Int) := w64s (by omega)
    have hto : V 154 [eDf x] = some (eDf x, []) := by rw [elaws_toDef]
    have hj : (l.take i).map eDf ++ eDf x :: List.replicate k Z = (l.take (i + 1)).map eDf ++ List.replicate k Z := by rw [take_at hx]; simp
    rw [Llaws_toDefS_3_eq, List.replicate_succ]
    simp (disch := first | omega | (simp only [List.length_append, List.length_cons, List.length_nil, List.length_map, mk_size, nat_cast_eq]; omega)) only [↓ocall_ocont, ocont_some, ↓br_true, ↓grd_true, ↓unn_nil, ↓unc_cons, ↓asI_int, ↓asS_str, ↓asAgg_agg, ↓nam_eq, ↓oget_nat, dec_t, Bool.and_true, List.length_map, List.length_append, List.length_cons, nat_cast_eq, ↓oget_map hx, hto, ↓oget_mid hA, set_mid' hA, List.length_take, List.length_replicate, Int.toNat_natCast, hw, hj, ih]
theorem v_toDefS {l : List Df} (hl : l.length ≤ 4294967296) : V 97 [.rs (3, 0) (l.map eDf)] = some (.os (3, 0) (l.map eDf), []) := by
  have h := toDef_loop (l := l) (by omega) (eDf ⟨⟨#[]⟩, 0, 0⟩) l.length 0 (Nat.zero_add _)
  rw [Int.natCast_zero, List.take_zero, List.map_nil, List.nil_append] at h
  rw [elaws_toDefS]
  simp (disch := first | omega | (simp only [List.length_append, List.length_cons, List.length_nil, List.length_map, mk_size, nat_cast_eq]; omega)) only [↓grd_true, dec_t, Bool.and_true, List.length_map, LIM_eq, nat_cast_eq, Int.toNat_natCast]
  exact h
theorem szDef_loop {l : List Df} (hl : l.length < 4611686018427387904) (hs : ∀ x ∈ l, x.name.size < 4611686018427387904) : ∀ (k i : Nat) (left : Int), i + k = l.length → 0 ≤ left → left ≤ 4611686018427387904 → ∃ n : Int, Llaws_szDefS_5 (l.map eDf) left (i : Int) = some (.int .i64 n, []) ∧ n ≤ left
  | 0, i, left, hi, h0, h1 => by
    refine ⟨left, ?_, Int.le_refl _⟩
    rw [Llaws_szDefS_5_eq]
    simp (disch := first | omega | (simp only [List.length_append, List.length_cons, List.length_nil, List.length_map, mk_size, nat_cast_eq]; omega)) only [↓br_false, dec_f, List.length_map, nat_cast_eq]
  | k + 1, i, left, hi, h0, h1 => by
    obtain ⟨x, hx⟩ := get_of_lt (l := l) (i := i) (by omega)
    have hsx := hs x (List.mem_of_getElem? hx)
    have hw : IntKind.wrap IntKind.i64 ((i : Int) + 1) = ((i + 1 : Nat) : Int) := w64s (by omega)
    have hsz : V 150 [eDf x, .int .i64 left] = some (.int .i64 (if left - x.name.size < 0 then -1 else left - x.name.size), []) := by
      rw [elaws_szDef]
      by_cases h : left - (x.name.size : Int) < 0
      · rw [if_pos h]; simp (disch := first | omega | (simp only [List.length_append, List.length_cons, List.length_nil, List.length_map, mk_size, nat_cast_eq]; omega)) only [↓br_true, dec_t, wS, nat_cast_eq]
      · rw [if_neg h]; simp (disch := first | omega | (simp only [List.length_append, List.length_cons, List.length_nil, List.length_map, mk_size, nat_cast_eq]; omega)) only [↓br_false, dec_f, wS, nat_cast_eq]
    by_cases h : left - (x.name.size : Int) < 0
    · rw [if_pos h] at hsz
      refine ⟨-1, ?_, by omega⟩
      rw [Llaws_szDefS_5_eq]
      simp (disch := first | omega | (simp only [List.length_append, List.length_cons, List.length_nil, List.length_map, mk_size, nat_cast_eq]; omega)) only [↓ocall_ocont, ocont_some, ↓br_true, ↓grd_true, ↓unn_nil, ↓unc_cons, ↓asI_int, ↓asS_str, ↓asAgg_agg, ↓oget_nat, dec_t, Bool.and_true, List.length_map, nat_cast_eq, ↓oget_map hx, hsz]
    · rw [if_neg h] at hsz
      obtain ⟨n, hn, hle⟩ := szDef_loop hl hs k (i + 1) (left - x.name.size) (by omega) (by omega) (by omega)
      refine ⟨n, ?_, by omega⟩
      rw [Llaws_szDefS_5_eq]
      simp (disch := first | omega | (simp only [List.length_append, List.length_cons, List.length_nil, List.length_map, mk_size, nat_cast_eq]; omega)) only [↓ocall_ocont, ocont_some, ↓br_true, ↓br_false, ↓grd_true, ↓unn_nil, ↓unc_cons, ↓asI_int, ↓asS_str, ↓asAgg_agg, ↓oget_nat, dec_t, dec_f, Bool.and_true, List.length_map, nat_cast_eq, ↓oget_map hx, hsz, hw, hn]
theorem v_szDefS {l : List Df} (hl : l.length < 4611686018427387904) (hs : ∀ x ∈ l, x.name.size < 4611686018427387904) {left : Int} (h0 : 0 ≤ left) (h1 : left ≤ 4611686018427387904) : ∃ n : Int, V 92 [.rs (3, 0) (l.map eDf), .int .i64 left] = some (.int .i64 n, []) ∧ n ≤ left ∧ (0 ≤ n → (l.length : Int) ≤ left) := by
  by_cases h : left - (l.length : Int) < 0
  · refine ⟨-1, ?_, by omega, by omega⟩
    rw [elaws_szDefS]
    simp (disch := first | omega | (simp only [List.length_append, List.length_cons, List.length_nil, List.length_map, mk_size, nat_cast_eq]; omega)) only [↓br_true, dec_t, List.length_map, wS, nat_cast_eq]
  · obtain ⟨n, hn, hle⟩ := szDef_loop hl hs l.length 0 (left - l.length) (Nat.zero_add _) (by omega) (by omega)
    rw [Int.natCast_zero] at hn
    refine ⟨n, ?_, by omega, by omega⟩
    rw [elaws_szDefS]
    simp (disch := first | omega | (simp only [List.length_append, List.length_cons, List.length_nil, List.length_map, mk_size, nat_cast_eq]; omega)) only [↓br_false, dec_f, List.length_map, wS, nat_cast_eq, hn]
theorem eqDef_loop {l : List Df} (hl : l.length < 4611686018427387904) : ∀ (k i : Nat), i + k = l.length → Llaws_eqDefS_4 (l.map eDf) (l.map eDf) (i : Int) = some (.bool true, [])
  | 0, i, hi => by rw [Llaws_eqDefS_4_eq]; simp (disch := first | omega | (simp only [List.length_append, List.length_cons, List.length_nil, List.length_map, mk_size, nat_cast_eq]; omega)) only [↓br_false, dec_f, List.length_map, nat_cast_eq]
  | k + 1, i, hi => by
    obtain ⟨x, hx⟩ := get_of_lt (l := l) (i := i) (by omega)
    have ih := eqDef_loop hl k (i + 1) (by omega)
    have hw : IntKind.wrap IntKind.i64 ((i : Int) + 1) = ((i + 1 : Nat) : Int) := w64s (by omega)
    have hr := eqDf_refl x
    rw [Llaws_eqDefS_4_eq]
    simp (disch := first | omega | (simp only [List.length_append, List.length_cons, List.length_nil, List.length_map, mk_size, nat_cast_eq]; omega)) only [↓ocall_ocont, ocont_some, ↓br_true, ↓br_false, ↓grd_true, ↓unn_nil, ↓unc_cons, ↓asI_int, ↓asB_bool, ↓asS_str, ↓asAgg_agg, ↓oget_nat, dec_t, Bool.and_true, Bool.not_true, List.length_map, nat_cast_eq, ↓oget_map hx, hr, hw, ih]
theorem v_eqDefS {l : List Df} (hl : l.length < 4611686018427387904) : V 102 [.rs (3, 0) (l.map eDf), .rs (3, 0) (l.map eDf)] = some (.bool true, []) := by
  have h := eqDef_loop hl l.length 0 (Nat.zero_add _)
  rw [Int.natCast_zero] at h
  rw [elaws_eqDefS]
  simp (disch := first | omega | (simp only [List.length_append, List.length_cons, List.length_nil, List.length_map, mk_size, nat_cast_eq]; omega)) only [↓br_false, bne_f, List.length_map, nat_cast_eq, h]

/-! ## String -/
theorem toString_loop {l : List ByteArray} (hl : l.length < 4611686018427387904) (Z : D) : ∀ (k i : Nat), i + k = l.length → Llaws_toStringS_3 (l.map D.str) (i : Int) ((l.take i).map D.str ++ List.replicate k Z) = some (.os (1, 0) (l.map D.str), [])
  | 0, i, hi => by
    have : i = l.length := by omega
    subst this
    rw [Llaws_toStringS_3_eq, List.take_length, List.replicate_zero, List.append_nil]
    simp (disch := first | omega | (simp only [List.length_append, List.length_cons, List.length_nil, List.length_map, mk_size, nat_cast_eq]; omega)) only [↓br_false, dec_f, List.length_map, nat_cast_eq]
  | k + 1, i, hi => by
    obtain ⟨x, hx⟩ := get_of_lt (l := l) (i := i) (by omega)
    have ih := toString_loop hl Z k (i + 1) (by omega)
    have hA : ((l.take i).map D.str).length = i := by rw [List.length_map, List.length_take]; omega
    have hw : IntKind.wrap IntKind.i64 ((i : Int) + 1) = ((i + 1 : Nat) : Int) := w64s (by omega)
    have hj : (l.take i).map D.str ++ D.str x :: List.replicate k Z = (l.take (i + 1)).map D.str ++ List.replicate k Z := by rw [take_at hx]; simp
    rw [Llaws_toStringS_3_eq, List.replicate_succ]
    simp (disch := first | omega | (simp only [List.length_append, List.length_cons, List.length_nil, List.length_map, mk_size, nat_cast_eq]; omega)) only [↓br_true, ↓grd_true, ↓asS_str, ↓nam_eq, ↓oget_nat, dec_t, Bool.and_true, List.length_map, List.length_append, List.length_cons, nat_cast_eq, ↓oget_map hx, ↓oget_mid hA, set_mid' hA, List.length_take, List.length_replicate, Int.toNat_natCast, hw, hj, ih]
theorem v_toStringS {l : List ByteArray} (hl : l.length ≤ 4294967296) : V 105 [.rs (1, 0) (l.map D.str)] = some (.os (1, 0) (l.map D.str), []) := by
  have h := toString_loop (l := l) (by omega) (D.str ⟨#[]⟩) l.length 0 (Nat.zero_add _)
  rw [Int.natCast_zero, List.take_zero, List.map_nil, List.nil_append] at h
  rw [elaws_toStringS]
  simp (disch := first | omega | (simp only [List.length_append, List.length_cons, List.length_nil, List.length_map, mk_size, nat_cast_eq]; omega)) only [↓grd_true, dec_t, Bool.and_true, List.length_map, LIM_eq, nat_cast_eq, Int.toNat_natCast]
  exact h
theorem szString_loop {l : List ByteArray} (hl : l.length < 4611686018427387904) (hs : ∀ x ∈ l, x.size < 4611686018427387904) : ∀ (k i : Nat) (left : Int), i + k = l.length → 0 ≤ left → left ≤ 4611686018427387904 → ∃ n : Int, Llaws_szStringS_5 (l.map D.str) left (i : Int) = some (.int .i64 n, []) ∧ n ≤ left ∧ (0 ≤ n → ∀ x ∈ l.drop i, (x.size : Int) ≤ left)
  | 0, i, left, hi, h0, h1 => by
    refine ⟨left, ?_, Int.le_refl _, fun _ x hx => by rw [List.drop_of_length_le (by omega)] at hx; simp at hx⟩
    rw [Llaws_szStringS_5_eq]
    simp (disch := first | omega | (simp only [List.length_append, List.length_cons, List.length_nil, List.length_map, mk_size, nat_cast_eq]; omega)) only [↓br_false, dec_f, List.length_map, nat_cast_eq]
  | k + 1, i, left, hi, h0, h1 => by
    obtain ⟨x, hx⟩ := get_of_lt (l := l) (i := i) (by omega)
    have hsx := hs x (List.mem_of_getElem? hx)
    have hw : IntKind.wrap IntKind.i64 ((i : Int) + 1) = ((i + 1 : Nat) : Int) := w64s (by omega)
    by_cases h : left - (x.size : Int) < 0
    · refine ⟨-1, ?_, by omega, by omega⟩
      rw [Llaws_szStringS_5_eq]
      simp (disch := first | omega | (simp only [List.length_append, List.length_cons, List.length_nil, List.length_map, mk_size, nat_cast_eq]; omega)) only [↓br_true, ↓grd_true, ↓asS_str, ↓oget_nat, dec_t, Bool.and_true, List.length_map, wS, nat_cast_eq, ↓oget_map hx]
    · obtain ⟨n, hn, hle, hall⟩ := szString_loop hl hs k (i + 1) (left - x.size) (by omega) (by omega) (by omega)
      refine ⟨n, ?_, by omega, fun h0 y hy => ?_⟩
      · rw [Llaws_szStringS_5_eq]
        simp (disch := first | omega | (simp only [List.length_append, List.length_cons, List.length_nil, List.length_map, mk_size, nat_cast_eq]; omega)) only [↓br_true, ↓br_false, ↓grd_true, ↓asS_str, ↓oget_nat, dec_t, dec_f, Bool.and_true, List.length_map, wS, nat_cast_eq, ↓oget_map hx, hw, hn]
      · rw [drop_at hx] at hy
        rcases List.mem_cons.1 hy with rfl | hy
        · omega
        · have := hall h0 y hy; omega
theorem v_szStringS {l : List ByteArray} (hl : l.length < 4611686018427387904) (hs : ∀ x ∈ l, x.size < 4611686018427387904) {left : Int} (h0 : 0 ≤ left) (h1 : left ≤ 4611686018427387904) : ∃ n : Int, V 103 [.rs (1, 0) (l.map D.str), .int .i64 left] = some (.int .i64 n, []) ∧ n ≤ left ∧ (0 ≤ n → (l.length : Int) ≤ left ∧ ∀ x ∈ l, (x.size : Int) ≤ left) := by
  by_cases h : left - (l.length : Int) < 0
  · refine ⟨-1, ?_, by omega, by omega⟩
    rw [elaws_szStringS]
    simp (disch := first | omega | (simp only [List.length_append, List.length_cons, List.length_nil, List.length_map, mk_size, nat_cast_eq]; omega)) only [↓br_true, dec_t, List.length_map, wS, nat_cast_eq]
  · obtain ⟨n, hn, hle, hall⟩ := szString_loop hl hs l.length 0 (left - l.length) (Nat.zero_add _) (by omega) (by omega)
    rw [Int.natCast_zero] at hn
    refine ⟨n, ?_, by omega, fun h0 => ⟨by omega, fun x hx => by have := hall h0 x (by rw [List.drop_zero]; exact hx); omega⟩⟩
    rw [elaws_szStringS]
    simp (disch := first | omega | (simp only [List.length_append, List.length_cons, List.length_nil, List.length_map, mk_size, nat_cast_eq]; omega)) only [↓br_false, dec_f, List.length_map, wS, nat_cast_eq, hn]
theorem eqString_loop {l : List ByteArray} (hl : l.length < 4611686018427387904) : ∀ (k i : Nat), i + k = l.length → Llaws_eqStringS_4 (l.map D.str) (l.map D.str) (i : Int) = some (.bool true, [])
  | 0, i, hi => by rw [Llaws_eqStringS_4_eq]; simp (disch := first | omega | (simp only [List.length_append, List.length_cons, List.length_nil, List.length_map, mk_size, nat_cast_eq]; omega)) only [↓br_false, dec_f, List.length_map, nat_cast_eq]
  | k + 1, i, hi => by
    obtain ⟨x, hx⟩ := get_of_lt (l := l) (i := i) (by omega)
    have ih := eqString_loop hl k (i + 1) (by omega)
    have hw : IntKind.wrap IntKind.i64 ((i : Int) + 1) = ((i + 1 : Nat) : Int) := w64s (by omega)
    have hr : strEq x x = true := by rw [strEq_eq]; simp
    rw [Llaws_eqStringS_4_eq]
    simp (disch := first | omega | (simp only [List.length_append, List.length_cons, List.length_nil, List.length_map, mk_size, nat_cast_eq]; omega)) only [↓br_true, ↓br_false, ↓grd_true, ↓asS_str, ↓oget_nat, dec_t, Bool.and_true, Bool.not_true, List.length_map, nat_cast_eq, ↓oget_map hx, hr, hw, ih]
theorem v_eqStringS {l : List ByteArray} (hl : l.length < 4611686018427387904) : V 111 [.rs (1, 0) (l.map D.str), .rs (1, 0) (l.map D.str)] = some (.bool true, []) := by
  have h := eqString_loop hl l.length 0 (Nat.zero_add _)
  rw [Int.natCast_zero] at h
  rw [elaws_eqStringS]
  simp (disch := first | omega | (simp only [List.length_append, List.length_cons, List.length_nil, List.length_map, mk_size, nat_cast_eq]; omega)) only [↓br_false, bne_f, List.length_map, nat_cast_eq, h]
end Go.Eng
