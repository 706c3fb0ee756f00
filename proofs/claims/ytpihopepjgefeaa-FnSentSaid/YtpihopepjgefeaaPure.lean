/- what the functions on links come to -/
import Derived.Test.YtpihopepjgefeaaEngC
import Derived.Test.YtpihopepjgefeaaFn
namespace Go.Eng
open Go.Proofs Go.Proofs.Try

theorem strEq_refl (s : ByteArray) : strEq s s = true := by simp [strEq]

structure Pc where
  no : Int
  text : ByteArray
structure Lk where
  sent : Int
  acked : Int
  queue : List ByteArray
  got : Int
  held : List Pc
def eP (p : Pc) : D := .agg [.int .i64 p.no, .str p.text]
theorem eP_mk (p : Pc) : eP p = .agg [.int .i64 p.no, .str p.text] := rfl
/-- a link, its rows lent, or owned -/
def eK (l : Lk) : D := .agg [.int .i64 l.sent, .int .i64 l.acked, .rs (1, 0) (l.queue.map .str), .int .i64 l.got, .rs (2, 0) (l.held.map eP)]
def oK (l : Lk) : D := .agg [.int .i64 l.sent, .int .i64 l.acked, .os (1, 0) (l.queue.map .str), .int .i64 l.got, .os (2, 0) (l.held.map eP)]

theorem v_within (n lo hi : Int) : V 50 [.int .i64 n, .int .i64 lo, .int .i64 hi] = some (.bool (wi n lo hi), []) := (eimpl_within n lo hi).trans within_eq
theorem v_l1In (n lo hi : Int) : V 46 [.int .i64 n, .int .i64 lo, .int .i64 hi] = some (.bool (wi n lo hi), []) := (espec_l1In n lo hi).trans within_eq
theorem v_l1Min (a b : Int) : V 47 [.int .i64 a, .int .i64 b] = some (.int .i64 (mnI a b), []) := by
  rw [espec_l1Min]
  unfold mnI
  by_cases h : a < b
  · rw [br_of (decide_eq_true h), if_neg (by omega)]
  · rw [br_not (decide_eq_false h)]
    by_cases h2 : b < a
    · rw [if_pos h2]
    · rw [if_neg h2, show b = a by omega]

/-! ## sizes -/
theorem szS_loop {q : List ByteArray} (hq : ∀ s ∈ q, s.size ≤ 140737488351232) (hl : q.length < 4611686018427387904) : ∀ (k i : Nat) (n : Int), i + k = q.length → 0 ≤ n → n ≤ 1048576 → ∃ m, Llaws_szStringS_5 (q.map .str) n (i : Int) = some (.int .i64 m, []) ∧ m ≤ 1048576
  | 0, i, n, hi, h0, h1 => by
    rw [Llaws_szStringS_5_eq, br_not (by rw [List.length_map]; exact ge_idx (by omega))]
    exact ⟨_, rfl, h1⟩
  | k + 1, i, n, hi, h0, h1 => by
    obtain ⟨x, hx⟩ := get_of_lt (l := q) (i := i) (by omega)
    have hs := hq x (List.mem_of_getElem? hx)
    rw [Llaws_szStringS_5_eq, br_of (by rw [List.length_map]; exact lt_idx (by omega)), grd_of (by rw [List.length_map]; exact in_idx (by omega)), Int.toNat_natCast, oget_map hx, asS_str, w64 (n := n - ni x.size) (by simp only [ni]; omega) (by simp only [ni]; omega), w64s (by omega)]
    by_cases h : n - ni x.size < 0
    · rw [br_of (decide_eq_true h)]; exact ⟨_, rfl, by omega⟩
    · rw [br_not (decide_eq_false h)]
      exact szS_loop hq hl k (i + 1) _ (by omega) (by omega) (by simp only [ni]; omega)
theorem v_szS {q : List ByteArray} (hq : ∀ s ∈ q, s.size ≤ 140737488351232) (hl : q.length < 4611686018427387904) {n : Int} (h0 : 0 ≤ n) (h1 : n ≤ 1048576) : ∃ m, V 44 [.rs (1, 0) (q.map .str), .int .i64 n] = some (.int .i64 m, []) ∧ m ≤ 1048576 ∧ (0 ≤ m → q.length ≤ 1048576) := by
  rw [elaws_szStringS]
  simp only [ni, List.length_map]
  rw [w64 (by omega) (by omega)]
  by_cases h : n - q.length < 0
  · rw [br_of (decide_eq_true h)]; exact ⟨_, rfl, by omega, by omega⟩
  · rw [br_not (decide_eq_false h)]
    obtain ⟨m, h2, h3⟩ := szS_loop hq hl q.length 0 (n - q.length) (by omega) (by omega) (by omega)
    exact ⟨m, h2, h3, by omega⟩

theorem v_szP (p : Pc) (hp : p.text.size ≤ 140737488351232) {n : Int} (h0 : 0 ≤ n) (h1 : n ≤ 1048576) : ∃ m, V 39 [.agg [.int .i64 p.no, .str p.text], .int .i64 n] = some (.int .i64 m, []) ∧ m ≤ 1048576 := by
  rw [elaws_szPiece, w64 (by simp only [ni]; omega) (by simp only [ni]; omega)]
  by_cases h : n - ni p.text.size < 0
  · rw [br_of (decide_eq_true h)]; exact ⟨_, rfl, by omega⟩
  · rw [br_not (decide_eq_false h)]; exact ⟨_, rfl, by simp only [ni]; omega⟩

theorem szPS_loop {q : List Pc} (hq : ∀ s ∈ q, s.text.size ≤ 140737488351232) (hl : q.length < 4611686018427387904) : ∀ (k i : Nat) (n : Int), i + k = q.length → 0 ≤ n → n ≤ 1048576 → ∃ m, Llaws_szPieceS_5 (q.map eP) n (i : Int) = some (.int .i64 m, []) ∧ m ≤ 1048576
  | 0, i, n, hi, h0, h1 => by
    rw [Llaws_szPieceS_5_eq, br_not (by rw [List.length_map]; exact ge_idx (by omega))]
    exact ⟨_, rfl, h1⟩
  | k + 1, i, n, hi, h0, h1 => by
    obtain ⟨x, hx⟩ := get_of_lt (l := q) (i := i) (by omega)
    obtain ⟨m, h2, h3⟩ := v_szP x (hq x (List.mem_of_getElem? hx)) h0 h1
    rw [Llaws_szPieceS_5_eq, br_of (by rw [List.length_map]; exact lt_idx (by omega)), grd_of (by rw [List.length_map]; exact in_idx (by omega)), Int.toNat_natCast, oget_map hx, eP_mk x, asAgg_agg, unc_cons, asI_int, unc_cons, asS_str, unn_nil, ocall_some h2, asI_int, unn_nil, w64s (by omega)]
    by_cases h : m < 0
    · rw [br_of (decide_eq_true h)]; exact ⟨_, rfl, by omega⟩
    · rw [br_not (decide_eq_false h)]
      exact szPS_loop hq hl k (i + 1) _ (by omega) (by omega) h3
theorem v_szPS {q : List Pc} (hq : ∀ s ∈ q, s.text.size ≤ 140737488351232) (hl : q.length < 4611686018427387904) {n : Int} (h0 : 0 ≤ n) (h1 : n ≤ 1048576) : ∃ m, V 45 [.rs (2, 0) (q.map eP), .int .i64 n] = some (.int .i64 m, []) ∧ m ≤ 1048576 ∧ (0 ≤ m → q.length ≤ 1048576) := by
  rw [elaws_szPieceS]
  simp only [ni, List.length_map]
  rw [w64 (by omega) (by omega)]
  by_cases h : n - q.length < 0
  · rw [br_of (decide_eq_true h)]; exact ⟨_, rfl, by omega, by omega⟩
  · rw [br_not (decide_eq_false h)]
    obtain ⟨m, h2, h3⟩ := szPS_loop hq hl q.length 0 (n - q.length) (by omega) (by omega) (by omega)
    exact ⟨m, h2, h3, by omega⟩

/-- what comes of the arguments -/
structure Lk.Fits (l : Lk) : Prop where
  q : ∀ s ∈ l.queue, s.size ≤ 140737488351232
  ql : l.queue.length < 4611686018427387904
  h : ∀ s ∈ l.held, s.text.size ≤ 140737488351232
  hl : l.held.length < 4611686018427387904
theorem v_sz {l : Lk} (hf : l.Fits) {n : Int} (h0 : 0 ≤ n) (h1 : n ≤ 1048576) : ∃ m, V 13 [eK l, .int .i64 n] = some (.int .i64 m, []) ∧ m ≤ 1048576 ∧ (0 ≤ m → l.queue.length ≤ 1048576 ∧ l.held.length ≤ 1048576) := by
  unfold eK
  rw [elaws_szLink]
  obtain ⟨m, h2, h3, h4⟩ := v_szS hf.q hf.ql h0 h1
  rw [ocall_some h2, asI_int, unn_nil]
  by_cases h : m < 0
  · rw [br_of (decide_eq_true h)]; exact ⟨_, rfl, by omega, by omega⟩
  · rw [br_not (decide_eq_false h)]
    obtain ⟨m2, h5, h6, h7⟩ := v_szPS hf.h hf.hl (n := m) (by omega) h3
    rw [ocall_some h5, asI_int, unn_nil]
    by_cases h' : m2 < 0
    · rw [br_of (decide_eq_true h')]; exact ⟨_, rfl, by omega, by omega⟩
    · rw [br_not (decide_eq_false h')]; exact ⟨_, rfl, h6, fun _ => ⟨h4 (by omega), h7 (by omega)⟩⟩

/-! ## copies -/
theorem toS_loop {l : List ByteArray} (hl : l.length < 4611686018427387904) : ∀ (k i : Nat), i + k = l.length → Llaws_toStringS_3 (l.map .str) (i : Int) ((l.take i ++ List.replicate k (⟨#[]⟩ : ByteArray)).map .str) = some (.os (1, 0) (l.map .str), [])
  | 0, i, hi => by
    rw [Llaws_toStringS_3_eq, br_not (by rw [List.length_map]; exact ge_idx (by omega))]
    simp [List.take_of_length_le (show l.length ≤ i by omega)]
  | k + 1, i, hi => by
    obtain ⟨x, hx⟩ := get_of_lt (l := l) (i := i) (by omega)
    have ih := toS_loop hl k (i + 1) (by omega)
    have hlen : (l.take i ++ List.replicate (k + 1) (⟨#[]⟩ : ByteArray)).length = l.length := by simp; omega
    have hgi : (l.take i ++ List.replicate (k + 1) (⟨#[]⟩ : ByteArray))[i]? = some ⟨#[]⟩ := by
      rw [List.getElem?_append_right (by rw [List.length_take]; omega), List.length_take, show i - min i l.length = 0 by omega]
      rfl
    rw [Llaws_toStringS_3_eq, br_of (by rw [List.length_map]; exact lt_idx (by omega)), grd_of (by rw [List.length_map]; exact in_idx (by omega)), Int.toNat_natCast, oget_map hx, asS_str, grd_of (by rw [List.length_map, hlen]; exact in_idx (by omega)), oget_map hgi, w64s (by omega), nam_eq, ← ih]
    congr 1
    rw [← List.map_set]
    congr 1
    rw [List.set_append_right _ _ (by rw [List.length_take]; omega), List.length_take, show i - min i l.length = 0 by omega, take_at hx, List.replicate_succ]
    simp
theorem v_toS {l : List ByteArray} (hl : l.length ≤ 4294967296) : V 48 [.rs (1, 0) (l.map .str)] = some (.os (1, 0) (l.map .str), []) := by
  rw [elaws_toStringS, grd_of (by simp [ni, LIM]; omega)]
  have := toS_loop (l := l) (by omega) l.length 0 (by omega)
  simpa [ni, List.map_replicate] using this

def zP : Pc := ⟨0, ⟨#[]⟩⟩
theorem toP_loop {l : List Pc} (hl : l.length < 4611686018427387904) : ∀ (k i : Nat), i + k = l.length → Llaws_toPieceS_3 (l.map eP) (i : Int) ((l.take i ++ List.replicate k zP).map eP) = some (.os (2, 0) (l.map eP), [])
  | 0, i, hi => by
    rw [Llaws_toPieceS_3_eq, br_not (by rw [List.length_map]; exact ge_idx (by omega))]
    simp [List.take_of_length_le (show l.length ≤ i by omega)]
  | k + 1, i, hi => by
    obtain ⟨x, hx⟩ := get_of_lt (l := l) (i := i) (by omega)
    have ih := toP_loop hl k (i + 1) (by omega)
    have hlen : (l.take i ++ List.replicate (k + 1) zP).length = l.length := by simp; omega
    have hgi : (l.take i ++ List.replicate (k + 1) zP)[i]? = some zP := by
      rw [List.getElem?_append_right (by rw [List.length_take]; omega), List.length_take, show i - min i l.length = 0 by omega]
      rfl
    rw [Llaws_toPieceS_3_eq, br_of (by rw [List.length_map]; exact lt_idx (by omega)), grd_of (by rw [List.length_map]; exact in_idx (by omega)), Int.toNat_natCast, oget_map hx, eP_mk x]
    rw [asAgg_agg, unc_cons, asI_int, unc_cons, asS_str, unn_nil, ocall_some (elaws_toPiece _ _), asAgg_agg, unc_cons, asI_int, unc_cons, asS_str, unn_nil, unn_nil]
    rw [grd_of (by rw [List.length_map, hlen]; exact in_idx (by omega)), oget_map hgi, w64s (by omega), nam_eq, ← ih]
    congr 1
    rw [← eP_mk x, ← List.map_set]
    congr 1
    rw [List.set_append_right _ _ (by rw [List.length_take]; omega), List.length_take, show i - min i l.length = 0 by omega, take_at hx, List.replicate_succ]
    simp
theorem v_toP {l : List Pc} (hl : l.length ≤ 4294967296) : V 49 [.rs (2, 0) (l.map eP)] = some (.os (2, 0) (l.map eP), []) := by
  rw [elaws_toPieceS, grd_of (by simp [ni, LIM]; omega)]
  have := toP_loop (l := l) (by omega) l.length 0 (by omega)
  simpa [ni, List.map_replicate, zP, eP] using this
theorem v_toK {l : Lk} (h1 : l.queue.length ≤ 4294967296) (h2 : l.held.length ≤ 4294967296) : V 15 [eK l] = some (oK l, []) := by
  unfold eK oK
  rw [elaws_toLink, ocall_some (v_toS h1), asOs_os, unn_nil, ocall_some (v_toP h2), asOs_os, unn_nil]

/-! ## the same -/
theorem eqS_loop {l : List ByteArray} (hl : l.length < 4611686018427387904) : ∀ (k i : Nat), i + k = l.length → Llaws_eqStringS_4 (l.map .str) (l.map .str) (i : Int) = some (.bool true, [])
  | 0, i, hi => by rw [Llaws_eqStringS_4_eq, br_not (by rw [List.length_map]; exact ge_idx (by omega))]
  | k + 1, i, hi => by
    obtain ⟨x, hx⟩ := get_of_lt (l := l) (i := i) (by omega)
    rw [Llaws_eqStringS_4_eq, br_of (by rw [List.length_map]; exact lt_idx (by omega)), grd_of (by rw [List.length_map]; exact in_idx (by omega)), Int.toNat_natCast, oget_map hx, asS_str, grd_of (by rw [List.length_map]; exact in_idx (by omega)), oget_map hx, asS_str, br_not (by rw [strEq_refl]; rfl), w64s (by omega)]
    exact eqS_loop hl k (i + 1) (by omega)
theorem v_eqS {l : List ByteArray} (hl : l.length < 4611686018427387904) : V 41 [.rs (1, 0) (l.map .str), .rs (1, 0) (l.map .str)] = some (.bool true, []) := by
  rw [elaws_eqStringS, br_not (by simp)]
  exact eqS_loop hl l.length 0 (by omega)
theorem v_eqPc (p : Pc) : V 58 [.agg [.int .i64 p.no, .str p.text], .agg [.int .i64 p.no, .str p.text]] = some (.bool true, []) := by
  rw [elaws_eqPiece, br_not (by simp), br_not (by rw [strEq_refl]; rfl)]
theorem eqP_loop {l : List Pc} (hl : l.length < 4611686018427387904) : ∀ (k i : Nat), i + k = l.length → Llaws_eqPieceS_4 (l.map eP) (l.map eP) (i : Int) = some (.bool true, [])
  | 0, i, hi => by rw [Llaws_eqPieceS_4_eq, br_not (by rw [List.length_map]; exact ge_idx (by omega))]
  | k + 1, i, hi => by
    obtain ⟨x, hx⟩ := get_of_lt (l := l) (i := i) (by omega)
    rw [Llaws_eqPieceS_4_eq, br_of (by rw [List.length_map]; exact lt_idx (by omega)), grd_of (by rw [List.length_map]; exact in_idx (by omega)), Int.toNat_natCast, oget_map hx, eP_mk x, asAgg_agg, unc_cons, asI_int, unc_cons, asS_str, unn_nil, grd_of (by rw [List.length_map]; exact in_idx (by omega)), oget_map hx, eP_mk x, asAgg_agg, unc_cons, asI_int, unc_cons, asS_str, unn_nil, ocall_some (v_eqPc x), asB_bool, unn_nil, br_not (by rfl), w64s (by omega)]
    exact eqP_loop hl k (i + 1) (by omega)
theorem v_eqP {l : List Pc} (hl : l.length < 4611686018427387904) : V 29 [.rs (2, 0) (l.map eP), .rs (2, 0) (l.map eP)] = some (.bool true, []) := by
  rw [elaws_eqPieceS, br_not (by simp)]
  exact eqP_loop hl l.length 0 (by omega)
theorem v_eqK {l : Lk} (h1 : l.queue.length < 4611686018427387904) (h2 : l.held.length < 4611686018427387904) : V 17 [eK l, eK l] = some (.bool true, []) := by
  unfold eK
  rw [elaws_eqLink, br_not (by simp), br_not (by simp), ocall_some (v_eqS h1), asB_bool, unn_nil, br_not (by rfl), br_not (by simp), ocall_some (v_eqP h2), asB_bool, unn_nil, br_not (by rfl)]

/-! ## LinkOk -/
def prevOk (h : List Pc) : Nat → Pc → Bool
  | 0, _ => true
  | j + 1, p => match h[j]? with | some q => !decide (q.no ≥ p.no) | none => true
def heldFrom (l : Lk) : Nat → Nat → Bool
  | _, 0 => true
  | i, k + 1 => (match l.held[i]? with | some p => wi p.no (l.got + 1) (mnI (l.got + 4) l.sent - 1) && prevOk l.held i p | none => true) && heldFrom l (i + 1) k
def okK (l : Lk) : Bool := wi l.sent 0 100000 && (wi l.got 0 l.sent && (wi l.acked 0 l.got && (((l.queue.length : Int) == l.sent - l.acked) && (!decide ((l.queue.length : Int) > 30) && heldFrom l 0 l.held.length))))

theorem mnI_le (a b : Int) : mnI a b ≤ a ∧ mnI a b ≤ b ∧ (mnI a b = a ∨ mnI a b = b) := by unfold mnI; split <;> omega

theorem spec_okK_loop {l : Lk} (hl : l.held.length < 4611686018427387904) (h1 : 0 ≤ l.got) (h2 : l.got ≤ 100000) (h3 : 0 ≤ l.sent) (h4 : l.sent ≤ 100000) : ∀ (k i : Nat), i + k = l.held.length → Lspec_LinkOk_4 (i : Int) l.sent l.acked (l.queue.map .str) l.got (l.held.map eP) = some (.bool (heldFrom l i k), [])
  | 0, i, hi => by
    rw [Lspec_LinkOk_4_eq, br_not (by rw [List.length_map]; exact ge_idx (by omega))]; rfl
  | k + 1, i, hi => by
    obtain ⟨x, hx⟩ := get_of_lt (l := l.held) (i := i) (by omega)
    have ih := spec_okK_loop hl h1 h2 h3 h4 k (i + 1) (by omega)
    have hmn := mnI_le (l.got + 4) l.sent
    rw [Lspec_LinkOk_4_eq, br_of (by rw [List.length_map]; exact lt_idx (by omega)), grd_of (by rw [List.length_map]; exact in_idx (by omega)), Int.toNat_natCast, oget_map hx, eP_mk x, asAgg_agg, oget_lit0, asI_int, w64 (n := l.got + 4) (by omega) (by omega), ocall_some (v_l1Min _ _), asI_int, unn_nil, w64 (n := l.got + 1) (by omega) (by omega), w64 (n := mnI (l.got + 4) l.sent - 1) (by omega) (by omega), ocall_some (v_l1In _ _ _), asB_bool, unn_nil, w64s (by omega)]
    simp only [heldFrom, hx]
    cases wi x.no (l.got + 1) (mnI (l.got + 4) l.sent - 1) with
    | false => rfl
    | true =>
      rw [Bool.not_true, br_false]
      cases i with
      | zero => rw [br_not (by simp)]; simp only [prevOk, Bool.true_and, Bool.and_self]; exact ih
      | succ j =>
        obtain ⟨y, hy⟩ := get_of_lt (l := l.held) (i := j) (by omega)
        rw [br_of (by simp), w64 (n := ((j + 1 : Nat) : Int) - 1) (by omega) (by omega), show ((j + 1 : Nat) : Int) - 1 = (j : Int) by omega, grd_of (by rw [List.length_map]; exact in_idx (by omega)), Int.toNat_natCast, oget_map hy, eP_mk y, asAgg_agg, oget_lit0, asI_int]
        simp only [prevOk, hy]
        cases decide (y.no ≥ x.no) with
        | true => rfl
        | false => rw [br_false]; simpa using ih
theorem v_spec_okK {l : Lk} (hq : l.queue.length < 4611686018427387904) (hl : l.held.length < 4611686018427387904) : V 14 [eK l] = some (.bool (okK l), []) := by
  unfold eK okK
  rw [espec_LinkOk, ocall_some (v_l1In _ _ _), asB_bool, unn_nil]
  cases h1 : wi l.sent 0 100000 with
  | false => rfl
  | true =>
    rw [Bool.not_true, br_false, ocall_some (v_l1In _ _ _), asB_bool, unn_nil]
    cases h2 : wi l.got 0 l.sent with
    | false => rfl
    | true =>
      rw [Bool.not_true, br_false, ocall_some (v_l1In _ _ _), asB_bool, unn_nil]
      cases h3 : wi l.acked 0 l.got with
      | false => rfl
      | true =>
        simp only [wi, Bool.and_eq_true, decide_eq_true_eq] at h1 h2 h3
        rw [Bool.not_true, br_false, w64 (n := l.sent - l.acked) (by omega) (by omega)]
        simp only [ni, List.length_map, bne]
        cases ((l.queue.length : Int) == l.sent - l.acked) with
        | false => rfl
        | true =>
          rw [Bool.not_true, br_false]
          cases decide ((l.queue.length : Int) > 30) with
          | true => rfl
          | false =>
            rw [br_false]
            simpa using spec_okK_loop hl (by omega) (by omega) (by omega) (by omega) l.held.length 0 (by omega)

theorem impl_okK_loop {l : Lk} (hl : l.held.length < 4611686018427387904) (h1 : 0 ≤ l.got) (h2 : l.got ≤ 100000) (h3 : 0 ≤ l.sent) (h4 : l.sent ≤ 100000) : ∀ (k i : Nat), i + k = l.held.length → Limpl_LinkOk_4 (l.held.map eP) (l.held.length : Int) (i : Int) l.sent l.acked (l.queue.map .str) l.got (l.held.map eP) = some (.bool (heldFrom l i k), [])
  | 0, i, hi => by
    rw [Limpl_LinkOk_4_eq, br_not (decide_eq_false (by omega))]; rfl
  | k + 1, i, hi => by
    obtain ⟨x, hx⟩ := get_of_lt (l := l.held) (i := i) (by omega)
    have ih := impl_okK_loop hl h1 h2 h3 h4 k (i + 1) (by omega)
    have hmn := mnI_le (l.got + 4) l.sent
    rw [Limpl_LinkOk_4_eq, br_of (decide_eq_true (by omega)), grd_of (by rw [List.length_map]; exact in_idx (by omega)), Int.toNat_natCast, oget_map hx, eP_mk x, asAgg_agg, unc_cons, asI_int, unc_cons, asS_str, unn_nil, w64 (n := l.got + 4) (by omega) (by omega), w64 (n := l.got + 1) (by omega) (by omega), w64 (n := mnI (l.got + 4) l.sent - 1) (by omega) (by omega), ocall_some (v_within _ _ _), asB_bool, unn_nil, w64s (by omega)]
    simp only [heldFrom, hx]
    cases wi x.no (l.got + 1) (mnI (l.got + 4) l.sent - 1) with
    | false => rfl
    | true =>
      rw [Bool.not_true, br_false]
      cases i with
      | zero => rw [br_not (by simp)]; simp only [prevOk, Bool.true_and, Bool.and_self]; exact ih
      | succ j =>
        obtain ⟨y, hy⟩ := get_of_lt (l := l.held) (i := j) (by omega)
        rw [br_of (by simp), w64 (n := ((j + 1 : Nat) : Int) - 1) (by omega) (by omega), show ((j + 1 : Nat) : Int) - 1 = (j : Int) by omega, grd_of (by rw [List.length_map]; exact in_idx (by omega)), Int.toNat_natCast, oget_map hy, eP_mk y, asAgg_agg, oget_lit0, asI_int]
        simp only [prevOk, hy]
        cases decide (y.no ≥ x.no) with
        | true => rfl
        | false => rw [br_false]; simpa using ih
theorem v_impl_okK {l : Lk} (hq : l.queue.length < 4611686018427387904) (hl : l.held.length < 4611686018427387904) : V 16 [eK l] = some (.bool (okK l), []) := by
  unfold eK okK
  rw [eimpl_LinkOk, ocall_some (v_within _ _ _), asB_bool, unn_nil]
  cases h1 : wi l.sent 0 100000 with
  | false => rfl
  | true =>
    rw [Bool.not_true, br_false, ocall_some (v_within _ _ _), asB_bool, unn_nil]
    cases h2 : wi l.got 0 l.sent with
    | false => rfl
    | true =>
      rw [Bool.not_true, br_false, ocall_some (v_within _ _ _), asB_bool, unn_nil]
      cases h3 : wi l.acked 0 l.got with
      | false => rfl
      | true =>
        simp only [wi, Bool.and_eq_true, decide_eq_true_eq] at h1 h2 h3
        rw [Bool.not_true, br_false, w64 (n := l.sent - l.acked) (by omega) (by omega)]
        simp only [ni, List.length_map, bne]
        cases ((l.queue.length : Int) == l.sent - l.acked) with
        | false => rfl
        | true =>
          rw [Bool.not_true, br_false]
          cases decide ((l.queue.length : Int) > 30) with
          | true => rfl
          | false =>
            rw [br_false]
            simpa using impl_okK_loop hl (by omega) (by omega) (by omega) (by omega) l.held.length 0 (by omega)

theorem pure_LinkOk {l : Lk} (hf : l.Fits) : V 3 [eK l] = some (.bool true, []) := by
  obtain ⟨m, h1, h2, h3⟩ := v_sz hf (n := 1048576) (by omega) (by omega)
  have e : V 3 [eK l] = _ := elaws_FnExactLinkOk l.sent l.acked (l.queue.map .str) l.got (l.held.map eP)
  rw [e]
  rw [show D.agg [.int .i64 l.sent, .int .i64 l.acked, .rs (1, 0) (l.queue.map .str), .int .i64 l.got, .rs (2, 0) (l.held.map eP)] = eK l from rfl]
  rw [ocall_some h1, asI_int, unn_nil]
  by_cases h : m < 0
  · rw [br_of (decide_eq_true h)]
  rw [br_not (decide_eq_false h)]
  obtain ⟨h5, h6⟩ := h3 (by omega)
  have hk := v_toK (l := l) (by omega) (by omega)
  have hs := v_spec_okK (l := l) (by omega) (by omega)
  have hi := v_impl_okK (l := l) (by omega) (by omega)
  have he := v_eqK (l := l) (by omega) (by omega)
  unfold oK at hk
  rw [ocall_some hk, asAgg_agg, unc_cons, asI_int, unc_cons, asI_int, unc_cons, asOs_os, unc_cons, asI_int, unc_cons, asOs_os, unn_nil, unn_nil]
  rw [show D.agg [.int .i64 l.sent, .int .i64 l.acked, .rs (1, 0) (l.queue.map .str), .int .i64 l.got, .rs (2, 0) (l.held.map eP)] = eK l from rfl]
  rw [ocall_some hs, asB_bool, unn_nil]
  rw [ocall_some hk, asAgg_agg, unc_cons, asI_int, unc_cons, asI_int, unc_cons, asOs_os, unc_cons, asI_int, unc_cons, asOs_os, unn_nil, unn_nil]
  rw [show D.agg [.int .i64 l.sent, .int .i64 l.acked, .rs (1, 0) (l.queue.map .str), .int .i64 l.got, .rs (2, 0) (l.held.map eP)] = eK l from rfl]
  rw [ocall_some hi, asB_bool, unn_nil, br_not (by cases okK l <;> rfl)]
  rw [ocall_some hk, asAgg_agg, unc_cons, asI_int, unc_cons, asI_int, unc_cons, asOs_os, unc_cons, asI_int, unc_cons, asOs_os, unn_nil, unn_nil]
  rw [show D.agg [.int .i64 l.sent, .int .i64 l.acked, .rs (1, 0) (l.queue.map .str), .int .i64 l.got, .rs (2, 0) (l.held.map eP)] = eK l from rfl]
  rw [ocall_some he, asB_bool, unn_nil, br_not (by rfl)]

/-! ## the arguments -/
theorem z9 : zOf prog 9 = some (1, 0) := by rfl
theorem z59 : zOf prog 59 = some (2, 0) := by rfl
theorem listOf_forall {α : Type} {enc : α → D} {p : α → Prop} {ys : List D} (h : ∀ x ∈ ys, ∃ a, x = enc a ∧ p a) : ∃ l : List α, ys = l.map enc ∧ ∀ a ∈ l, p a := listOf_all h
theorem arg_link {x : D} (h : ShapeV prog 25 x) : ∃ l : Lk, x = eK l ∧ l.Fits := by
  obtain ⟨ys, hs, rfl⟩ := h
  obtain ⟨parts, rfl, hp⟩ := hs.struct Try.underlying25
  cases hp with | cons p1 hp =>
  cases hp with | cons p2 hp =>
  cases hp with | cons p3 hp =>
  cases hp with | cons p4 hp =>
  cases hp with | cons p5 hp =>
  cases hp
  obtain ⟨a, rfl, _⟩ := p1.int Try.underlying3
  obtain ⟨b, rfl, _⟩ := p2.int Try.underlying3
  obtain ⟨c, rfl, _⟩ := p4.int Try.underlying3
  obtain ⟨qs, rfl, hq1, hq2⟩ := p3.slice Try.underlying22 z9
  obtain ⟨hs', rfl, hh1, hh2⟩ := p5.slice Try.underlying23 z59
  have q1 : ∀ x ∈ qs, ∃ s : ByteArray, x = D.str s ∧ s.size ≤ 140737488351232 := by
    intro x hx
    obtain ⟨ps, hs, rfl⟩ := hq2 x hx
    obtain ⟨s, rfl, hsz⟩ := hs.str Try.underlying9
    exact ⟨s, elemOf_str Try.underlying9, hsz⟩
  have h1 : ∀ x ∈ hs', ∃ p : Pc, x = eP p ∧ p.text.size ≤ 140737488351232 := by
    intro x hx
    obtain ⟨ps, hs, rfl⟩ := hh2 x hx
    obtain ⟨parts, rfl, hp⟩ := hs.struct Try.underlying59
    cases hp with | cons r1 hp =>
    cases hp with | cons r2 hp =>
    cases hp
    obtain ⟨n, rfl, _⟩ := r1.int Try.underlying3
    obtain ⟨s, rfl, hsz⟩ := r2.str Try.underlying9
    rw [elemOf_struct Try.underlying59]
    exact ⟨⟨n, s⟩, rfl, hsz⟩
  obtain ⟨q, rfl, hq⟩ := listOf_forall q1
  obtain ⟨h, rfl, hh⟩ := listOf_forall h1
  have hby : prog.bytesOf 9 = 16 := by rfl
  have hby2 : prog.bytesOf 59 = 24 := by rfl
  have hr : reachBytes = 140737488351232 := rfl
  rw [hby, List.length_map] at hq1
  rw [hby2, List.length_map] at hh1
  refine ⟨⟨a, b, q, c, h⟩, ?_, ⟨hq, by simp only; omega, hh, by simp only; omega⟩⟩
  rw [elemOf_struct Try.underlying25]; rfl
theorem core_FnExactLinkOk (xs : List D) (h : All2 (fun t x => ShapeV Try.prog t x) Try.f3.params.toList xs) : V 3 xs = some (.bool true, []) := by
  rw [Try.params3] at h
  cases h with | cons h1 h =>
  cases h
  obtain ⟨l, rfl, hl⟩ := arg_link h1
  exact pure_LinkOk hl
end Go.Eng
