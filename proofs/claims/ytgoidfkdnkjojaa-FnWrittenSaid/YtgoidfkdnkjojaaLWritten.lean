/- what is written is well formed: the law -/
import Derived.Test.YtgoidfkdnkjojaaWritten
namespace Go.Eng
open Go.Proofs Go.Proofs.Try
set_option maxHeartbeats 4000000

theorem ne_lit {x : UInt8} (c : UInt8) (n : Int) (hn : (c.toNat : Int) = n) (h : ¬ x = c) : ((x.toNat : Int) == n) = false := ne_nat c n hn h
theorem w_inc {n : Nat} (h : n < 4611686018427387904) : IntKind.wrap IntKind.i64 ((n : Int) + 1) = ((n + 1 : Nat) : Int) := w64s h
theorem law_scan {l : List UInt8} (hl : l.length ≤ 400) : ∀ (k i d : Nat) (s : Bool), i + k = l.length → (i = 0 → s = true) → d ≤ i → (l = [] ∨ sc (l.drop i) d s = some (0, false)) → Llaws_FnWritten_9 (mk l) (d : Int) (i : Int) = some (.bool true, [])
  | 0, i, d, s, hi, hs, hd, h => by
    rw [Llaws_FnWritten_9_eq, mk_size, br_not (ge_idx (by omega))]
    have h0 : d = 0 := by
      rcases h with h | h
      · rw [h] at hi; simp at hi; omega
      · rw [List.drop_of_length_le (by omega), sc] at h
        simp only [Option.some.injEq, Prod.mk.injEq] at h
        exact h.1
    subst h0
    rw [br_of (by rfl), decide_eq_true (by simp only [ni]; omega)]
  | k + 1, i, d, s, hi, hs, hd, h => by
    obtain ⟨x, hx⟩ := get_of_lt (l := l) (i := i) (by omega)
    have hb := bt_mk hx
    have hsc : sc (l.drop i) d s = some (0, false) := by
      rcases h with h | h
      · rw [h] at hi; simp at hi
      · exact h
    rw [drop_at hx, sc] at hsc
    rw [Llaws_FnWritten_9_eq, mk_size, br_of (lt_idx (by omega)), grd_of (in_idx (by omega)), hb]
    by_cases h40 : x = 40
    · subst h40
      rw [if_pos rfl] at hsc
      have ih := law_scan hl k (i + 1) (d + 1) false (by omega) (by omega) (by omega) (.inr hsc)
      rw [br_of (by rfl), grd_of (in_idx (by omega)), br_not (by rfl), w_inc (by omega), br_not (decide_eq_false (by omega)), grd_of (in_idx (by omega)), br_not (by rfl), w_inc (by omega)]
      exact ih
    rw [if_neg h40] at hsc
    rw [br_not (ne_lit 40 40 rfl h40), grd_of (in_idx (by omega))]
    by_cases h41 : x = 41
    · subst h41
      rw [if_pos rfl] at hsc
      by_cases hd0 : d = 0
      · rw [if_pos hd0] at hsc; cases hsc
      rw [if_neg hd0] at hsc
      have ih := law_scan hl k (i + 1) (d - 1) false (by omega) (by omega) (by omega) (.inr hsc)
      have e : IntKind.wrap IntKind.i64 ((d : Int) - 1) = ((d - 1 : Nat) : Int) := by rw [w64 (by omega) (by omega)]; omega
      rw [br_of (by rfl), e, br_not (decide_eq_false (by omega)), grd_of (in_idx (by omega)), br_not (by rfl), w_inc (by omega)]
      exact ih
    rw [if_neg h41] at hsc
    rw [br_not (ne_lit 41 41 rfl h41), br_not (decide_eq_false (by omega)), grd_of (in_idx (by omega))]
    by_cases h32 : x = 32
    · subst h32
      rw [if_pos rfl] at hsc
      by_cases hs1 : s = true
      · rw [if_pos hs1] at hsc; cases hsc
      rw [if_neg hs1] at hsc
      have hi0 : i ≠ 0 := fun e => hs1 (hs e)
      have hi2 : i + 1 < l.length := by
        by_cases c : i + 1 < l.length
        · exact c
        · rw [List.drop_of_length_le (by omega), sc] at hsc
          simp at hsc
      obtain ⟨y, hy⟩ := get_of_lt (l := l) (i := i + 1) hi2
      have hby := bt_mk hy
      have ih := law_scan hl k (i + 1) d true (by omega) (by omega) (by omega) (.inr hsc)
      have hy32 : ¬ y = 32 := by
        intro e
        rw [drop_at hy, sc, e] at hsc
        simp at hsc
      rw [br_of (by rfl), br_not (by simp only [beq_eq_false_iff_ne, ne_eq]; omega), w_inc (by omega), br_not (by simp only [ni, beq_eq_false_iff_ne, ne_eq]; omega), grd_of (in_idx (by omega)), hby, br_not (ne_lit 32 32 rfl hy32)]
      exact ih
    rw [if_neg h32] at hsc
    have ih := law_scan hl k (i + 1) d false (by omega) (by omega) (by omega) (.inr hsc)
    rw [br_not (ne_lit 32 32 rfl h32), w_inc (by omega)]
    exact ih
/-! ## draws -/
noncomputable def TxB : Nat → Nat
  | 0 => 12
  | d + 1 => 2 + 5 * (2 + TxB d)
theorem size_app (a b : ByteArray) : (a ++ b).size = a.size + b.size := ByteArray.size_append
noncomputable def IsT (n : Nat) (v : D) : Prop := ∃ s : ByteArray, v = .str s ∧ s.size ≤ n
section
variable {b : List Int}
theorem dr_word (hb : b.length < 4611686018427387904) {c : Int × Int} (h : CurOk b c) : Drew b (IsT 12) (V 122 [eC b c, .rs (1, 0) [(.str ({ data := #[97] })), (.str ({ data := #[98, 99] })), (.str ({ data := #[49, 50] })), (.str ({ data := #[45, 51] })), (.str ({ data := #[48] })), (.str ({ data := #[35, 116] })), (.str ({ data := #[35, 102] })), (.str ({ data := #[40, 41] })), (.str ({ data := #[43] })), (.str ({ data := #[105, 102] })), (.str ({ data := #[120] })), (.str ({ data := #[110, 117, 108, 108, 63] })), (.str ({ data := #[49, 48, 48, 48, 48, 48, 48, 48, 48, 48] }))]]) := by
  refine drew_mono (dr_pick hb h [⟨#[97]⟩, ⟨#[98, 99]⟩, ⟨#[49, 50]⟩, ⟨#[45, 51]⟩, ⟨#[48]⟩, ⟨#[35, 116]⟩, ⟨#[35, 102]⟩, ⟨#[40, 41]⟩, ⟨#[43]⟩, ⟨#[105, 102]⟩, ⟨#[120]⟩, ⟨#[110, 117, 108, 108, 63]⟩, ⟨#[49, 48, 48, 48, 48, 48, 48, 48, 48, 48]⟩] (by simp)) ?_
  rintro v ⟨m, rfl, hm⟩
  refine ⟨m, rfl, ?_⟩
  simp only [List.mem_cons, List.not_mem_nil, or_false] at hm
  rcases hm with rfl | rfl | rfl | rfl | rfl | rfl | rfl | rfl | rfl | rfl | rfl | rfl | rfl <;> decide
theorem dr_space (hb : b.length < 4611686018427387904) {c : Int × Int} (h : CurOk b c) : Drew b (IsT 2) (V 122 [eC b c, .rs (1, 0) [(.str ({ data := #[32] })), (.str ({ data := #[32] })), (.str ({ data := #[32, 32] }))]]) := by
  refine drew_mono (dr_pick hb h [⟨#[32]⟩, ⟨#[32]⟩, ⟨#[32, 32]⟩] (by simp)) ?_
  rintro v ⟨m, rfl, hm⟩
  refine ⟨m, rfl, ?_⟩
  simp only [List.mem_cons, List.not_mem_nil, or_false] at hm
  rcases hm with rfl | rfl | rfl <;> decide
theorem dr_text_loop (hb : b.length < 4611686018427387904) {d : Nat} (hd : d ≤ 4) (hT : TxB d ≤ 100000) (hrec : ∀ c, CurOk b c → Drew b (IsT (TxB d)) (V 65 [eC b c, .int .i64 (d : Int)])) {n : Nat} (hn : n ≤ 5) : ∀ (k i : Nat) (s : ByteArray) (c : Int × Int), i + k = n → s.size ≤ 1 + i * (2 + TxB d) → CurOk b c →
    Drew b (IsT (2 + 5 * (2 + TxB d))) (Lspec_l3DrawText_6 ((d + 1 : Nat) : Int) s (n : Int) (i : Int) (b.map eB) c.1 c.2)
  | 0, i, s, c, hi, hs, hc => by
    have h5 : i * (2 + TxB d) ≤ 5 * (2 + TxB d) := Nat.mul_le_mul_right _ (by omega)
    have h1 : (⟨#[41]⟩ : ByteArray).size = 1 := rfl
    rw [Lspec_l3DrawText_6_eq, br_not (decide_eq_false (by omega)), grd_of (decide_eq_true (by rw [LIM_eq, h1]; simp only [ni]; omega))]
    exact drew_some hc ⟨_, rfl, by rw [size_app, h1]; omega⟩
  | k + 1, i, s, c, hi, hs, hc => by
    have h5 : i * (2 + TxB d) ≤ 5 * (2 + TxB d) := Nat.mul_le_mul_right _ (by omega)
    have h6 : (i + 1) * (2 + TxB d) = i * (2 + TxB d) + (2 + TxB d) := Nat.succ_mul _ _
    have ew : IntKind.wrap IntKind.i64 (((d + 1 : Nat) : Int) - 1) = (d : Int) := by rw [w64 (by omega) (by omega)]; omega
    rw [Lspec_l3DrawText_6_eq, br_of (decide_eq_true (by omega)), ew]
    refine got_br (fun _ => ?_) fun _ => ?_
    · refine drew_call (dr_space hb hc) fun v c1 a1 ⟨m, e, hm⟩ => ?_
      subst e
      simp (disch := first | omega | (simp only [List.length_append, List.length_cons, List.length_nil, List.length_map, mk_size, nat_cast_eq]; omega)) only [↓unn_nil, ↓unc_cons, ↓asI_int, ↓asS_str, ↓asRs_rs, ↓asOp_op]
      refine got_grd (decide_eq_true (by rw [LIM_eq]; simp only [ni]; omega)) ?_
      refine drew_call (hrec c1 a1) fun v c2 a2 ⟨m2, e, hm2⟩ => ?_
      subst e
      simp (disch := first | omega | (simp only [List.length_append, List.length_cons, List.length_nil, List.length_map, mk_size, nat_cast_eq]; omega)) only [↓unn_nil, ↓unc_cons, ↓asI_int, ↓asS_str, ↓asRs_rs, ↓asOp_op]
      refine got_grd (decide_eq_true (by rw [LIM_eq]; simp only [ni, size_app]; omega)) ?_
      rw [w64s (by omega)]
      exact dr_text_loop hb hd hT hrec hn k (i + 1) (s ++ m ++ m2) c2 (by omega) (by rw [size_app, size_app]; omega) a2
    · refine drew_call (hrec c hc) fun v c2 a2 ⟨m2, e, hm2⟩ => ?_
      subst e
      simp (disch := first | omega | (simp only [List.length_append, List.length_cons, List.length_nil, List.length_map, mk_size, nat_cast_eq]; omega)) only [↓unn_nil, ↓unc_cons, ↓asI_int, ↓asS_str, ↓asRs_rs, ↓asOp_op]
      refine got_grd (decide_eq_true (by rw [LIM_eq]; simp only [ni]; omega)) ?_
      rw [w64s (by omega)]
      exact dr_text_loop hb hd hT hrec hn k (i + 1) (s ++ m2) c2 (by omega) (by rw [size_app]; omega) a2
theorem TxB_le : ∀ d, d ≤ 4 → TxB d ≤ 100000 := by decide
theorem TxB_12 : ∀ d, d ≤ 4 → 12 ≤ TxB d := by decide
theorem dr_text (hb : b.length < 4611686018427387904) : ∀ (d : Nat), d ≤ 4 → ∀ c, CurOk b c → Drew b (IsT (TxB d)) (V 65 [eC b c, .int .i64 (d : Int)])
  | 0, _, c, hc => by
    rw [espec_l3DrawText, br_of (by rfl)]
    refine drew_call (dr_word hb hc) fun v c1 a1 ⟨m, e, hm⟩ => ?_
    subst e
    simp (disch := first | omega | (simp only [List.length_append, List.length_cons, List.length_nil, List.length_map, mk_size, nat_cast_eq]; omega)) only [↓unn_nil, ↓unc_cons, ↓asI_int, ↓asS_str, ↓asRs_rs, ↓asOp_op]
    exact drew_some a1 ⟨m, rfl, hm⟩
  | d + 1, hd, c, hc => by
    rw [espec_l3DrawText, br_not (decide_eq_false (by omega))]
    refine drew_call (dr_once hb hc 3) fun v c1 a1 ⟨o, e⟩ => ?_
    subst e
    simp (disch := first | omega | (simp only [List.length_append, List.length_cons, List.length_nil, List.length_map, mk_size, nat_cast_eq]; omega)) only [↓unn_nil, ↓unc_cons, ↓asI_int, ↓asB_bool, ↓asRs_rs, ↓asOp_op]
    refine got_br (fun _ => ?_) fun _ => ?_
    · refine drew_call (dr_word hb a1) fun v c2 a2 ⟨m, e, hm⟩ => ?_
      subst e
      simp (disch := first | omega | (simp only [List.length_append, List.length_cons, List.length_nil, List.length_map, mk_size, nat_cast_eq]; omega)) only [↓unn_nil, ↓unc_cons, ↓asI_int, ↓asS_str, ↓asRs_rs, ↓asOp_op]
      exact drew_some a2 ⟨m, rfl, by have := TxB_12 (d + 1) hd; omega⟩
    · refine drew_call (dr_below hb a1 5) fun v c2 a2 ⟨m, e, m0, m1⟩ => ?_
      subst e
      have := m1 (by omega)
      obtain ⟨n, rfl⟩ := Int.eq_ofNat_of_zero_le m0
      simp (disch := first | omega | (simp only [List.length_append, List.length_cons, List.length_nil, List.length_map, mk_size, nat_cast_eq]; omega)) only [↓unn_nil, ↓unc_cons, ↓asI_int, ↓asRs_rs, ↓asOp_op]
      exact dr_text_loop hb (d := d) (by omega) (TxB_le d (by omega)) (dr_text hb d (by omega)) (n := n) (by omega) n 0 ⟨#[40]⟩ c2 (by omega) (by show 1 ≤ _; omega) a2
end
theorem readT_fits {p : List Nd} (hf : Fits p) (l : List UInt8) : Fits (readT p l).1 ∧ (readT p l).1.length ≤ 4000 := by
  unfold readT
  cases h : okPool p with
  | false => rw [if_pos rfl]; exact ⟨fun x hx => by simp at hx, by simp⟩
  | true =>
    have hp := okPool_len h
    rw [if_neg (by simp)]
    by_cases h4 : 400 < l.length
    · rw [if_pos h4]; exact ⟨hf, by show p.length ≤ _; omega⟩
    rw [if_neg h4]
    have hff := read_fits (l := l) (by omega) (l.length + 1) 0 [] (0, []) p (by omega) (by simp only [phi, List.map_nil, List.sum_nil, List.length_nil]; omega) hf
    unfold resT
    cases hr : readGo l (l.length + 1) 0 [] (0, []) p with
    | err c a => exact ⟨hf, by show p.length ≤ _; omega⟩
    | ok q row =>
      obtain ⟨h1, h2, h3⟩ := hff q row hr
      show Fits (if okPool q = true then (q, row, (0 : Int), (l.length : Int)) else (p, [], 6, 0)).1 ∧ (if okPool q = true then (q, row, (0 : Int), (l.length : Int)) else (p, [], 6, 0)).1.length ≤ _
      by_cases hq : okPool q = true
      · rw [if_pos hq]; exact ⟨h1, by have := okPool_len hq; show q.length ≤ _; omega⟩
      · rw [if_neg hq]; exact ⟨hf, by show p.length ≤ _; omega⟩
/-- a pool and a number -/
noncomputable def PN (v : D) (l : List D) : Prop := l = [] ∧ ∃ (p : List Nd) (m : Int) (x : D), v = .tup [.agg [x], .int .i64 m] ∧ (x = .rs (5, 0) (p.map eN) ∨ x = .os (5, 0) (p.map eN)) ∧ Fits p ∧ p.length ≤ 4000
noncomputable def PNr (v : D) (l : List D) : Prop := l = [] ∧ ∃ (p : List Nd) (m : Int), v = .tup [eP p, .int .i64 m] ∧ Fits p ∧ p.length ≤ 4000
theorem dr_size_loop {b : List Int} (hb : b.length < 4611686018427387904) : ∀ (k i : Nat) (q : List Nd) (c : Int × Int), i + k = 40 → q.length = i + 1 → Fits q → CurOk b c → Got PNr (Lspec_DrawSizeOf_6 (i : Int) (b.map eB) c.1 c.2 (q.map eN))
  | 0, i, q, c, hi, hq, hf, hc => by
    rw [Lspec_DrawSizeOf_6_eq, br_not (decide_eq_false (by omega))]
    refine drew_call (dr_at hb hc (p := q) (by omega)) fun v c4 a4 ⟨m, e, _⟩ => ?_
    subst e
    simp (disch := first | omega | (simp only [List.length_append, List.length_cons, List.length_nil, List.length_map, mk_size, nat_cast_eq]; omega)) only [↓unn_nil, ↓unc_cons, ↓asI_int, ↓asRs_rs, ↓asOp_op]
    exact got_some ⟨rfl, q, m, rfl, hf, by omega⟩
  | k + 1, i, q, c, hi, hq, hf, hc => by
    have ha := v_l2Add (p := q) (by omega) ⟨5, 0, ⟨#[]⟩, (i : Int), (i : Int)⟩
    rw [Lspec_DrawSizeOf_6_eq, br_of (decide_eq_true (by omega)), oc_s_l2Add ha, w64s (by omega)]
    exact dr_size_loop hb k (i + 1) (q ++ [⟨5, 0, ⟨#[]⟩, (i : Int), (i : Int)⟩]) c (by omega) (by rw [List.length_append, hq]; rfl) (fits_snoc hf (by show (0 : Nat) < _; omega)) hc
theorem dr_sizeof {b : List Int} (hb : b.length < 4611686018427387904) : Got PNr (V 64 [.rs (1, 0) (b.map eB)]) := by
  obtain ⟨c, e, hc⟩ := cur_new hb
  rw [espec_DrawSizeOf]
  refine got_val e ?_
  simp (disch := first | omega | (simp only [List.length_append, List.length_cons, List.length_nil, List.length_map, mk_size, nat_cast_eq]; omega)) only [↓unn_nil, ↓unc_cons, ↓asI_int, ↓asRs_rs, ↓asOp_op]
  refine drew_call (dr_draw hb hc) fun v c1 a1 ⟨p, e, hp, hl⟩ => ?_
  subst e
  have hl := pool_len hl
  simp (disch := first | omega | (simp only [List.length_append, List.length_cons, List.length_nil, List.length_map, mk_size, nat_cast_eq]; omega)) only [↓unn_nil, ↓unc_cons, ↓asI_int, ↓asOs_os, ↓asRs_rs, ↓asAgg_agg, ↓asOp_op]
  refine drew_call (dr_once hb a1 12) fun v c2 a2 ⟨o, e⟩ => ?_
  subst e
  simp (disch := first | omega | (simp only [List.length_append, List.length_cons, List.length_nil, List.length_map, mk_size, nat_cast_eq]; omega)) only [↓unn_nil, ↓unc_cons, ↓asI_int, ↓asB_bool, ↓asRs_rs, ↓asOp_op]
  refine got_br (fun _ => ?_) fun _ => ?_
  · exact dr_size_loop hb 40 0 [⟨1, 0, ⟨#[]⟩, 0, 0⟩] c2 (by omega) (by rfl) (fun x hx => by rw [List.mem_singleton.1 hx]; show (0 : Nat) < _; omega) a2
  · refine drew_call (dr_at hb a2 (p := p) (by omega)) fun v c4 a4 ⟨m, e, _⟩ => ?_
    subst e
    simp (disch := first | omega | (simp only [List.length_append, List.length_cons, List.length_nil, List.length_map, mk_size, nat_cast_eq]; omega)) only [↓unn_nil, ↓unc_cons, ↓asI_int, ↓asRs_rs, ↓asOp_op]
    exact got_some ⟨rfl, p, m, rfl, shrt_fits hp, by omega⟩
theorem dr_write {b : List Int} (hb : b.length < 4611686018427387904) : Got PN (V 19 [.rs (1, 0) (b.map eB)]) := by
  obtain ⟨c, e, hc⟩ := cur_new hb
  rw [espec_DrawWrite]
  refine got_val e ?_
  simp (disch := first | omega | (simp only [List.length_append, List.length_cons, List.length_nil, List.length_map, mk_size, nat_cast_eq]; omega)) only [↓unn_nil, ↓unc_cons, ↓asI_int, ↓asRs_rs, ↓asOp_op]
  refine drew_call (dr_once hb hc 4) fun v c1 a1 ⟨o, e⟩ => ?_
  subst e
  simp (disch := first | omega | (simp only [List.length_append, List.length_cons, List.length_nil, List.length_map, mk_size, nat_cast_eq]; omega)) only [↓unn_nil, ↓unc_cons, ↓asI_int, ↓asB_bool, ↓asRs_rs, ↓asOp_op]
  refine got_br (fun _ => ?_) fun _ => ?_
  · refine got_call (dr_sizeof hb) fun v l hv => ?_
    obtain ⟨rfl, p, m, rfl, hf, hl⟩ := hv
    simp (disch := first | omega | (simp only [List.length_append, List.length_cons, List.length_nil, List.length_map, mk_size, nat_cast_eq]; omega)) only [↓unn_nil, ↓unc_cons, ↓asI_int, ↓asAs_rs, ↓asAgg_agg, ↓asTup_tup]
    exact got_some ⟨rfl, p, m, _, rfl, .inl rfl, hf, hl⟩
  refine drew_call (dr_text hb 4 (by omega) c1 a1) fun v c2 a2 ⟨s, e, hs⟩ => ?_
  subst e
  simp (disch := first | omega | (simp only [List.length_append, List.length_cons, List.length_nil, List.length_map, mk_size, nat_cast_eq]; omega)) only [↓unn_nil, ↓unc_cons, ↓asI_int, ↓asS_str, ↓asRs_rs, ↓asOp_op]
  have hr := v_spec_Read (p := []) (fun x hx => by simp at hx) (by simp) s.data.toList
  rw [mk_of] at hr
  obtain ⟨l1, l2⟩ := readT_len (p := []) (fun x hx => by simp at hx) s.data.toList
  have hfit := readT_fits (p := []) (fun x hx => by simp at hx) s.data.toList
  obtain ⟨⟨q, row, cd, at'⟩, hrr⟩ : ∃ r, r = readT [] s.data.toList := ⟨_, rfl⟩
  rw [← hrr] at hr hfit
  simp only at hr hfit
  refine got_val hr ?_
  simp (disch := first | omega | (simp only [List.length_append, List.length_cons, List.length_nil, List.length_map, mk_size, nat_cast_eq]; omega)) only [↓unn_nil, ↓unc_cons, ↓asI_int, ↓asOs_os, ↓asAgg_agg, ↓asTup_tup]
  refine got_br (fun _ => ?_) fun _ => ?_
  · refine got_br (fun h0 => ?_) fun _ => ?_
    · refine drew_call (dr_once hb a2 2) fun v c3 a3 ⟨o, e⟩ => ?_
      subst e
      simp (disch := first | omega | (simp only [List.length_append, List.length_cons, List.length_nil, List.length_map, mk_size, nat_cast_eq]; omega)) only [↓unn_nil, ↓unc_cons, ↓asI_int, ↓asB_bool, ↓asRs_rs, ↓asOp_op]
      refine got_br (fun _ => ?_) fun _ => ?_
      · have h0 := of_decide_eq_true h0
        rw [List.length_map] at h0
        obtain ⟨x, hx⟩ := get_of_lt (l := row) (i := 0) (by simp only [ni] at h0; omega)
        refine got_grd (by rw [List.length_map]; simp only [ni, Bool.and_eq_true, decide_eq_true_eq]; simp only [ni] at h0; omega) ?_
        rw [oget_map hx, asI_int]
        exact got_some ⟨rfl, q, x, _, rfl, .inr rfl, hfit.1, hfit.2⟩
      · refine drew_call (dr_draw hb a3) fun v c4 a4 ⟨p, e, hp, hl⟩ => ?_
        subst e
        have hl := pool_len hl
        simp (disch := first | omega | (simp only [List.length_append, List.length_cons, List.length_nil, List.length_map, mk_size, nat_cast_eq]; omega)) only [↓unn_nil, ↓unc_cons, ↓asI_int, ↓asOs_os, ↓asRs_rs, ↓asAgg_agg, ↓asOp_op]
        refine drew_call (dr_at hb a4 (p := p) (by omega)) fun v c5 a5 ⟨m, e, _⟩ => ?_
        subst e
        simp (disch := first | omega | (simp only [List.length_append, List.length_cons, List.length_nil, List.length_map, mk_size, nat_cast_eq]; omega)) only [↓unn_nil, ↓unc_cons, ↓asI_int, ↓asRs_rs, ↓asOp_op]
        exact got_some ⟨rfl, p, m, _, rfl, .inl rfl, shrt_fits hp, by omega⟩
    · refine drew_call (dr_draw hb a2) fun v c4 a4 ⟨p, e, hp, hl⟩ => ?_
      subst e
      have hl := pool_len hl
      simp (disch := first | omega | (simp only [List.length_append, List.length_cons, List.length_nil, List.length_map, mk_size, nat_cast_eq]; omega)) only [↓unn_nil, ↓unc_cons, ↓asI_int, ↓asOs_os, ↓asRs_rs, ↓asAgg_agg, ↓asOp_op]
      refine drew_call (dr_at hb a4 (p := p) (by omega)) fun v c5 a5 ⟨m, e, _⟩ => ?_
      subst e
      simp (disch := first | omega | (simp only [List.length_append, List.length_cons, List.length_nil, List.length_map, mk_size, nat_cast_eq]; omega)) only [↓unn_nil, ↓unc_cons, ↓asI_int, ↓asRs_rs, ↓asOp_op]
      exact got_some ⟨rfl, p, m, _, rfl, .inl rfl, shrt_fits hp, by omega⟩
  · refine drew_call (dr_draw hb a2) fun v c4 a4 ⟨p, e, hp, hl⟩ => ?_
    subst e
    have hl := pool_len hl
    simp (disch := first | omega | (simp only [List.length_append, List.length_cons, List.length_nil, List.length_map, mk_size, nat_cast_eq]; omega)) only [↓unn_nil, ↓unc_cons, ↓asI_int, ↓asOs_os, ↓asRs_rs, ↓asAgg_agg, ↓asOp_op]
    refine drew_call (dr_at hb a4 (p := p) (by omega)) fun v c5 a5 ⟨m, e, _⟩ => ?_
    subst e
    simp (disch := first | omega | (simp only [List.length_append, List.length_cons, List.length_nil, List.length_map, mk_size, nat_cast_eq]; omega)) only [↓unn_nil, ↓unc_cons, ↓asI_int, ↓asRs_rs, ↓asOp_op]
    exact got_some ⟨rfl, p, m, _, rfl, .inl rfl, shrt_fits hp, by omega⟩
theorem law_FnWritten {b : List Int} (hb : b.length < 4611686018427387904) : V 4 [.rs (1, 0) (b.map eB)] = some (.bool true, []) := by
  rw [elaws_FnWritten]
  refine Eq.trans (ocall_some (v_big b) _) ?_
  simp (disch := first | omega | (simp only [List.length_append, List.length_cons, List.length_nil, List.length_map, mk_size, nat_cast_eq]; omega)) only [↓unn_nil, ↓asB_bool]
  cases hbig : decide ((b.length : Int) > 1048576) with
  | true => rfl
  | false =>
    obtain ⟨v, l, e, rfl, p, m, x, rfl, hx, hf, hl⟩ := dr_write hb
    have k1 := v_impl_Write hf (by omega) m
    have k2 := v_spec_Write hf (by omega) m
    obtain ⟨g1, g2⟩ := writeP_good (p := p) m
    have hsc := law_scan g1 (writeP p m).length 0 0 true (by omega) (fun _ => rfl) (by omega) g2
    have hs : strEq (mk (writeP p m)) (mk (writeP p m)) = true := by rw [strEq_eq]; simp
    rw [br_false]
    refine Eq.trans (ocall_some e _) ?_
    rcases hx with rfl | rfl
    · simp (disch := first | omega | (simp only [List.length_append, List.length_cons, List.length_nil, List.length_map, mk_size, nat_cast_eq]; omega)) only [↓unn_nil, ↓unc_cons, ↓asI_int, ↓asAs_rs, ↓asAgg_agg, ↓asTup_tup]
      rw [oc_i_Write k1, oc_s_Write k2, hs, Bool.not_true, br_false]
      exact hsc
    · simp (disch := first | omega | (simp only [List.length_append, List.length_cons, List.length_nil, List.length_map, mk_size, nat_cast_eq]; omega)) only [↓unn_nil, ↓unc_cons, ↓asI_int, ↓asAs_os, ↓asAgg_agg, ↓asTup_tup]
      rw [oc_i_Write k1, oc_s_Write k2, hs, Bool.not_true, br_false]
      exact hsc
theorem core_FnWritten (xs : List D) (h : All2 (fun t x => ShapeV Try.prog t x) Try.f4.params.toList xs) : V 4 xs = some (.bool true, []) := by
  rw [Try.params4] at h
  cases h with | cons h1 h =>
  cases h
  obtain ⟨b, rfl, hb⟩ := arg_code h1
  exact law_FnWritten hb
end Go.Eng
