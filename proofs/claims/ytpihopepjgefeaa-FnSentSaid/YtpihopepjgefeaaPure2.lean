/- what the functions on links come to, second part -/
import Derived.Test.YtpihopepjgefeaaPure
namespace Go.Eng
open Go.Proofs Go.Proofs.Try

/-! ## marks -/
theorem markText_loop : ∀ (n : Nat) (p : Int) (s : ByteArray), 0 ≤ p → p < 4611686018427387904 → p < 10 ^ n → s.size + n + 1 ≤ 1000 → ∃ t, Llaws_markText_4 p s = some (.str t, [])
  | 0, p, s, h0, hp, h1, hs => by
    rw [Llaws_markText_4_eq, br_not (decide_eq_false (by simp at h1; omega)), grd_of (decide_eq_true (by simp only [ni, LIM, show ByteArray.size { data := #[109] } = 1 from rfl]; omega))]
    exact ⟨_, rfl⟩
  | n + 1, p, s, h0, hp, h1, hs => by
    by_cases h : p > 0
    · have ht : 0 ≤ Int.tmod p 10 ∧ Int.tmod p 10 < 10 := ⟨Int.tmod_nonneg _ h0, Int.tmod_lt_of_pos _ (by omega)⟩
      have hd : Int.tdiv p 10 = p / 10 := Int.tdiv_eq_ediv_of_nonneg h0
      rw [Llaws_markText_4_eq, br_of (decide_eq_true h)]
      simp only [obytes, List.mapM_cons, List.mapM_nil, Option.pure_def, Option.bind_eq_bind, Option.bind_some]
      rw [grd_of (decide_eq_true (by simp only [ni, LIM, show ∀ x : UInt8, ByteArray.size { data := [x].toArray } = 1 from fun x => rfl]; omega)), hd, w64 (n := p / 10) (by omega) (by omega)]
      refine markText_loop n _ _ (by omega) (by omega) ?_ ?_
      · rw [Int.pow_succ] at h1; omega
      · rw [ByteArray.size_append, show ∀ x : UInt8, ByteArray.size { data := [x].toArray } = 1 from fun x => rfl]; omega
    · rw [Llaws_markText_4_eq, br_not (decide_eq_false h), grd_of (decide_eq_true (by simp only [ni, LIM, show ByteArray.size { data := #[109] } = 1 from rfl]; omega))]
      exact ⟨_, rfl⟩
theorem markText_some {p : Int} (h1 : p < 4611686018427387904) : ∃ t, V 59 [.int .i64 p] = some (.str t, []) := by
  rw [elaws_markText]
  by_cases h : p ≤ 0
  · rw [br_of (decide_eq_true h)]; exact ⟨_, rfl⟩
  · rw [br_not (decide_eq_false h)]
    exact markText_loop 20 p _ (by omega) h1 (by omega) (by simp [show ByteArray.size { data := #[] } = 0 from rfl])
noncomputable def mt (p : Int) : ByteArray := match V 59 [.int .i64 p] with | some (.str t, []) => t | _ => ⟨#[]⟩
theorem v_mt {p : Int} (h1 : p < 4611686018427387904) : V 59 [.int .i64 p] = some (.str (mt p), []) := by
  obtain ⟨t, ht⟩ := markText_some h1
  simp only [mt, ht]

noncomputable def markedS (k n : Nat) : List ByteArray := (List.range n).map fun i => mt ((k + i : Nat) : Int)
theorem markS_loop {l : List ByteArray} (hl : l.length < 1152921504606846976) {c : Nat} (hc : c < 1152921504606846976) : ∀ (k i : Nat), i + k = l.length → Llaws_markStringS_2 ((c + i : Nat) : Int) (i : Int) ((markedS c i ++ l.drop i).map .str) = some (.int .i64 ((c + l.length : Nat) : Int), [.os (1, 0) ((markedS c l.length).map .str)])
  | 0, i, hi => by
    have hlen : (markedS c i ++ l.drop i).length = i := by simp [markedS]; omega
    rw [Llaws_markStringS_2_eq, br_not (by rw [List.length_map, hlen]; exact ge_idx (by omega))]
    have : i = l.length := by omega
    subst this
    simp
  | k + 1, i, hi => by
    obtain ⟨x, hx⟩ := get_of_lt (l := l) (i := i) (by omega)
    have ih := markS_loop hl hc k (i + 1) (by omega)
    have hml : (markedS c i).length = i := by simp [markedS]
    have hlen : (markedS c i ++ x :: l.drop (i + 1)).length = l.length := by simp [markedS]; omega
    have hget : (markedS c i ++ x :: l.drop (i + 1))[i]? = some x := by
      rw [List.getElem?_append_right (by omega), hml, Nat.sub_self]; rfl
    have hset : ((markedS c i ++ x :: l.drop (i + 1)).map D.str).set i (D.str (mt ((c + i : Nat) : Int))) = (markedS c (i + 1) ++ l.drop (i + 1)).map D.str := by
      rw [← List.map_set, List.set_append_right _ _ (by omega), hml, Nat.sub_self]
      simp [markedS, List.range_succ]
    rw [drop_at hx, Llaws_markStringS_2_eq, br_of (by rw [List.length_map, hlen]; exact lt_idx (by omega)), ocall_some (v_mt (by omega)), asS_str, unn_nil]
    rw [grd_of (by rw [List.length_map, hlen]; exact in_idx (by omega)), Int.toNat_natCast, oget_map hget, nam_eq, hset, w64s (by omega), w64s (by omega)]
    exact ih
theorem v_markS {l : List ByteArray} (hl : l.length < 1152921504606846976) {c : Nat} (hc : c < 1152921504606846976) : V 42 [.os (1, 0) (l.map .str), .int .i64 (c : Int)] = some (.int .i64 ((c + l.length : Nat) : Int), [.os (1, 0) ((markedS c l.length).map .str)]) := by
  rw [elaws_markStringS]
  have := markS_loop hl hc l.length 0 (by omega)
  simpa [markedS] using this
theorem heldS_loop {n c : Nat} (hn : n < 1152921504606846976) (hc : c < 1152921504606846976) : ∀ (k i : Nat), i + k = n → Llaws_heldStringS_2 ((markedS c n).map .str) ((c + i : Nat) : Int) (i : Int) = some (.int .i64 ((c + n : Nat) : Int), [])
  | 0, i, hi => by
    rw [Llaws_heldStringS_2_eq, br_not (by rw [List.length_map]; simp only [markedS, List.length_map, List.length_range]; exact ge_idx (by omega))]
    have : i = n := by omega
    subst this; rfl
  | k + 1, i, hi => by
    have ih := heldS_loop hn hc k (i + 1) (by omega)
    have hx : (markedS c n)[i]? = some (mt ((c + i : Nat) : Int)) := by simp [markedS, List.getElem?_map, List.getElem?_range (show i < n by omega)]
    have hlen : (markedS c n).length = n := by simp [markedS]
    rw [Llaws_heldStringS_2_eq, br_of (by rw [List.length_map, hlen]; exact lt_idx (by omega)), grd_of (by rw [List.length_map, hlen]; exact in_idx (by omega)), Int.toNat_natCast, oget_map hx, asS_str, ocall_some (v_mt (by omega)), asS_str, unn_nil, br_not (by rw [strEq_refl]; rfl), w64s (by omega), w64s (by omega)]
    exact ih
theorem v_heldS {n c : Nat} (hn : n < 1152921504606846976) (hc : c < 1152921504606846976) : V 43 [.rs (1, 0) ((markedS c n).map .str), .int .i64 (c : Int)] = some (.int .i64 ((c + n : Nat) : Int), []) := by
  rw [elaws_heldStringS]
  exact heldS_loop hn hc n 0 (by omega)

noncomputable def mkP (c i : Nat) : Pc := ⟨((c + 2 * i : Nat) : Int), mt ((c + 2 * i + 1 : Nat) : Int)⟩
noncomputable def markedP (c n : Nat) : List Pc := (List.range n).map (mkP c)
theorem markP_loop {l : List Pc} (hl : l.length < 1152921504606846976) {c : Nat} (hc : c < 1152921504606846976) : ∀ (k i : Nat), i + k = l.length → Llaws_markPieceS_2 ((c + 2 * i : Nat) : Int) (i : Int) ((markedP c i ++ l.drop i).map eP) = some (.int .i64 ((c + 2 * l.length : Nat) : Int), [.os (2, 0) ((markedP c l.length).map eP)])
  | 0, i, hi => by
    have hlen : (markedP c i ++ l.drop i).length = i := by simp [markedP]; omega
    rw [Llaws_markPieceS_2_eq, br_not (by rw [List.length_map, hlen]; exact ge_idx (by omega))]
    have : i = l.length := by omega
    subst this
    simp
  | k + 1, i, hi => by
    obtain ⟨x, hx⟩ := get_of_lt (l := l) (i := i) (by omega)
    have ih := markP_loop hl hc k (i + 1) (by omega)
    have hml : (markedP c i).length = i := by simp [markedP]
    have hlen : ∀ y, (markedP c i ++ y :: l.drop (i + 1)).length = l.length := by intro y; simp [markedP]; omega
    have hget : ∀ y, (markedP c i ++ y :: l.drop (i + 1))[i]? = some y := by
      intro y; rw [List.getElem?_append_right (by omega), hml, Nat.sub_self]; rfl
    have hset : ∀ y z, ((markedP c i ++ y :: l.drop (i + 1)).map eP).set i (eP z) = (markedP c i ++ z :: l.drop (i + 1)).map eP := by
      intro y z; rw [← List.map_set, List.set_append_right _ _ (by omega), hml, Nat.sub_self]; rfl
    have c1 : IntKind.wrap IntKind.i64 (((c + 2 * i : Nat) : Int) + 1) = ((c + 2 * i + 1 : Nat) : Int) := w64s (by omega)
    have c2 : IntKind.wrap IntKind.i64 (((c + 2 * i + 1 : Nat) : Int) + 1) = ((c + 2 * (i + 1) : Nat) : Int) := w64s (by omega)
    rw [drop_at hx, Llaws_markPieceS_2_eq, br_of (by rw [List.length_map, hlen]; exact lt_idx (by omega))]
    rw [grd_of (by rw [List.length_map, hlen]; exact in_idx (by omega)), Int.toNat_natCast, oget_map (hget x), eP_mk x]
    simp only [asAgg_agg, nam_eq, c1, c2, List.take_zero, List.nil_append, List.drop_succ_cons, List.drop_zero, List.cons_append]
    have s1 := hset x ⟨((c + 2 * i : Nat) : Int), x.text⟩
    rw [eP_mk ⟨_, _⟩] at s1
    simp only [] at s1
    rw [s1, ocall_some (v_mt (by omega)), asS_str, unn_nil, grd_of (by rw [List.length_map, hlen]; exact in_idx (by omega)), oget_map (hget _), eP_mk ⟨_, _⟩]
    simp only [asAgg_agg, List.take_succ_cons, List.take_zero, List.nil_append, List.drop_succ_cons, List.drop_zero, List.cons_append]
    have s3 := hset ⟨((c + 2 * i : Nat) : Int), x.text⟩ (mkP c i)
    rw [eP_mk (mkP c i)] at s3
    simp only [mkP] at s3
    rw [s3, w64s (by omega), ← ih]
    congr 1
    congr 1
    simp only [markedP, List.range_succ, List.map_append, List.map_cons, List.map_nil, List.append_assoc, List.cons_append, List.nil_append]
    rfl
theorem v_markP {l : List Pc} (hl : l.length < 1152921504606846976) {c : Nat} (hc : c < 1152921504606846976) : V 31 [.os (2, 0) (l.map eP), .int .i64 (c : Int)] = some (.int .i64 ((c + 2 * l.length : Nat) : Int), [.os (2, 0) ((markedP c l.length).map eP)]) := by
  rw [elaws_markPieceS]
  have := markP_loop hl hc l.length 0 (by omega)
  simpa [markedP] using this
theorem heldP_loop {n c : Nat} (hn : n < 1152921504606846976) (hc : c < 1152921504606846976) : ∀ (k i : Nat), i + k = n → Llaws_heldPieceS_2 ((markedP c n).map eP) ((c + 2 * i : Nat) : Int) (i : Int) = some (.int .i64 ((c + 2 * n : Nat) : Int), [])
  | 0, i, hi => by
    rw [Llaws_heldPieceS_2_eq, br_not (by rw [List.length_map]; simp only [markedP, List.length_map, List.length_range]; exact ge_idx (by omega))]
    have : i = n := by omega
    subst this; rfl
  | k + 1, i, hi => by
    have ih := heldP_loop hn hc k (i + 1) (by omega)
    have hx : (markedP c n)[i]? = some (mkP c i) := by simp [markedP, List.getElem?_map, List.getElem?_range (show i < n by omega)]
    have hlen : (markedP c n).length = n := by simp [markedP]
    have c1 : IntKind.wrap IntKind.i64 (((c + 2 * i : Nat) : Int) + 1) = ((c + 2 * i + 1 : Nat) : Int) := w64s (by omega)
    have c2 : IntKind.wrap IntKind.i64 (((c + 2 * i + 1 : Nat) : Int) + 1) = ((c + 2 * (i + 1) : Nat) : Int) := w64s (by omega)
    have hin : (decide (0 ≤ (i : Int)) && decide ((i : Int) < ni ((markedP c n).map eP).length)) = true := by rw [List.length_map, hlen]; exact in_idx (by omega)
    rw [Llaws_heldPieceS_2_eq, br_of (by rw [List.length_map, hlen]; exact lt_idx (by omega)), grd_of hin, Int.toNat_natCast, oget_map hx, eP_mk (mkP c i), asAgg_agg, oget_lit0, asI_int, br_not (by simp [mkP]), grd_of hin, oget_map hx, eP_mk (mkP c i), asAgg_agg, oget_lit1, asS_str, c1, c2, ocall_some (v_mt (by omega)), asS_str, unn_nil, br_not (by simp only [mkP]; rw [strEq_refl]; rfl), w64s (by omega)]
    exact ih
theorem v_heldP {n c : Nat} (hn : n < 1152921504606846976) (hc : c < 1152921504606846976) : V 32 [.rs (2, 0) ((markedP c n).map eP), .int .i64 (c : Int)] = some (.int .i64 ((c + 2 * n : Nat) : Int), []) := by
  rw [elaws_heldPieceS]
  exact heldP_loop hn hc n 0 (by omega)

/-! ## LinkShow -/
def showF (l : Lk) : List Pc := if okK l then ((l.queue.take 4).zipIdx).map fun (s, i) => ⟨l.acked + (i : Nat), s⟩ else []
end Go.Eng
