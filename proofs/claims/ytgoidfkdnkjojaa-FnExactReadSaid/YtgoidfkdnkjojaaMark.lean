/- marks, equality, sizes and copies of nodes and numbers -/
import Derived.Test.YtgoidfkdnkjojaaWrite3
import Derived.Test.YtgoidfkdnkjojaaFnAll
namespace Go.Eng
open Go.Proofs Go.Proofs.Try
set_option maxHeartbeats 4000000

theorem markText_loop : ∀ (n : Nat) (p : Int) (s : ByteArray), 0 ≤ p → p < 4611686018427387904 → p < 10 ^ n → s.size + n + 1 ≤ 1000 → ∃ t, Llaws_markText_4 p s = some (.str t, [])
  | 0, p, s, h0, hp, h1, hs => by
    rw [Llaws_markText_4_eq, br_not (decide_eq_false (by simp at h1; omega)), grd_of (decide_eq_true (by rw [LIM_eq]; simp only [ni, show ByteArray.size { data := #[109] } = 1 from rfl]; omega))]
    exact ⟨_, rfl⟩
  | n + 1, p, s, h0, hp, h1, hs => by
    by_cases h : p > 0
    · have ht : 0 ≤ Int.tmod p 10 ∧ Int.tmod p 10 < 10 := ⟨Int.tmod_nonneg _ h0, Int.tmod_lt_of_pos _ (by omega)⟩
      have hd : Int.tdiv p 10 = p / 10 := Int.tdiv_eq_ediv_of_nonneg h0
      rw [Llaws_markText_4_eq, br_of (decide_eq_true h), grd_of (by decide)]
      rw [obytes_one]
      rw [grd_of (decide_eq_true (by rw [LIM_eq, mk_size]; simp only [ni, List.length_cons, List.length_nil]; omega)), grd_of (by decide), hd, w64 (n := p / 10) (by omega) (by omega)]
      refine markText_loop n _ _ (by omega) (by omega) ?_ ?_
      · rw [Int.pow_succ] at h1; omega
      · rw [ByteArray.size_append, mk_size]; simp only [List.length_cons, List.length_nil]; omega
    · rw [Llaws_markText_4_eq, br_not (decide_eq_false h), grd_of (decide_eq_true (by rw [LIM_eq]; simp only [ni, show ByteArray.size { data := #[109] } = 1 from rfl]; omega))]
      exact ⟨_, rfl⟩
theorem markText_some {p : Int} (h1 : p < 4611686018427387904) : ∃ t, V 140 [.int .i64 p] = some (.str t, []) := by
  rw [elaws_markText]
  by_cases h : p ≤ 0
  · rw [br_of (decide_eq_true h)]; exact ⟨_, rfl⟩
  · rw [br_not (decide_eq_false h)]
    exact markText_loop 20 p _ (by omega) h1 (by omega) (by simp [show ByteArray.size { data := #[] } = 0 from rfl])
noncomputable def mt (p : Int) : ByteArray := match V 140 [.int .i64 p] with | some (.str t, []) => t | _ => ⟨#[]⟩
theorem v_mt {p : Int} (h1 : p < 4611686018427387904) : V 140 [.int .i64 p] = some (.str (mt p), []) := by
  obtain ⟨t, ht⟩ := markText_some h1
  simp only [mt, ht]

/-! ## rows with a middle -/
theorem oget_mid {A r : List D} {x : D} {i : Nat} (h : A.length = i) (K : D → Option Ret) : oget (A ++ x :: r) i K = K x := by
  subst h; simp [oget]
theorem set_mid' {A r : List D} {x y : D} {i : Nat} (h : A.length = i) : List.set (A ++ x :: r) i y = A ++ y :: r := by
  subst h; simp
/-- so many things from a number on -/
noncomputable def marked {α : Type} (f : Int → α) (w : Int) (c : Int) (n : Nat) : List α := (List.range n).map fun i : Nat => f (c + w * (i : Int))
theorem marked_length {α : Type} (f : Int → α) (w c : Int) (n : Nat) : (marked f w c n).length = n := by simp [marked]
theorem marked_get {α : Type} (f : Int → α) (w c : Int) {n i : Nat} (h : i < n) : (marked f w c n)[i]? = some (f (c + w * (i : Int))) := by
  simp only [marked, List.getElem?_map, List.getElem?_range h, Option.map_some]
theorem marked_succ {α : Type} (f : Int → α) (w c : Int) (n : Nat) : marked f w c (n + 1) = marked f w c n ++ [f (c + w * (n : Int))] := by
  simp [marked, List.range_succ]
theorem mark_split {α : Type} (enc : α → D) {M l : List α} {i : Nat} {x : α} (hM : M.length = i) (hx : l[i]? = some x) : (M ++ l.drop i).map enc = M.map enc ++ enc x :: (l.drop (i + 1)).map enc := by
  rw [drop_at hx]; simp
theorem mark_join {α : Type} (enc : α → D) (f : Int → α) (w c : Int) {l : List α} {i : Nat} : (marked f w c i).map enc ++ enc (f (c + w * (i : Int))) :: (l.drop (i + 1)).map enc = (marked f w c (i + 1) ++ l.drop (i + 1)).map enc := by
  rw [marked_succ]; simp

/-! ## numbers -/
theorem markI_loop {l : List Int} (hl : l.length < 4611686018427387904) {c : Int} (h0 : 0 ≤ c) (h1 : c < 1152921504606846976) (h2 : l.length < 115292150460684697) : ∀ (k i : Nat), i + k = l.length → Llaws_markIntS_2 (c + 1 * (i : Int)) (i : Int) ((marked id 1 c i ++ l.drop i).map eI) = some (.int .i64 (c + 1 * (l.length : Int)), [.os (1, 0) ((marked id 1 c l.length).map eI)])
  | 0, i, hi => by
    have : i = l.length := by omega
    subst this
    rw [Llaws_markIntS_2_eq, List.drop_length, List.append_nil, List.length_map, marked_length]
    simp (disch := first | omega | (simp only [List.length_append, List.length_cons, List.length_nil, List.length_map, mk_size, nat_cast_eq]; omega)) only [↓br_false, dec_f, nat_cast_eq]
  | k + 1, i, hi => by
    obtain ⟨x, hx⟩ := get_of_lt (l := l) (i := i) (by omega)
    have ih := markI_loop hl h0 h1 h2 k (i + 1) (by omega)
    have hA : ((marked id 1 c i).map eI).length = i := by rw [List.length_map, marked_length]
    have hj := mark_join eI id 1 c (l := l) (i := i)
    have hw : IntKind.wrap IntKind.i64 ((i : Int) + 1) = ((i + 1 : Nat) : Int) := w64s (by omega)
    have hc : IntKind.wrap IntKind.i64 (c + 1 * (i : Int) + 1) = c + 1 * ((i + 1 : Nat) : Int) := by rw [w64 (by omega) (by omega)]; omega
    rw [Llaws_markIntS_2_eq, mark_split eI (marked_length id 1 c i) hx]
    have hl1 : ((marked id 1 c i).map eI ++ eI x :: (l.drop (i + 1)).map eI).length = l.length := by
      rw [List.length_append, hA, List.length_cons, List.length_map, List.length_drop]; omega
    have e1 : D.int .i64 (c + 1 * (i : Int)) = eI (id (c + 1 * (i : Int))) := rfl
    rw [hl1, br_of (lt_idx (by omega)), grd_of (in_idx (by omega)), Int.toNat_natCast, oget_mid hA, nam_eq, set_mid' hA, e1, hj, hc, hw]
    exact ih
theorem v_markI {l : List Int} {c : Int} (h0 : 0 ≤ c) (h1 : c < 1152921504606846976) (h2 : l.length < 115292150460684697) : V 28 [.os (1, 0) (l.map eI), .int .i64 c] = some (.int .i64 (c + 1 * (l.length : Int)), [.os (1, 0) ((marked id 1 c l.length).map eI)]) := by
  have h := markI_loop (by omega) h0 h1 h2 l.length 0 (Nat.zero_add _)
  rw [show c + 1 * ((0 : Nat) : Int) = c by omega, Int.natCast_zero, show marked id 1 c 0 = [] from rfl, List.nil_append, List.drop_zero] at h
  rw [elaws_markIntS]
  exact h
theorem heldI_loop {n : Nat} {c : Int} (h0 : 0 ≤ c) (h1 : c < 1152921504606846976) (h2 : n < 115292150460684697) : ∀ (k i : Nat), i + k = n → Llaws_heldIntS_2 ((marked id 1 c n).map eI) (c + 1 * (i : Int)) (i : Int) = some (.int .i64 (c + 1 * (n : Int)), [])
  | 0, i, hi => by
    have : i = n := by omega
    subst this
    rw [Llaws_heldIntS_2_eq, List.length_map, marked_length]
    simp (disch := first | omega | (simp only [List.length_append, List.length_cons, List.length_nil, List.length_map, mk_size, nat_cast_eq]; omega)) only [↓br_false, dec_f, nat_cast_eq]
  | k + 1, i, hi => by
    have hx := marked_get id 1 c (n := n) (i := i) (by omega)
    have ih := heldI_loop h0 h1 h2 k (i + 1) (by omega)
    have hw : IntKind.wrap IntKind.i64 ((i : Int) + 1) = ((i + 1 : Nat) : Int) := w64s (by omega)
    have hc : IntKind.wrap IntKind.i64 (c + 1 * (i : Int) + 1) = c + 1 * ((i + 1 : Nat) : Int) := by rw [w64 (by omega) (by omega)]; omega
    rw [Llaws_heldIntS_2_eq, List.length_map, marked_length]
    simp (disch := first | omega | (simp only [List.length_append, List.length_cons, List.length_nil, List.length_map, mk_size, nat_cast_eq]; omega)) only [↓br_true, ↓br_false, ↓grd_true, ↓asI_int, ↓oget_nat, dec_t, bne_f, Bool.and_true, nat_cast_eq, ↓oget_map hx, id_eq, hw, hc, ih]
theorem v_heldI {n : Nat} {c : Int} (h0 : 0 ≤ c) (h1 : c < 1152921504606846976) (h2 : n < 115292150460684697) : V 30 [.rs (1, 0) ((marked id 1 c n).map eI), .int .i64 c] = some (.int .i64 (c + 1 * (n : Int)), []) := by
  have h := heldI_loop h0 h1 h2 n 0 (Nat.zero_add _)
  rw [show c + 1 * ((0 : Nat) : Int) = c by omega, Int.natCast_zero] at h
  rw [elaws_heldIntS]
  exact h

/-! ## nodes -/
noncomputable def mkNd (k : Int) : Nd := ⟨k, k + 1, mt (k + 2), k + 3, k + 4⟩
theorem markN_loop {l : List Nd} {c : Int} (h0 : 0 ≤ c) (h1 : c < 1152921504606846976) (h2 : l.length < 115292150460684697) : ∀ (k i : Nat), i + k = l.length → Llaws_markNodeS_2 (c + 5 * (i : Int)) (i : Int) ((marked mkNd 5 c i ++ l.drop i).map eN) = some (.int .i64 (c + 5 * (l.length : Int)), [.os (5, 0) ((marked mkNd 5 c l.length).map eN)])
  | 0, i, hi => by
    have : i = l.length := by omega
    subst this
    rw [Llaws_markNodeS_2_eq, List.drop_length, List.append_nil, List.length_map, marked_length]
    simp (disch := first | omega | (simp only [List.length_append, List.length_cons, List.length_nil, List.length_map, mk_size, nat_cast_eq]; omega)) only [↓br_false, dec_f, nat_cast_eq]
  | k + 1, i, hi => by
    obtain ⟨x, hx⟩ := get_of_lt (l := l) (i := i) (by omega)
    have ih := markN_loop h0 h1 h2 k (i + 1) (by omega)
    have hA : ((marked mkNd 5 c i).map eN).length = i := by rw [List.length_map, marked_length]
    have hj := mark_join eN mkNd 5 c (l := l) (i := i)
    have hw : IntKind.wrap IntKind.i64 ((i : Int) + 1) = ((i + 1 : Nat) : Int) := w64s (by omega)
    have hc : c + 5 * ((i + 1 : Nat) : Int) = c + 5 * (i : Int) + 5 := by omega
    have hl1 : ∀ y : D, ((marked mkNd 5 c i).map eN ++ y :: (l.drop (i + 1)).map eN).length = l.length := by
      intro y
      rw [List.length_append, hA, List.length_cons, List.length_map, List.length_drop]; omega
    have hg : (decide (0 ≤ (i : Int)) && decide ((i : Int) < ni l.length)) = true := in_idx (by omega)
    have w1 : IntKind.wrap IntKind.i64 (c + 5 * (i : Int) + 1) = c + 5 * (i : Int) + 1 := w64 (by omega) (by omega)
    have w2 : IntKind.wrap IntKind.i64 (c + 5 * (i : Int) + 1 + 1) = c + 5 * (i : Int) + 2 := by rw [w64 (by omega) (by omega)]; omega
    have w3 : IntKind.wrap IntKind.i64 (c + 5 * (i : Int) + 2 + 1) = c + 5 * (i : Int) + 3 := by rw [w64 (by omega) (by omega)]; omega
    have w4 : IntKind.wrap IntKind.i64 (c + 5 * (i : Int) + 3 + 1) = c + 5 * (i : Int) + 4 := by rw [w64 (by omega) (by omega)]; omega
    have w5 : IntKind.wrap IntKind.i64 (c + 5 * (i : Int) + 4 + 1) = c + 5 * ((i + 1 : Nat) : Int) := by rw [w64 (by omega) (by omega)]; omega
    have hm := v_mt (p := c + 5 * (i : Int) + 2) (by omega)
    have e1 : D.agg (List.take 4 (List.take 3 (List.take 2 (List.take 1 (List.take 0 [D.int .i64 x.kind, .int .i64 x.n, .str x.s, .int .i64 x.a, .int .i64 x.b] ++ [D.int .i64 (c + 5 * (i : Int))] ++ List.drop 1 [D.int .i64 x.kind, .int .i64 x.n, .str x.s, .int .i64 x.a, .int .i64 x.b]) ++ [D.int .i64 (c + 5 * (i : Int) + 1)] ++ List.drop 2 (List.take 0 [D.int .i64 x.kind, .int .i64 x.n, .str x.s, .int .i64 x.a, .int .i64 x.b] ++ [D.int .i64 (c + 5 * (i : Int))] ++ List.drop 1 [D.int .i64 x.kind, .int .i64 x.n, .str x.s, .int .i64 x.a, .int .i64 x.b])) ++ [D.str (mt (c + 5 * (i : Int) + 2))] ++ [D.int .i64 x.a, D.int .i64 x.b]) ++ [D.int .i64 (c + 5 * (i : Int) + 3)] ++ [D.int .i64 x.b]) ++ [D.int .i64 (c + 5 * (i : Int) + 4)] ++ []) = eN (mkNd (c + 5 * (i : Int))) := rfl
    rw [Llaws_markNodeS_2_eq, mark_split eN (marked_length mkNd 5 c i) hx, hl1, br_of (lt_idx (by omega)), grd_of hg, Int.toNat_natCast, oget_mid hA, asAgg_agg, nam_eq, set_mid' hA, hl1, grd_of hg, oget_mid hA, asAgg_agg, nam_eq, set_mid' hA, w1, w2, ocall_some hm, asS_str, unn_nil, hl1, grd_of hg, oget_mid hA, asAgg_agg, nam_eq, set_mid' hA, w3, hl1, grd_of hg, oget_mid hA, asAgg_agg, nam_eq, set_mid' hA, w4, hl1, grd_of hg, oget_mid hA, asAgg_agg, nam_eq, set_mid' hA, w5, hw]
    refine Eq.trans ?_ ih
    rw [← hj]
    rfl
theorem v_markN {l : List Nd} {c : Int} (h0 : 0 ≤ c) (h1 : c < 1152921504606846976) (h2 : l.length < 115292150460684697) : V 80 [.os (5, 0) (l.map eN), .int .i64 c] = some (.int .i64 (c + 5 * (l.length : Int)), [.os (5, 0) ((marked mkNd 5 c l.length).map eN)]) := by
  have h := markN_loop h0 h1 h2 l.length 0 (Nat.zero_add _)
  rw [show c + 5 * ((0 : Nat) : Int) = c by omega, Int.natCast_zero, show marked mkNd 5 c 0 = [] from rfl, List.nil_append, List.drop_zero] at h
  rw [elaws_markNodeS]
  exact h
theorem heldN_loop {n : Nat} {c : Int} (h0 : 0 ≤ c) (h1 : c < 1152921504606846976) (h2 : n < 115292150460684697) : ∀ (k i : Nat), i + k = n → Llaws_heldNodeS_2 ((marked mkNd 5 c n).map eN) (c + 5 * (i : Int)) (i : Int) = some (.int .i64 (c + 5 * (n : Int)), [])
  | 0, i, hi => by
    have : i = n := by omega
    subst this
    rw [Llaws_heldNodeS_2_eq, List.length_map, marked_length]
    simp (disch := first | omega | (simp only [List.length_append, List.length_cons, List.length_nil, List.length_map, mk_size, nat_cast_eq]; omega)) only [↓br_false, dec_f, nat_cast_eq]
  | k + 1, i, hi => by
    have hx := marked_get mkNd 5 c (n := n) (i := i) (by omega)
    have ih := heldN_loop h0 h1 h2 k (i + 1) (by omega)
    have hw : IntKind.wrap IntKind.i64 ((i : Int) + 1) = ((i + 1 : Nat) : Int) := w64s (by omega)
    have w1 : IntKind.wrap IntKind.i64 (c + 5 * (i : Int) + 1) = c + 5 * (i : Int) + 1 := w64 (by omega) (by omega)
    have w2 : IntKind.wrap IntKind.i64 (c + 5 * (i : Int) + 1 + 1) = c + 5 * (i : Int) + 2 := by rw [w64 (by omega) (by omega)]; omega
    have w3 : IntKind.wrap IntKind.i64 (c + 5 * (i : Int) + 2 + 1) = c + 5 * (i : Int) + 3 := by rw [w64 (by omega) (by omega)]; omega
    have w4 : IntKind.wrap IntKind.i64 (c + 5 * (i : Int) + 3 + 1) = c + 5 * (i : Int) + 4 := by rw [w64 (by omega) (by omega)]; omega
    have w5 : IntKind.wrap IntKind.i64 (c + 5 * (i : Int) + 4 + 1) = c + 5 * ((i + 1 : Nat) : Int) := by rw [w64 (by omega) (by omega)]; omega
    have hm := v_mt (p := c + 5 * (i : Int) + 2) (by omega)
    have hs : strEq (mt (c + 5 * (i : Int) + 2)) (mt (c + 5 * (i : Int) + 2)) = true := by rw [strEq_eq]; simp
    have hl1 : ((marked mkNd 5 c n).map eN).length = n := by rw [List.length_map, marked_length]
    rw [Llaws_heldNodeS_2_eq, hl1]
    simp only [w1, w2, w3, w4, w5]
    simp (disch := first | omega | (simp only [List.length_append, List.length_cons, List.length_nil, List.length_map, mk_size, nat_cast_eq]; omega)) only [↓ocall_ocont, ocont_some, ↓br_true, ↓br_false, ↓grd_true, ↓unn_nil, ↓asI_int, ↓asS_str, ↓asAgg_agg, ↓oget_lit0, ↓oget_lit1, ↓oget_lit2, ↓oget_lit3, ↓oget_lit4, oget_lit0, oget_lit1, oget_lit2, oget_lit3, oget_lit4, ↓oget_nat, dec_t, bne_f, Bool.and_true, Bool.not_true, nat_cast_eq, ↓oget_map hx, mkNd, hm, hs, hw, ih]
theorem v_heldN {n : Nat} {c : Int} (h0 : 0 ≤ c) (h1 : c < 1152921504606846976) (h2 : n < 115292150460684697) : V 81 [.rs (5, 0) ((marked mkNd 5 c n).map eN), .int .i64 c] = some (.int .i64 (c + 5 * (n : Int)), []) := by
  have h := heldN_loop h0 h1 h2 n 0 (Nat.zero_add _)
  rw [show c + 5 * ((0 : Nat) : Int) = c by omega, Int.natCast_zero] at h
  rw [elaws_heldNodeS]
  exact h
theorem v_markPool {l : List Nd} {c : Int} (h0 : 0 ≤ c) (h1 : c < 1152921504606846976) (h2 : l.length < 115292150460684697) : V 27 [oP l, .int .i64 c] = some (.int .i64 (c + 5 * (l.length : Int)), [oP (marked mkNd 5 c l.length)]) := by
  rw [elaws_markPool]
  simp (disch := first | omega | (simp only [List.length_append, List.length_cons, List.length_nil, List.length_map, mk_size, nat_cast_eq]; omega)) only [↓ocall_ocont, ocont_some, ↓unn_nil, ↓unc_cons, ↓asI_int, ↓asOs_os, v_markN (l := l) h0 h1 h2]
theorem v_heldPool {n : Nat} {c : Int} (h0 : 0 ≤ c) (h1 : c < 1152921504606846976) (h2 : n < 115292150460684697) : V 29 [eP (marked mkNd 5 c n), .int .i64 c] = some (.int .i64 (c + 5 * (n : Int)), []) := by
  rw [elaws_heldPool]
  simp (disch := first | omega | (simp only [List.length_append, List.length_cons, List.length_nil, List.length_map, mk_size, nat_cast_eq]; omega)) only [↓ocall_ocont, ocont_some, ↓br_false, ↓unn_nil, ↓asI_int, dec_f, v_heldN (n := n) h0 h1 h2]
/-! ## equality -/
theorem eqNd_refl (x : Nd) : V 139 [eN x, eN x] = some (.bool true, []) := by
  have hs : strEq x.s x.s = true := by rw [strEq_eq]; simp
  rw [elaws_eqNode]
  simp (disch := first | omega | (simp only [List.length_append, List.length_cons, List.length_nil, List.length_map, mk_size, nat_cast_eq]; omega)) only [↓br_false, bne_f, Bool.not_true, hs]
theorem eqN_loop {l : List Nd} (hl : l.length < 4611686018427387904) : ∀ (k i : Nat), i + k = l.length → Llaws_eqNodeS_4 (l.map eN) (l.map eN) (i : Int) = some (.bool true, [])
  | 0, i, hi => by rw [Llaws_eqNodeS_4_eq]; simp (disch := first | omega | (simp only [List.length_append, List.length_cons, List.length_nil, List.length_map, mk_size, nat_cast_eq]; omega)) only [↓br_false, dec_f, List.length_map, nat_cast_eq]
  | k + 1, i, hi => by
    obtain ⟨x, hx⟩ := get_of_lt (l := l) (i := i) (by omega)
    have ih := eqN_loop hl k (i + 1) (by omega)
    have hw : IntKind.wrap IntKind.i64 ((i : Int) + 1) = ((i + 1 : Nat) : Int) := w64s (by omega)
    rw [Llaws_eqNodeS_4_eq]
    simp (disch := first | omega | (simp only [List.length_append, List.length_cons, List.length_nil, List.length_map, mk_size, nat_cast_eq]; omega)) only [↓ocall_ocont, ocont_some, ↓br_true, ↓br_false, ↓grd_true, ↓unn_nil, ↓unc_cons, ↓asI_int, ↓asB_bool, ↓asS_str, ↓asAgg_agg, ↓oget_nat, dec_t, Bool.and_true, Bool.not_true, List.length_map, nat_cast_eq, ↓oget_map hx, eqNd_refl x, hw, ih]
theorem v_eqPool {l : List Nd} (hl : l.length < 4611686018427387904) : V 25 [eP l, eP l] = some (.bool true, []) := by
  have h := eqN_loop hl l.length 0 (Nat.zero_add _)
  rw [Int.natCast_zero] at h
  have h2 : V 79 [.rs (5, 0) (l.map eN), .rs (5, 0) (l.map eN)] = some (.bool true, []) := by
    rw [elaws_eqNodeS]
    simp (disch := first | omega | (simp only [List.length_append, List.length_cons, List.length_nil, List.length_map, mk_size, nat_cast_eq]; omega)) only [↓br_false, bne_f, List.length_map, nat_cast_eq, h]
  rw [elaws_eqPool]
  simp (disch := first | omega | (simp only [List.length_append, List.length_cons, List.length_nil, List.length_map, mk_size, nat_cast_eq]; omega)) only [↓ocall_ocont, ocont_some, ↓br_false, ↓unn_nil, ↓asB_bool, Bool.not_true, h2]
theorem eqI_loop {l : List Int} (hl : l.length < 4611686018427387904) : ∀ (k i : Nat), i + k = l.length → Llaws_eqIntS_4 (l.map eI) (l.map eI) (i : Int) = some (.bool true, [])
  | 0, i, hi => by rw [Llaws_eqIntS_4_eq]; simp (disch := first | omega | (simp only [List.length_append, List.length_cons, List.length_nil, List.length_map, mk_size, nat_cast_eq]; omega)) only [↓br_false, dec_f, List.length_map, nat_cast_eq]
  | k + 1, i, hi => by
    obtain ⟨x, hx⟩ := get_of_lt (l := l) (i := i) (by omega)
    have ih := eqI_loop hl k (i + 1) (by omega)
    have hw : IntKind.wrap IntKind.i64 ((i : Int) + 1) = ((i + 1 : Nat) : Int) := w64s (by omega)
    rw [Llaws_eqIntS_4_eq]
    simp (disch := first | omega | (simp only [List.length_append, List.length_cons, List.length_nil, List.length_map, mk_size, nat_cast_eq]; omega)) only [↓br_true, ↓br_false, ↓grd_true, ↓asI_int, ↓oget_nat, dec_t, bne_f, Bool.and_true, List.length_map, nat_cast_eq, ↓oget_map hx, hw, ih]
theorem v_eqInts {l : List Int} (hl : l.length < 4611686018427387904) : V 26 [.rs (1, 0) (l.map eI), .rs (1, 0) (l.map eI)] = some (.bool true, []) := by
  have h := eqI_loop hl l.length 0 (Nat.zero_add _)
  rw [Int.natCast_zero] at h
  rw [elaws_eqIntS]
  simp (disch := first | omega | (simp only [List.length_append, List.length_cons, List.length_nil, List.length_map, mk_size, nat_cast_eq]; omega)) only [↓br_false, bne_f, List.length_map, nat_cast_eq, h]
end Go.Eng
