/- the program and the reference on plain data, part 2 -/
import Derived.Test.YtnnedacillllmaaPart1
import Derived.Test.YtnnedacillllmaaEngC
/-! LinkTake of the program -/
namespace Go.Eng
open Go.Proofs Go.Proofs.Try

theorem v_insert {xs : List D} {i : Nat} (y : D) (hi : i ≤ xs.length) (hl : xs.length ≤ 1000) : V 32 [.os (2, 0) xs, .int .i64 i, .os (2, 0) [y]] = some (.os (2, 0) (xs.take i ++ y :: xs.drop i), []) := by
  refine (Vn_ext (F := insP) rfl _).trans ?_
  have hc : (decide (((2, 0) : Z) = (2, 0)) && (decide (((2, 0) : Z) = (2, 0)) && (decide (0 ≤ (i : Int)) && (decide ((i : Int) ≤ (xs.length : Int)) && decide (xs.length ≤ 1000))))) = true := by
    simp only [Bool.and_eq_true, decide_eq_true_eq]
    exact ⟨trivial, trivial, by omega, by omega, hl⟩
  have hd : insP [.os (2, 0) xs, .int .i64 i, .os (2, 0) [y]] = match (decide (((2, 0) : Z) = (2, 0)) && (decide (((2, 0) : Z) = (2, 0)) && (decide (0 ≤ (i : Int)) && (decide ((i : Int) ≤ (xs.length : Int)) && decide (xs.length ≤ 1000))))) with
    | true => some (.os (2, 0) (xs.take (i : Int).toNat ++ y :: xs.drop (i : Int).toNat), [])
    | false => none := rfl
  rw [hd, hc]
  rfl

/-! ## the search -/
theorem half_eq {i j : Nat} (h : i + j ≤ 1000000) : IntKind.wrap IntKind.i64 (Int.fdiv (IntKind.wrap IntKind.u64 (IntKind.wrap IntKind.i64 ((i : Int) + (j : Int)))) (2 ^ min (Int.toNat (1)) (IntKind.bits IntKind.u64))) = (((i + j) / 2 : Nat) : Int) := by
  have h1 : IntKind.wrap IntKind.i64 ((i : Int) + (j : Int)) = ((i + j : Nat) : Int) := by rw [w64 (by omega) (by omega)]; omega
  have h2 : IntKind.wrap IntKind.u64 ((i + j : Nat) : Int) = ((i + j : Nat) : Int) := IntWalk.u64_in _ (by omega)
  have h3 : (2 : Int) ^ min (Int.toNat (1)) (IntKind.bits IntKind.u64) = 2 := by decide
  have h4 : Int.fdiv ((i + j : Nat) : Int) 2 = (((i + j) / 2 : Nat) : Int) := by
    rw [Int.fdiv_eq_ediv_of_nonneg _ (by omega)]; omega
  rw [h1, h2, h3, h4, w64 (by omega) (by omega)]
/-- what a search finds -/
structure Found (l : List Pc) (n : Int) (r : Nat) (b : Bool) : Prop where
  lo : ∀ k q, k < r → l[k]? = some q → q.no < n
  hi : ∀ k q, r ≤ k → l[k]? = some q → n ≤ q.no
  eq : b = true ↔ ∃ q, l[r]? = some q ∧ q.no = n
noncomputable def Sorted (l : List Pc) : Prop := ∀ (i j : Nat) (p q : Pc), i < j → l[i]? = some p → l[j]? = some q → p.no < q.no
noncomputable def Near (l : List Pc) (n : Int) : Prop := ∀ q ∈ l, -4611686018427387904 ≤ q.no - n ∧ q.no - n ≤ 4611686018427387904
theorem bs_loop {l : List Pc} (hl : l.length ≤ 1000) (n : Int) : ∀ (k i j : Nat), j - i ≤ k → i ≤ j → j ≤ l.length →
    ∃ (r : Nat) (b : Bool), LBinarySearchFunc_Piece_3 (l.map eP) n (ni l.length) (i : Int) (j : Int) = some (.tup [.int .i64 r, .bool b], []) ∧ r ≤ l.length ∧
      (Near l n → Sorted l → (∀ k q, k < i → l[k]? = some q → q.no < n) → (∀ k q, j ≤ k → l[k]? = some q → n ≤ q.no) → Found l n r b) := by
  have fin : ∀ (i j : Nat), i = j → j ≤ l.length → ∃ (r : Nat) (b : Bool), LBinarySearchFunc_Piece_3 (l.map eP) n (ni l.length) (i : Int) (j : Int) = some (.tup [.int .i64 r, .bool b], []) ∧ r ≤ l.length ∧
      (Near l n → Sorted l → (∀ k q, k < i → l[k]? = some q → q.no < n) → (∀ k q, j ≤ k → l[k]? = some q → n ≤ q.no) → Found l n r b) := by
    intro i j e hj
    subst e
    rw [LBinarySearchFunc_Piece_3_eq, br_not (decide_eq_false (by omega))]
    by_cases hil : i < l.length
    · obtain ⟨x, hx⟩ := get_of_lt hil
      rw [br_of (lt_idx hil), grd_of (by rw [List.length_map]; exact in_idx hil), Int.toNat_natCast, oget_map hx, eP_mk x, asAgg_agg, unc_cons, asI_int, unc_cons, asS_str, unn_nil, ocall_some (eimpl_LinkTake_1 _ _ _), asI_int, unn_nil]
      refine ⟨i, _, rfl, by omega, fun hn hs h1 h2 => ⟨h1, h2, ?_⟩⟩
      have := hn x (List.mem_of_getElem? hx)
      rw [w64 (by omega) (by omega), beq_iff_eq]
      constructor
      · intro h; exact ⟨x, hx, by omega⟩
      · rintro ⟨q, hq, e⟩
        rw [hx] at hq; cases hq; omega
    · rw [br_not (ge_idx (by omega))]
      refine ⟨i, _, rfl, by omega, fun hn hs h1 h2 => ⟨h1, h2, ?_⟩⟩
      constructor
      · intro h; cases h
      · rintro ⟨q, hq, e⟩
        rw [List.getElem?_eq_none (by omega)] at hq; cases hq
  intro k
  induction k with
  | zero => exact fun i j h1 h2 h3 => fin i j (by omega) h3
  | succ k ih =>
    intro i j h1 h2 h3
    by_cases hij : i = j
    · exact fin i j hij h3
    have hm : (i + j) / 2 < l.length := by omega
    obtain ⟨x, hx⟩ := get_of_lt hm
    rw [LBinarySearchFunc_Piece_3_eq, br_of (decide_eq_true (by omega)), grd_of (by rfl), half_eq (by omega)]
    rw [grd_of (by rw [List.length_map]; exact in_idx hm), Int.toNat_natCast, oget_map hx, eP_mk x, asAgg_agg, unc_cons, asI_int, unc_cons, asS_str, unn_nil, ocall_some (eimpl_LinkTake_1 _ _ _), asI_int, unn_nil, w64s (by omega)]
    by_cases hc : IntKind.wrap IntKind.i64 (x.no - n) < 0
    · rw [br_of (decide_eq_true hc)]
      obtain ⟨r, b, e, hr, hf⟩ := ih ((i + j) / 2 + 1) j (by omega) (by omega) h3
      refine ⟨r, b, e, hr, fun hn hs g1 g2 => hf hn hs (fun t q ht hq => ?_) g2⟩
      have hb := hn x (List.mem_of_getElem? hx)
      rw [w64 (by omega) (by omega)] at hc
      rcases Nat.lt_or_ge t ((i + j) / 2) with h | h
      · have := hs t _ q x h hq hx; omega
      · have : t = (i + j) / 2 := by omega
        subst this
        rw [hx] at hq; cases hq; omega
    · rw [br_not (decide_eq_false hc)]
      obtain ⟨r, b, e, hr, hf⟩ := ih i ((i + j) / 2) (by omega) (by omega) (by omega)
      refine ⟨r, b, e, hr, fun hn hs g1 g2 => hf hn hs g1 (fun t q ht hq => ?_)⟩
      have hb := hn x (List.mem_of_getElem? hx)
      rw [w64 (by omega) (by omega)] at hc
      rcases Nat.lt_or_ge ((i + j) / 2) t with h | h
      · have := hs _ t x q h hx hq; omega
      · have : t = (i + j) / 2 := by omega
        subst this
        rw [hx] at hq; cases hq; omega
theorem v_search {l : List Pc} (hl : l.length ≤ 1000) (n : Int) : ∃ (r : Nat) (b : Bool), V 29 [.rs (2, 0) (l.map eP), .int .i64 n, .fn 30 []] = some (.tup [.int .i64 r, .bool b], []) ∧ r ≤ l.length ∧ (Near l n → Sorted l → Found l n r b) := by
  obtain ⟨r, b, e, hr, hf⟩ := bs_loop hl n l.length 0 l.length (by omega) (by omega) (Nat.le_refl _)
  refine ⟨r, b, ?_, hr, fun h1 h2 => hf h1 h2 (fun k q h _ => by omega) (fun k q h hq => ?_)⟩
  · rw [eBinarySearchFunc_Piece, List.length_map]; exact e
  · rw [List.getElem?_eq_none h] at hq; cases hq
theorem holdF_found {p : Pc} : ∀ {l : List Pc} {r : Nat} {b : Bool}, r ≤ l.length → Found l p.no r b → holdF p l = if b then l else l.take r ++ p :: l.drop r
  | [], r, b, hr, h => by
    cases b with
    | true => obtain ⟨q, hq, _⟩ := h.eq.1 rfl; simp at hq
    | false => simp [holdF]
  | q :: l, 0, b, hr, h => by
    have h0 := h.hi 0 q (Nat.le_refl _) rfl
    simp only [holdF]
    rw [if_pos (by omega)]
    cases b with
    | true =>
      obtain ⟨q', hq, e⟩ := h.eq.1 rfl
      cases hq
      rw [if_neg (by omega)]; rfl
    | false =>
      have : ¬ q.no = p.no := fun e => by have := h.eq.2 ⟨q, rfl, e⟩; cases this
      rw [if_pos (by omega)]; rfl
  | q :: l, r + 1, b, hr, h => by
    have h0 := h.lo 0 q (by omega) rfl
    have ih := holdF_found (p := p) (l := l) (r := r) (b := b) (by simpa using hr) ⟨fun k x hk hx => h.lo (k + 1) x (by omega) hx, fun k x hk hx => h.hi (k + 1) x (by omega) hx, h.eq⟩
    simp only [holdF]
    rw [if_neg (by omega), ih]
    cases b <;> rfl

/-! ## what is held by a good link -/
theorem heldFrom_get {l : Lk} : ∀ (k i : Nat), heldFrom l i k = true → ∀ j p, i ≤ j → j < i + k → l.held[j]? = some p → wi p.no (l.got + 1) (mnI (l.got + 4) l.sent - 1) = true ∧ prevOk l.held j p = true
  | 0, i, h, j, p, h1, h2, hp => by omega
  | k + 1, i, h, j, p, h1, h2, hp => by
    simp only [heldFrom, Bool.and_eq_true] at h
    rcases Nat.lt_or_ge i j with hij | hij
    · exact heldFrom_get k (i + 1) h.2 j p hij (by omega) hp
    · have : j = i := by omega
      subst this
      rw [hp] at h
      simpa using h.1
theorem held_facts {l : Lk} (h : okK l = true) : Sorted l.held ∧ (∀ q ∈ l.held, l.got + 1 ≤ q.no ∧ q.no ≤ l.got + 3) ∧ l.held.length ≤ 3 := by
  have hh : heldFrom l 0 l.held.length = true := by simp only [okK, Bool.and_eq_true] at h; exact h.2.2.2.2.2
  have hg := heldFrom_get l.held.length 0 hh
  have hm := mnI_le (l.got + 4) l.sent
  have hw : ∀ (j : Nat) p, l.held[j]? = some p → l.got + 1 ≤ p.no ∧ p.no ≤ l.got + 3 := by
    intro j p hp
    have := (hg j p (by omega) (by have := lt_of_get hp; omega) hp).1
    simp only [wi, Bool.and_eq_true, decide_eq_true_eq] at this
    omega
  have hstep : ∀ (j : Nat) p q, l.held[j]? = some p → l.held[j + 1]? = some q → p.no < q.no := by
    intro j p q hp hq
    have := (hg (j + 1) q (by omega) (by have := lt_of_get hq; omega) hq).2
    simp only [prevOk, hp, Bool.not_eq_true', decide_eq_false_iff_not] at this
    omega
  have hge : ∀ (d i : Nat) p q, l.held[i]? = some p → l.held[i + d]? = some q → p.no + d ≤ q.no := by
    intro d
    induction d with
    | zero => intro i p q hp hq; rw [Nat.add_zero, hp] at hq; cases hq; simp
    | succ d ih =>
      intro i p q hp hq
      obtain ⟨x, hx⟩ := get_of_lt (l := l.held) (i := i + d) (by have := lt_of_get hq; omega)
      have h1 := ih i p x hp hx
      have h2 := hstep (i + d) x q hx hq
      omega
  refine ⟨fun i j p q hij hp hq => ?_, fun q hq => ?_, ?_⟩
  · have := hge (j - i) i p q hp (by rw [show i + (j - i) = j by omega]; exact hq)
    omega
  · obtain ⟨j, hj⟩ := List.getElem?_of_mem hq
    exact hw j q hj
  · rcases Nat.lt_or_ge 3 l.held.length with h3 | h3
    · obtain ⟨a, ha⟩ := get_of_lt (l := l.held) (i := 0) (by omega)
      obtain ⟨b, hb⟩ := get_of_lt (l := l.held) (i := 3) h3
      have h1 := hge 3 0 a b ha (by simpa using hb)
      have h2 := hw 0 a ha
      have h4 := hw 3 b hb
      omega
    · exact h3
/-! ## what is handed up -/
theorem popI_loop {l : List Pc} {q : List D} (hl : l.length < 4294967295) (z0 z1 z2 sent acked : Int) : ∀ (k i : Nat) (up : List ByteArray) (g : Int), i + k = l.length → up.length ≤ i + 1 → 0 ≤ g → g ≤ 100001 + i →
    Limpl_LinkTake_11v1 z0 z1 z2 sent acked g i k (up.map .str) q (l.map eP) = some (.tup [.agg [.int .i64 sent, .int .i64 acked, .os (1, 0) q, .int .i64 (popF g (l.drop i)).2.1, .os (2, 0) ((popF g (l.drop i)).2.2.map eP)], .os (1, 0) ((up ++ (popF g (l.drop i)).1).map .str)], [])
  | 0, i, up, g, hi, hu, hg, hg2 => by
    rw [Limpl_LinkTake_11v1_eq, br_not (by simp [ni]), ocall_some (v_cloneP (by simp [part])), asOs_os, unn_nil, List.drop_of_length_le (by omega)]
    simp [popF, part]
  | k + 1, i, up, g, hi, hu, hg, hg2 => by
    obtain ⟨x, hx⟩ := get_of_lt (l := l) (i := i) (by omega)
    have hb : (decide (0 ≤ 0) && decide ((0 : Int) < ni (k + 1)) && decide (i + (k + 1) ≤ (l.map eP).length)) = true := by simp [ni]; omega
    have hlim : decide (ni (up.map D.str ++ [D.str x.text]).length ≤ LIM) = true := decide_eq_true (by simp only [ni, LIM_eq, List.length_append, List.length_map, List.length_cons, List.length_nil]; omega)
    have hcut : cutOkX (k + 1) ((l.map eP).length - i) (some 1) none = true := by simp [cutOkX]; omega
    have hpart : part (l.map eP) (some (i, k + 1)) = (l.drop i).map eP := by
      simp only [part, ← List.map_drop, ← List.map_take]
      rw [List.take_of_length_le (by rw [List.length_drop]; omega)]
    have hb0 : decide (ni (k + 1) > 0) = true := decide_eq_true (by simp only [ni]; omega)
    have e0 : i + Int.toNat 0 = i := rfl
    rw [Limpl_LinkTake_11v1_eq, br_of hb0, grd_of hb, e0, oget_map hx, eP_mk x, asAgg_agg, oget_lit0, asI_int, drop_at hx]
    unfold popF
    by_cases h : x.no = g
    · rw [br_of (by simp [h]), if_pos h, grd_of hb, oget_map hx, eP_mk x, asAgg_agg, oget_lit1, asS_str, grd_of hlim, nam_eq, grd_of hcut, w64 (by omega) (by omega)]
      have := popI_loop (q := q) hl z0 z1 z2 sent acked k (i + 1) (up ++ [x.text]) (g + 1) (by omega) (by simp; omega) (by omega) (by omega)
      simp only [List.map_append, List.map_cons, List.map_nil] at this
      refine this.trans ?_
      simp
    · rw [br_not (by simp [h]), if_neg h, hpart, ocall_some (v_cloneP (by simp; omega)), asOs_os, unn_nil, drop_at hx]
      simp
theorem popI_first {l : List Pc} {q : List D} (hl : l.length < 4294967295) (z0 z1 z2 sent acked : Int) (s : ByteArray) (g : Int) (hg : 0 ≤ g) (hg2 : g ≤ 100001) :
    Limpl_LinkTake_11 z0 z1 z2 sent acked g [D.str s] q (l.map eP) = some (.tup [.agg [.int .i64 sent, .int .i64 acked, .os (1, 0) q, .int .i64 (popF g l).2.1, .os (2, 0) ((popF g l).2.2.map eP)], .os (1, 0) ((s :: (popF g l).1).map .str)], []) := by
  cases l with
  | nil => rw [Limpl_LinkTake_11_eq, br_not (by rfl), ocall_some (v_cloneP (by simp)), asOs_os, unn_nil]; rfl
  | cons x r =>
    have hlen : r.length + 1 < 4294967295 := by simpa using hl
    have hb0 : decide (ni (List.map eP (x :: r)).length > 0) = true := decide_eq_true (by simp only [ni, List.map_cons, List.length_cons]; omega)
    have hb : (decide (0 ≤ 0) && decide ((0 : Int) < ni (List.map eP (x :: r)).length)) = true := by simp only [ni, List.map_cons, List.length_cons, Bool.and_eq_true, decide_eq_true_eq]; omega
    have hlim : decide (ni ([D.str s] ++ [D.str x.text]).length ≤ LIM) = true := decide_eq_true (by simp [ni, LIM_eq])
    have hcut : cutOk (List.map eP (x :: r)).length (some 1) none = true := by simp [cutOk]; omega
    have hx : (x :: r)[0]? = some x := rfl
    rw [Limpl_LinkTake_11_eq, br_of hb0, grd_of hb, oget_map hx, eP_mk x, asAgg_agg, oget_lit0, asI_int]
    unfold popF
    by_cases h : x.no = g
    · rw [br_of (by simp [h]), if_pos h, grd_of hb, oget_map hx, eP_mk x, asAgg_agg, oget_lit1, asS_str, grd_of hlim, nam_eq, grd_of hcut, w64 (by omega) (by omega)]
      have := popI_loop (q := q) hl z0 z1 z2 sent acked r.length 1 [s, x.text] (g + 1) (by simp; omega) (by simp) (by omega) (by omega)
      have e1 : (List.map eP (x :: r)).length - Int.toNat 1 = r.length := by simp
      rw [e1]
      exact this
    · rw [br_not (by simp [h]), if_neg h, ocall_some (v_cloneP (by simp; omega)), asOs_os, unn_nil]
      rfl
theorem v_impl_take {l : Lk} (h1 : l.queue.length < 4294967295) (h2 : l.held.length < 4294967295) (p : Pc) : V 11 [eK l, .agg [.int .i64 p.no, .str p.text]] = some (.tup [oK (takeF l p).1, .os (1, 0) ((takeF l p).2.map .str)], []) := by
  have hs := v_impl_okK (l := l) (by omega) (by omega)
  have hc := v_copyK (l := l) (by omega) (by omega)
  have e : V 11 [eK l, .agg [.int .i64 p.no, .str p.text]] = _ := eimpl_LinkTake l.sent l.acked (l.queue.map .str) l.got (l.held.map eP) p.no p.text
  rw [e]
  unfold eK at hs hc
  unfold oK at hc
  unfold takeF
  rw [ocall_some hs, asB_bool, unn_nil]
  cases hok : okK l with
  | false => rfl
  | true =>
    have hf := okK_facts hok
    obtain ⟨hso, hno, hl3⟩ := held_facts hok
    have hm := mnI_le (l.got + 4) l.sent
    obtain ⟨r, b, hsr, hr, hfd⟩ := v_search (l := l.held) (by omega) p.no
    rw [Bool.not_true, br_false, ocall_some hc, asAgg_agg, unc_cons, asI_int, unc_cons, asI_int, unc_cons, asOs_os, unc_cons, asI_int, unc_cons, asOs_os, unn_nil, unn_nil, if_pos rfl]
    have ins : ((ocall V 29 [(.rs (2, 0) (l.held.map eP)), (.int .i64 p.no), (.fn 30 [])] fun x21 l22 =>
                   asTup x21 fun l23 => unc l23 fun x24 l25 => asI .i64 x24 fun n26 => unc l25 fun x27 l28 => asB x27 fun b29 => unn l28 (unn l22 (ocall V 31 [(.int .i64 p.no), (.int .i64 (IntKind.wrap IntKind.i64 (l.got + 1))), (.int .i64 (IntKind.wrap IntKind.i64 (mnI (IntKind.wrap IntKind.i64 (l.got + 4)) l.sent - 1)))] fun x30 l31 =>
                         asB x30 fun b32 => unn l31 (br b32
                           (br (!b29)
                            (ocall V 32 [(.os (2, 0) (l.held.map eP)), (.int .i64 n26), (.os (2, 0) [(.agg [(.int .i64 p.no), (.str p.text)])])] fun x33 l34 =>
                             asOs (2, 0) x33 fun l35 => unn l34 (some ((.tup [(.agg [(.int .i64 l.sent), (.int .i64 l.acked), (.os (1, 0) (l.queue.map .str)), (.int .i64 l.got), (.os (2, 0) l35)]), (.os (1, 0) [])]), [])))
                            (some ((.tup [(.agg [(.int .i64 l.sent), (.int .i64 l.acked), (.os (1, 0) (l.queue.map .str)), (.int .i64 l.got), (.os (2, 0) (l.held.map eP))]), (.os (1, 0) [])]), [])))
                           (some ((.tup [(.agg [(.int .i64 l.sent), (.int .i64 l.acked), (.os (1, 0) (l.queue.map .str)), (.int .i64 l.got), (.os (2, 0) (l.held.map eP))]), (.os (1, 0) [])]), [])))))) : Option Ret) =
        some (.tup [oK (if wi p.no (l.got + 1) (mnI (l.got + 4) l.sent - 1) then { l with held := holdF p l.held } else l), .os (1, 0) []], []) := by
      rw [ocall_some hsr, asTup_tup, unc_cons, asI_int, unc_cons, asB_bool, unn_nil, unn_nil, w64 (n := l.got + 4) (by omega) (by omega), w64 (n := l.got + 1) (by omega) (by omega), w64 (n := mnI (l.got + 4) l.sent - 1) (by omega) (by omega), ocall_some (v_within _ _ _), asB_bool, unn_nil]
      cases hw : wi p.no (l.got + 1) (mnI (l.got + 4) l.sent - 1) with
      | false => rfl
      | true =>
        have hw' := hw
        simp only [wi, Bool.and_eq_true, decide_eq_true_eq] at hw'
        have hfo := hfd (fun q hq => by have := hno q hq; omega) hso
        have hh := holdF_found hr hfo
        rw [br_true, if_pos rfl, hh]
        cases b with
        | true => rfl
        | false =>
          rw [Bool.not_false, br_true, ocall_some (v_insert _ (by rw [List.length_map]; exact hr) (by rw [List.length_map]; omega)), asOs_os, unn_nil]
          simp [oK, eP]
    by_cases hp : p.no = l.got
    · rw [br_not (by simp [hp])]
      by_cases hg : l.got ≥ l.sent
      · rw [br_of (decide_eq_true hg)]
        refine ins.trans ?_
        have w1 : wi p.no (l.got + 1) (mnI (l.got + 4) l.sent - 1) = false := by simp only [wi, Bool.and_eq_false_iff, decide_eq_false_iff_not]; omega
        have w2 : wi p.no l.got (mnI (l.got + 4) l.sent - 1) = false := by simp only [wi, Bool.and_eq_false_iff, decide_eq_false_iff_not]; omega
        rw [w1, w2]; rfl
      · have w2 : wi p.no l.got (mnI (l.got + 4) l.sent - 1) = true := by simp only [wi, Bool.and_eq_true, decide_eq_true_eq]; omega
        rw [br_not (decide_eq_false hg), w2, if_pos rfl, if_neg (by omega), w64 (by omega) (by omega)]
        rw [popI_first (l := l.held) (q := l.queue.map .str) (by omega) 0 0 0 l.sent l.acked p.text (l.got + 1) (by omega) (by omega)]
        rfl
    · rw [br_of (by simp [hp])]
      refine ins.trans ?_
      by_cases hw : wi p.no (l.got + 1) (mnI (l.got + 4) l.sent - 1) = true
      · have hw' := hw
        simp only [wi, Bool.and_eq_true, decide_eq_true_eq] at hw'
        have w2 : wi p.no l.got (mnI (l.got + 4) l.sent - 1) = true := by simp only [wi, Bool.and_eq_true, decide_eq_true_eq]; omega
        rw [if_pos hw, if_pos w2, if_pos (by omega)]; rfl
      · have w2 : ¬ wi p.no l.got (mnI (l.got + 4) l.sent - 1) = true := by
          intro h
          simp only [wi, Bool.and_eq_true, decide_eq_true_eq] at h hw
          omega
        rw [if_neg hw, if_neg w2]; rfl
end Go.Eng
/-! what LinkTake leaves is good -/
namespace Go.Eng
open Go.Proofs Go.Proofs.Try

noncomputable def Asc (l : List Pc) : Prop := l.Pairwise fun p q => p.no < q.no
theorem asc_of {l : List Pc} (h : Sorted l) : Asc l := by
  refine List.pairwise_iff_getElem.2 fun i j hi hj hij => ?_
  exact h i j _ _ hij (List.getElem?_eq_getElem hi) (List.getElem?_eq_getElem hj)
theorem sorted_of {l : List Pc} (h : Asc l) : Sorted l := by
  intro i j p q hij hp hq
  have h1 := lt_of_get hp
  have h2 := lt_of_get hq
  have := List.pairwise_iff_getElem.1 h i j h1 h2 hij
  rw [List.getElem?_eq_getElem h1] at hp
  rw [List.getElem?_eq_getElem h2] at hq
  cases hp; cases hq
  exact this
theorem holdF_asc (p : Pc) : ∀ {l : List Pc}, Asc l → Asc (holdF p l) ∧ ∀ q ∈ holdF p l, q = p ∨ q ∈ l
  | [], _ => ⟨by simp [holdF, Asc], by simp [holdF]⟩
  | q :: r, h => by
    have hc := List.pairwise_cons.1 h
    obtain ⟨h1, h2⟩ := holdF_asc p (l := r) hc.2
    simp only [holdF]
    split
    · split
      · rename_i hge hgt
        refine ⟨List.pairwise_cons.2 ⟨fun x hx => ?_, h⟩, fun x hx => ?_⟩
        · rcases List.mem_cons.1 hx with rfl | hx
          · exact hgt
          · have := hc.1 x hx; omega
        · simpa using hx
      · exact ⟨h, fun x hx => .inr hx⟩
    · rename_i hlt
      refine ⟨List.pairwise_cons.2 ⟨fun x hx => ?_, h1⟩, fun x hx => ?_⟩
      · rcases h2 x hx with rfl | hx
        · omega
        · exact hc.1 x hx
      · rcases List.mem_cons.1 hx with rfl | hx
        · exact .inr (by simp)
        · rcases h2 x hx with h | h
          · exact .inl h
          · exact .inr (by simp [h])
theorem popF_asc : ∀ {l : List Pc} {g S : Int}, Asc l → (∀ q ∈ l, g ≤ q.no ∧ q.no < S) → g ≤ S → Asc (popF g l).2.2 ∧ (∀ q ∈ (popF g l).2.2, (popF g l).2.1 + 1 ≤ q.no ∧ q ∈ l) ∧ (popF g l).2.1 ≤ S
  | [], g, S, h, hg, hS => by simp [popF, Asc, hS]
  | q :: r, g, S, h, hg, hS => by
    have hc := List.pairwise_cons.1 h
    have h0 := hg q (by simp)
    simp only [popF]
    split
    · rename_i e
      obtain ⟨h1, h2, h3⟩ := popF_asc (g := g + 1) (S := S) hc.2 (fun x hx => by have := hc.1 x hx; have := hg x (by simp [hx]); omega) (by omega)
      exact ⟨h1, fun x hx => ⟨(h2 x hx).1, by simp [(h2 x hx).2]⟩, h3⟩
    · rename_i e
      refine ⟨h, fun x hx => ⟨?_, hx⟩, hS⟩
      rcases List.mem_cons.1 hx with rfl | hx'
      · simp only; omega
      · have := hc.1 x hx'; simp only; omega
theorem heldFrom_of {l : Lk} : ∀ (k i : Nat), (∀ j p, i ≤ j → j < i + k → l.held[j]? = some p → wi p.no (l.got + 1) (mnI (l.got + 4) l.sent - 1) = true ∧ prevOk l.held j p = true) → heldFrom l i k = true
  | 0, i, h => rfl
  | k + 1, i, h => by
    simp only [heldFrom, Bool.and_eq_true]
    refine ⟨?_, heldFrom_of k (i + 1) fun j p h1 h2 hp => h j p (by omega) (by omega) hp⟩
    cases hp : l.held[i]? with
    | none => rfl
    | some p => simpa using h i p (Nat.le_refl _) (by omega) hp
theorem okK_of {l : Lk} (h1 : 0 ≤ l.acked) (h2 : l.acked ≤ l.got) (h3 : l.got ≤ l.sent) (h4 : l.sent ≤ 100000) (h5 : (l.queue.length : Int) = l.sent - l.acked) (h6 : (l.queue.length : Int) ≤ 30) (hs : Asc l.held) (hw : ∀ q ∈ l.held, l.got + 1 ≤ q.no ∧ q.no ≤ mnI (l.got + 4) l.sent - 1) : okK l = true := by
  have hh : heldFrom l 0 l.held.length = true := by
    refine heldFrom_of _ _ fun j p _ _ hp => ⟨?_, ?_⟩
    · have := hw p (List.mem_of_getElem? hp)
      simp only [wi, Bool.and_eq_true, decide_eq_true_eq]; omega
    · cases j with
      | zero => rfl
      | succ j =>
        obtain ⟨q, hq⟩ := get_of_lt (l := l.held) (i := j) (by have := lt_of_get hp; omega)
        have := sorted_of hs j (j + 1) q p (by omega) hq hp
        simp only [prevOk, hq, Bool.not_eq_true', decide_eq_false_iff_not]; omega
  simp only [okK, wi, hh, Bool.and_true, Bool.and_eq_true, decide_eq_true_eq, beq_iff_eq, Bool.not_eq_true', decide_eq_false_iff_not]
  omega
theorem held_facts2 {l : Lk} (h : okK l = true) : ∀ q ∈ l.held, l.got + 1 ≤ q.no ∧ q.no ≤ mnI (l.got + 4) l.sent - 1 := by
  have hh : heldFrom l 0 l.held.length = true := by simp only [okK, Bool.and_eq_true] at h; exact h.2.2.2.2.2
  intro q hq
  obtain ⟨j, hj⟩ := List.getElem?_of_mem hq
  have := (heldFrom_get l.held.length 0 hh j q (by omega) (by have := lt_of_get hj; omega) hj).1
  simpa only [wi, Bool.and_eq_true, decide_eq_true_eq] using this
/-- what a good link takes: good again; told is what came from got on -/
theorem takeF_good {l : Lk} (h : okK l = true) (p : Pc) : okK (takeF l p).1 = true ∧ (takeF l p).1.got = l.got + (takeF l p).2.length ∧ ((takeF l p).2 = [] ∨ (p.no = l.got ∧ ∃ r, (takeF l p).2 = p.text :: r)) := by
  have hf := okK_facts h
  have hw := held_facts2 h
  have ha := asc_of (held_facts h).1
  have hm := mnI_le (l.got + 4) l.sent
  unfold takeF
  rw [if_pos h]
  split
  · rename_i hin
    simp only [wi, Bool.and_eq_true, decide_eq_true_eq] at hin
    split
    · rename_i hgt
      obtain ⟨h1, h2⟩ := holdF_asc p ha
      refine ⟨okK_of (l := { l with held := holdF p l.held }) (by simp only; omega) (by simp only; omega) (by simp only; omega) (by simp only; omega) (by simp only; omega) (by simp only; omega) h1 fun q hq => ?_, by simp, .inl rfl⟩
      rcases h2 q hq with rfl | hq'
      · simp only; omega
      · exact hw q hq'
    · rename_i hle
      obtain ⟨h1, h2, h3⟩ := popF_asc (g := l.got + 1) (S := l.sent) ha (fun q hq => by have := hw q hq; omega) (by omega)
      have h4 := popF_facts l.held (l.got + 1)
      have hm2 := mnI_le ((popF (l.got + 1) l.held).2.1 + 4) l.sent
      refine ⟨okK_of (l := (upL l p).1) (by simp only [upL]; omega) (by simp only [upL]; omega) (by simp only [upL]; omega) (by simp only [upL]; omega) (by simp only [upL]; omega) (by simp only [upL]; omega) h1 fun q hq => ?_, ?_, .inr ⟨by omega, _, rfl⟩⟩
      · have h5 := h2 q hq
        have h6 := hw q h5.2
        simp only [upL]
        omega
      · simp only [upL, List.length_cons]; omega
  · exact ⟨h, by simp, .inl rfl⟩
/-- what lies below is not taken -/
theorem takeF_below {l : Lk} (h : okK l = true) {p : Pc} (hp : p.no < l.got) : (takeF l p).2 = [] := by
  unfold takeF
  rw [if_pos h, if_neg]
  simp only [wi, Bool.and_eq_true, decide_eq_true_eq]
  omega
end Go.Eng
/-! a call and its results, taken in one step -/
namespace Go.Eng
open Go.Proofs
theorem oc_s_LinkTake {ds : List D} {v8 : Int} {v11 : Int} {v14 : List D} {v17 : Int} {v20 : List D} {v23 : List D} (h : V 15 ds = some (.tup [.agg [.int .i64 v8, .int .i64 v11, .os (1, 0) v14, .int .i64 v17, .os (2, 0) v20], .os (1, 0) v23], [])) (K : Int → Int → List D → Int → List D → List D → Option Ret) : ocall V 15 ds (fun v0 v1 => asTup v0 fun v2 => unc v2 fun v3 v4 => asAgg v3 fun v5 => unc v5 fun v6 v7 => asI .i64 v6 fun v8 => unc v7 fun v9 v10 => asI .i64 v9 fun v11 => unc v10 fun v12 v13 => asOs (1, 0) v12 fun v14 => unc v13 fun v15 v16 => asI .i64 v15 fun v17 => unc v16 fun v18 v19 => asOs (2, 0) v18 fun v20 => unn v19 (unc v4 fun v21 v22 => asOs (1, 0) v21 fun v23 => unn v22 (unn v1 ((K v8 v11 v14 v17 v20 v23))))) = K v8 v11 v14 v17 v20 v23 := (ocall_some h _).trans rfl
theorem oc_i_LinkTake {ds : List D} {v8 : Int} {v11 : Int} {v14 : List D} {v17 : Int} {v20 : List D} {v23 : List D} (h : V 11 ds = some (.tup [.agg [.int .i64 v8, .int .i64 v11, .os (1, 0) v14, .int .i64 v17, .os (2, 0) v20], .os (1, 0) v23], [])) (K : Int → Int → List D → Int → List D → List D → Option Ret) : ocall V 11 ds (fun v0 v1 => asTup v0 fun v2 => unc v2 fun v3 v4 => asAgg v3 fun v5 => unc v5 fun v6 v7 => asI .i64 v6 fun v8 => unc v7 fun v9 v10 => asI .i64 v9 fun v11 => unc v10 fun v12 v13 => asOs (1, 0) v12 fun v14 => unc v13 fun v15 v16 => asI .i64 v15 fun v17 => unc v16 fun v18 v19 => asOs (2, 0) v18 fun v20 => unn v19 (unc v4 fun v21 v22 => asOs (1, 0) v21 fun v23 => unn v22 (unn v1 ((K v8 v11 v14 v17 v20 v23))))) = K v8 v11 v14 v17 v20 v23 := (ocall_some h _).trans rfl
theorem oc_i_LinkOk {ds : List D} {v2 : Bool} (h : V 17 ds = some (.bool v2, [])) (K : Bool → Option Ret) : ocall V 17 ds (fun v0 v1 => asB v0 fun v2 => unn v1 ((K v2))) = K v2 := (ocall_some h _).trans rfl
theorem oc_s_l1Below {ds : List D} {v2 : Int} {v8 : List D} {v11 : Int} {v14 : Int} (h : V 37 ds = some (.int .i64 v2, [.op [.rs (1, 0) v8, .int .i64 v11, .int .i64 v14]])) (K : Int → List D → Int → Int → Option Ret) : ocall V 37 ds (fun v0 v1 => asI .i64 v0 fun v2 => unc v1 fun v3 v4 => asOp v3 fun v5 => unc v5 fun v6 v7 => asRs (1, 0) v6 fun v8 => unc v7 fun v9 v10 => asI .i64 v9 fun v11 => unc v10 fun v12 v13 => asI .i64 v12 fun v14 => unn v13 (unn v4 ((K v2 v8 v11 v14)))) = K v2 v8 v11 v14 := (ocall_some h _).trans rfl
theorem oc_s_l1Pick {ds : List D} {v2 : ByteArray} {v8 : List D} {v11 : Int} {v14 : Int} (h : V 38 ds = some (.str v2, [.op [.rs (1, 0) v8, .int .i64 v11, .int .i64 v14]])) (K : ByteArray → List D → Int → Int → Option Ret) : ocall V 38 ds (fun v0 v1 => asS v0 fun v2 => unc v1 fun v3 v4 => asOp v3 fun v5 => unc v5 fun v6 v7 => asRs (1, 0) v6 fun v8 => unc v7 fun v9 v10 => asI .i64 v9 fun v11 => unc v10 fun v12 v13 => asI .i64 v12 fun v14 => unn v13 (unn v4 ((K v2 v8 v11 v14)))) = K v2 v8 v11 v14 := (ocall_some h _).trans rfl
theorem oc_s_LinkSend {ds : List D} {v8 : Int} {v11 : Int} {v14 : List D} {v17 : Int} {v20 : List D} {v23 : Bool} (h : V 58 ds = some (.tup [.agg [.int .i64 v8, .int .i64 v11, .os (1, 0) v14, .int .i64 v17, .os (2, 0) v20], .bool v23], [])) (K : Int → Int → List D → Int → List D → Bool → Option Ret) : ocall V 58 ds (fun v0 v1 => asTup v0 fun v2 => unc v2 fun v3 v4 => asAgg v3 fun v5 => unc v5 fun v6 v7 => asI .i64 v6 fun v8 => unc v7 fun v9 v10 => asI .i64 v9 fun v11 => unc v10 fun v12 v13 => asOs (1, 0) v12 fun v14 => unc v13 fun v15 v16 => asI .i64 v15 fun v17 => unc v16 fun v18 v19 => asOs (2, 0) v18 fun v20 => unn v19 (unc v4 fun v21 v22 => asB v21 fun v23 => unn v22 (unn v1 ((K v8 v11 v14 v17 v20 v23))))) = K v8 v11 v14 v17 v20 v23 := (ocall_some h _).trans rfl
theorem oc_s_LinkAck {ds : List D} {v8 : Int} {v11 : Int} {v14 : List D} {v17 : Int} {v20 : List D} {v23 : Bool} (h : V 59 ds = some (.tup [.agg [.int .i64 v8, .int .i64 v11, .os (1, 0) v14, .int .i64 v17, .os (2, 0) v20], .bool v23], [])) (K : Int → Int → List D → Int → List D → Bool → Option Ret) : ocall V 59 ds (fun v0 v1 => asTup v0 fun v2 => unc v2 fun v3 v4 => asAgg v3 fun v5 => unc v5 fun v6 v7 => asI .i64 v6 fun v8 => unc v7 fun v9 v10 => asI .i64 v9 fun v11 => unc v10 fun v12 v13 => asOs (1, 0) v12 fun v14 => unc v13 fun v15 v16 => asI .i64 v15 fun v17 => unc v16 fun v18 v19 => asOs (2, 0) v18 fun v20 => unn v19 (unc v4 fun v21 v22 => asB v21 fun v23 => unn v22 (unn v1 ((K v8 v11 v14 v17 v20 v23))))) = K v8 v11 v14 v17 v20 v23 := (ocall_some h _).trans rfl
theorem oc_s_LinkOk {ds : List D} {v2 : Bool} (h : V 16 ds = some (.bool v2, [])) (K : Bool → Option Ret) : ocall V 16 ds (fun v0 v1 => asB v0 fun v2 => unn v1 ((K v2))) = K v2 := (ocall_some h _).trans rfl
theorem oc_s_l1New {ds : List D} {v5 : List D} {v8 : Int} {v11 : Int} (h : V 35 ds = some (.op [.rs (1, 0) v5, .int .i64 v8, .int .i64 v11], [])) (K : List D → Int → Int → Option Ret) : ocall V 35 ds (fun v0 v1 => asOp v0 fun v2 => unc v2 fun v3 v4 => asRs (1, 0) v3 fun v5 => unc v4 fun v6 v7 => asI .i64 v6 fun v8 => unc v7 fun v9 v10 => asI .i64 v9 fun v11 => unn v10 (unn v1 ((K v5 v8 v11)))) = K v5 v8 v11 := (ocall_some h _).trans rfl
theorem oc_s_l10Draw {ds : List D} {v5 : Int} {v8 : Int} {v11 : List D} {v14 : Int} {v17 : List D} {v23 : List D} {v26 : Int} {v29 : Int} (h : V 36 ds = some (.agg [.int .i64 v5, .int .i64 v8, .os (1, 0) v11, .int .i64 v14, .os (2, 0) v17], [.op [.rs (1, 0) v23, .int .i64 v26, .int .i64 v29]])) (K : Int → Int → List D → Int → List D → List D → Int → Int → Option Ret) : ocall V 36 ds (fun v0 v1 => asAgg v0 fun v2 => unc v2 fun v3 v4 => asI .i64 v3 fun v5 => unc v4 fun v6 v7 => asI .i64 v6 fun v8 => unc v7 fun v9 v10 => asOs (1, 0) v9 fun v11 => unc v10 fun v12 v13 => asI .i64 v12 fun v14 => unc v13 fun v15 v16 => asOs (2, 0) v15 fun v17 => unn v16 (unc v1 fun v18 v19 => asOp v18 fun v20 => unc v20 fun v21 v22 => asRs (1, 0) v21 fun v23 => unc v22 fun v24 v25 => asI .i64 v24 fun v26 => unc v25 fun v27 v28 => asI .i64 v27 fun v29 => unn v28 (unn v19 ((K v5 v8 v11 v14 v17 v23 v26 v29))))) = K v5 v8 v11 v14 v17 v23 v26 v29 := (ocall_some h _).trans rfl
theorem oc_w_big {ds : List D} {v2 : Bool} (h : V 6 ds = some (.bool v2, [])) (K : Bool → Option Ret) : ocall V 6 ds (fun v0 v1 => asB v0 fun v2 => unn v1 ((K v2))) = K v2 := (ocall_some h _).trans rfl
theorem oc_s_DrawLinkTake {ds : List D} {v8 : Int} {v11 : Int} {v14 : List D} {v17 : Int} {v20 : List D} {v26 : Int} {v29 : ByteArray} (h : V 14 ds = some (.tup [.agg [.int .i64 v8, .int .i64 v11, .os (1, 0) v14, .int .i64 v17, .os (2, 0) v20], .agg [.int .i64 v26, .str v29]], [])) (K : Int → Int → List D → Int → List D → Int → ByteArray → Option Ret) : ocall V 14 ds (fun v0 v1 => asTup v0 fun v2 => unc v2 fun v3 v4 => asAgg v3 fun v5 => unc v5 fun v6 v7 => asI .i64 v6 fun v8 => unc v7 fun v9 v10 => asI .i64 v9 fun v11 => unc v10 fun v12 v13 => asAs (1, 0) v12 fun v14 => unc v13 fun v15 v16 => asI .i64 v15 fun v17 => unc v16 fun v18 v19 => asAs (2, 0) v18 fun v20 => unn v19 (unc v4 fun v21 v22 => asAgg v21 fun v23 => unc v23 fun v24 v25 => asI .i64 v24 fun v26 => unc v25 fun v27 v28 => asS v27 fun v29 => unn v28 (unn v22 (unn v1 ((K v8 v11 v14 v17 v20 v26 v29)))))) = K v8 v11 v14 v17 v20 v26 v29 := (ocall_some h _).trans rfl
theorem oc_w_sameTexts {ds : List D} {v2 : Bool} (h : V 13 ds = some (.bool v2, [])) (K : Bool → Option Ret) : ocall V 13 ds (fun v0 v1 => asB v0 fun v2 => unn v1 ((K v2))) = K v2 := (ocall_some h _).trans rfl
theorem oc_s_l10DrawRight {ds : List D} {v5 : Int} {v8 : Int} {v11 : List D} {v14 : Int} {v17 : List D} {v23 : List D} {v26 : Int} {v29 : Int} (h : V 53 ds = some (.agg [.int .i64 v5, .int .i64 v8, .os (1, 0) v11, .int .i64 v14, .os (2, 0) v17], [.op [.rs (1, 0) v23, .int .i64 v26, .int .i64 v29]])) (K : Int → Int → List D → Int → List D → List D → Int → Int → Option Ret) : ocall V 53 ds (fun v0 v1 => asAgg v0 fun v2 => unc v2 fun v3 v4 => asI .i64 v3 fun v5 => unc v4 fun v6 v7 => asI .i64 v6 fun v8 => unc v7 fun v9 v10 => asOs (1, 0) v9 fun v11 => unc v10 fun v12 v13 => asI .i64 v12 fun v14 => unc v13 fun v15 v16 => asOs (2, 0) v15 fun v17 => unn v16 (unc v1 fun v18 v19 => asOp v18 fun v20 => unc v20 fun v21 v22 => asRs (1, 0) v21 fun v23 => unc v22 fun v24 v25 => asI .i64 v24 fun v26 => unc v25 fun v27 v28 => asI .i64 v27 fun v29 => unn v28 (unn v19 ((K v5 v8 v11 v14 v17 v23 v26 v29))))) = K v5 v8 v11 v14 v17 v23 v26 v29 := (ocall_some h _).trans rfl
theorem oc_s_l1PickInt {ds : List D} {v2 : Int} {v8 : List D} {v11 : Int} {v14 : Int} (h : V 54 ds = some (.int .i64 v2, [.op [.rs (1, 0) v8, .int .i64 v11, .int .i64 v14]])) (K : Int → List D → Int → Int → Option Ret) : ocall V 54 ds (fun v0 v1 => asI .i64 v0 fun v2 => unc v1 fun v3 v4 => asOp v3 fun v5 => unc v5 fun v6 v7 => asRs (1, 0) v6 fun v8 => unc v7 fun v9 v10 => asI .i64 v9 fun v11 => unc v10 fun v12 v13 => asI .i64 v12 fun v14 => unn v13 (unn v4 ((K v2 v8 v11 v14)))) = K v2 v8 v11 v14 := (ocall_some h _).trans rfl
theorem oc_s_l1Byte {ds : List D} {v2 : Int} {v8 : List D} {v11 : Int} {v14 : Int} (h : V 55 ds = some (.int .i64 v2, [.op [.rs (1, 0) v8, .int .i64 v11, .int .i64 v14]])) (K : Int → List D → Int → Int → Option Ret) : ocall V 55 ds (fun v0 v1 => asI .i64 v0 fun v2 => unc v1 fun v3 v4 => asOp v3 fun v5 => unc v5 fun v6 v7 => asRs (1, 0) v6 fun v8 => unc v7 fun v9 v10 => asI .i64 v9 fun v11 => unc v10 fun v12 v13 => asI .i64 v12 fun v14 => unn v13 (unn v4 ((K v2 v8 v11 v14)))) = K v2 v8 v11 v14 := (ocall_some h _).trans rfl
end Go.Eng
/-! what is drawn: the cursor -/
namespace Go.Eng
open Go.Proofs Go.Proofs.Try

noncomputable def eB (x : Int) : D := .int .u8 x
noncomputable abbrev eC (b : List Int) (c : Int × Int) : D := .op [.rs (1, 0) (b.map eB), .int .i64 c.1, .int .i64 c.2]
noncomputable def CurOk (b : List Int) (c : Int × Int) : Prop := 0 ≤ c.1 ∧ c.1 ≤ b.length
theorem and255 (x : Int) : 0 ≤ IntKind.wrap IntKind.i64 (ni (BitVec.toNat (BitVec.ofInt (IntKind.bits IntKind.i64) x &&& BitVec.ofInt (IntKind.bits IntKind.i64) 255))) ∧ IntKind.wrap IntKind.i64 (ni (BitVec.toNat (BitVec.ofInt (IntKind.bits IntKind.i64) x &&& BitVec.ofInt (IntKind.bits IntKind.i64) 255))) ≤ 255 := by
  have h : BitVec.toNat (BitVec.ofInt (IntKind.bits IntKind.i64) x &&& BitVec.ofInt (IntKind.bits IntKind.i64) 255) ≤ 255 := by
    rw [BitVec.toNat_and]
    exact Nat.le_trans Nat.and_le_right (by decide)
  rw [w64 (by simp only [ni]; omega) (by simp only [ni]; omega)]
  simp only [ni]; omega

section
variable {b : List Int} {c : Int × Int}
theorem cur_byte (hb : b.length < 4611686018427387904) (h : CurOk b c) : ∃ v c', V 55 [eC b c] = some (.int .i64 v, [eC b c']) ∧ CurOk b c' ∧ 0 ≤ v ∧ v ≤ 255 := by
  obtain ⟨h1, h2⟩ := h
  rw [espec_l1Byte, grd_of (by decide), grd_of (by decide)]
  by_cases hi : c.1 < b.length
  · obtain ⟨k, hk⟩ := Int.eq_ofNat_of_zero_le h1
    obtain ⟨x, hx⟩ := get_of_lt (l := b) (i := k) (by omega)
    rw [hk]
    rw [br_of (by rw [List.length_map]; exact lt_idx (by omega)), grd_of (by rw [List.length_map]; exact in_idx (by omega)), Int.toNat_natCast, oget_map hx]
    unfold eB
    rw [asI_int]
    refine ⟨_, (_, _), rfl, ⟨?_, ?_⟩, (and255 _).1, (and255 _).2⟩
    · show 0 ≤ IntKind.wrap IntKind.i64 ((k : Int) + 1)
      rw [w64 (by omega) (by omega)]; omega
    · show IntKind.wrap IntKind.i64 ((k : Int) + 1) ≤ _
      rw [w64 (by omega) (by omega)]; omega
  · rw [br_not (decide_eq_false (by simp only [ni, List.length_map]; omega))]
    exact ⟨_, (c.1, IntKind.wrap .i64 (IntKind.wrap .i64 (c.2 * 6364136223846793005) + 1442695040888963407)), rfl, ⟨h1, h2⟩, (and255 _).1, (and255 _).2⟩

theorem cur_below (hb : b.length < 4611686018427387904) (h : CurOk b c) (n : Int) : ∃ v c', V 37 [eC b c, .int .i64 n] = some (.int .i64 v, [eC b c']) ∧ CurOk b c' ∧ 0 ≤ v ∧ (0 < n → v < n) := by
  rw [espec_l1Below]
  by_cases hn : n ≤ 0
  · rw [br_of (by simpa using hn)]
    exact ⟨_, c, rfl, h, by omega, by omega⟩
  rw [br_not (by simpa using hn)]
  by_cases h256 : n ≤ 256
  · rw [br_of (by simpa using h256)]
    obtain ⟨v, c1, hv, h1, hv1, hv2⟩ := cur_byte hb h
    rw [oc_s_l1Byte hv]
    try simp only [asI_int, asB_bool, asS_str, asOs_os, asRs_rs, asAgg_agg, asTup_tup, asOp_op, unc_cons, unn_nil, nam_eq]
    rw [grd_of (by simp; omega)]
    exact ⟨_, c1, rfl, h1, Int.tmod_nonneg _ hv1, fun _ => Int.tmod_lt_of_pos _ (by omega)⟩
  · rw [br_not (by simpa using h256)]
    obtain ⟨v1, c1, hv1, a1, b1⟩ := cur_byte hb h
    obtain ⟨v2, c2, hv2, a2, b2⟩ := cur_byte hb a1
    obtain ⟨v3, c3, hv3, a3, b3⟩ := cur_byte hb a2
    obtain ⟨v4, c4, hv4, a4, b4⟩ := cur_byte hb a3
    rw [oc_s_l1Byte hv1, oc_s_l1Byte hv2, oc_s_l1Byte hv3, oc_s_l1Byte hv4]
    try simp only [asI_int, asB_bool, asS_str, asOs_os, asRs_rs, asAgg_agg, asTup_tup, asOp_op, unc_cons, unn_nil, nam_eq]
    rw [grd_of (by simp; omega)]
    refine ⟨_, c4, rfl, a4, Int.tmod_nonneg _ ?_, fun _ => Int.tmod_lt_of_pos _ (by omega)⟩
    rw [w64 (n := v1 * 16777216) (by omega) (by omega), w64 (n := v2 * 65536) (by omega) (by omega), w64 (n := v3 * 256) (by omega) (by omega)]
    rw [w64 (n := v1 * 16777216 + v2 * 65536) (by omega) (by omega), w64 (n := v1 * 16777216 + v2 * 65536 + v3 * 256) (by omega) (by omega), w64 (by omega) (by omega)]
    omega

theorem cur_pickInt (hb : b.length < 4611686018427387904) (h : CurOk b c) {l : List Int} (hl : 0 < l.length) : ∃ v c', V 54 [eC b c, .rs (1, 0) (l.map (D.int .i64))] = some (.int .i64 v, [eC b c']) ∧ CurOk b c' ∧ v ∈ l := by
  obtain ⟨v, c1, hv, a1, b1, b2⟩ := cur_below hb h (ni (l.map (D.int .i64)).length)
  rw [espec_l1PickInt, oc_s_l1Below hv]
  try simp only [asI_int, asB_bool, asS_str, asOs_os, asRs_rs, asAgg_agg, asTup_tup, asOp_op, unc_cons, unn_nil, nam_eq]
  simp only [ni, List.length_map] at b2
  obtain ⟨k, rfl⟩ := Int.eq_ofNat_of_zero_le b1
  have hk : k < l.length := by have := b2 (by omega); omega
  obtain ⟨x, hx⟩ := get_of_lt hk
  rw [grd_of (by rw [List.length_map]; exact in_idx hk), Int.toNat_natCast, oget_map hx, asI_int]
  exact ⟨_, c1, rfl, a1, List.mem_of_getElem? hx⟩

theorem cur_pick (hb : b.length < 4611686018427387904) (h : CurOk b c) {l : List ByteArray} (hl : 0 < l.length) : ∃ v c', V 38 [eC b c, .rs (1, 0) (l.map D.str)] = some (.str v, [eC b c']) ∧ CurOk b c' ∧ v ∈ l := by
  obtain ⟨v, c1, hv, a1, b1, b2⟩ := cur_below hb h (ni (l.map D.str).length)
  rw [espec_l1Pick, oc_s_l1Below hv]
  try simp only [asI_int, asB_bool, asS_str, asOs_os, asRs_rs, asAgg_agg, asTup_tup, asOp_op, unc_cons, unn_nil, nam_eq]
  simp only [ni, List.length_map] at b2
  obtain ⟨k, rfl⟩ := Int.eq_ofNat_of_zero_le b1
  have hk : k < l.length := by have := b2 (by omega); omega
  obtain ⟨x, hx⟩ := get_of_lt hk
  rw [grd_of (by rw [List.length_map]; exact in_idx hk), Int.toNat_natCast, oget_map hx, asS_str]
  exact ⟨_, c1, rfl, a1, List.mem_of_getElem? hx⟩

theorem new_loop (hb : b.length < 4611686018427387904) : ∀ (k i : Nat) (h : Int), i + k = b.length → ∃ h', Lspec_l1New_3 (b.map eB) h (i : Int) = some (eC b (0, h'), [])
  | 0, i, h, hi => by
    rw [Lspec_l1New_3_eq, br_not (by rw [List.length_map]; exact ge_idx (by omega))]
    exact ⟨_, rfl⟩
  | k + 1, i, h, hi => by
    obtain ⟨x, hx⟩ := get_of_lt (l := b) (i := i) (by omega)
    rw [Lspec_l1New_3_eq, br_of (by rw [List.length_map]; exact lt_idx (by omega)), grd_of (by rw [List.length_map]; exact in_idx (by omega)), Int.toNat_natCast, oget_map hx]
    cases h4 : decide ((i : Int) < 4000) with
    | false => exact ⟨_, rfl⟩
    | true =>
      unfold eB
      rw [br_true, asI_int, w64s (by omega)]
      exact new_loop hb k (i + 1) _ (by omega)
theorem cur_new (hb : b.length < 4611686018427387904) : ∃ c, V 35 [.rs (1, 0) (b.map eB)] = some (eC b c, []) ∧ CurOk b c := by
  rw [espec_l1New]
  obtain ⟨h', he⟩ := new_loop hb b.length 0 (IntKind.wrap IntKind.i64 (17000 + ni (List.length (b.map eB)))) (by omega)
  exact ⟨(0, h'), he, Int.le_refl _, Int.natCast_nonneg _⟩
end
theorem v_big (b : List Int) : V 6 [.rs (1, 0) (b.map eB)] = some (.bool (decide ((b.length : Int) > 1048576)), []) := by
  rw [elaws_big, List.length_map]
set_option maxRecDepth 100000 in
/-- a draw's code -/
theorem arg_code {x : D} (h : ShapeV prog 22 x) : ∃ b : List Int, x = .rs (1, 0) (b.map eB) ∧ b.length < 4611686018427387904 := by
  obtain ⟨ys, hs, rfl⟩ := h
  obtain ⟨bs, rfl, h1, h2⟩ := hs.slice Try.underlying22 (show zOf prog 5 = some (1, 0) by kernel_rfl)
  obtain ⟨l, rfl, -⟩ := listOf_all (enc := eB) (p := fun _ => True) (ys := bs) (fun x hx => by
    obtain ⟨ps, hs, rfl⟩ := h2 x hx
    obtain ⟨n, rfl, _⟩ := hs.int Try.underlying5
    exact ⟨n, elemOf_int Try.underlying5, trivial⟩)
  have hby : prog.bytesOf 5 = 1 := by kernel_rfl
  have hr : reachBytes = 140737488351232 := rfl
  rw [hby, List.length_map] at h1
  exact ⟨l, by rw [elemOf_slice Try.underlying22], by omega⟩
end Go.Eng
/-! what is drawn: links -/
namespace Go.Eng
open Go.Proofs Go.Proofs.Try

theorem sendF_bound (s : ByteArray) (l : Lk) : (sendF s l).1.queue.length ≤ l.queue.length + 1 ∧ (sendF s l).1.held.length ≤ l.held.length ∧ ((sendF s l).1.got = l.got ∨ (sendF s l).1.got = 0) := by
  unfold sendF
  split
  · split <;> simp [sendL]
  · simp [zK]
theorem ackF_bound (n : Int) (l : Lk) : (ackF n l).1.queue.length ≤ l.queue.length ∧ (ackF n l).1.held.length ≤ l.held.length ∧ ((ackF n l).1.got = l.got ∨ (ackF n l).1.got = 0) := by
  unfold ackF
  split
  · split <;> simp [ackL]
  · simp [zK]
theorem takeF_bound (l : Lk) (p : Pc) (h0 : 0 ≤ l.got) : (takeF l p).1.queue.length ≤ l.queue.length ∧ (takeF l p).1.held.length ≤ l.held.length + 1 ∧ 0 ≤ (takeF l p).1.got ∧ (takeF l p).1.got ≤ l.got + 1 + l.held.length := by
  have h1 := holdF_length p l.held
  have h2 := popF_facts l.held (l.got + 1)
  unfold takeF
  split
  · split
    · split
      · simp; omega
      · simp [upL]; omega
    · simp; omega
  · simp [zK]; omega

theorem draw_v1 {b : List Int} (hb : b.length < 4611686018427387904) (n : Nat) (hn : n ≤ 22) : ∀ (k i : Nat) (l : Lk) (ss : List ByteArray) (c : Int × Int), i + k = n → CurOk b c → ss.length ≤ i → l.queue.length ≤ i → l.held.length ≤ i → 0 ≤ l.got → l.got ≤ 100 * i →
    ∃ l' c', Lspec_l10DrawRight_5v1 n i (b.map eB) c.1 c.2 0 0 0 l.sent l.acked l.got (ss.map .str) (l.queue.map .str) (l.held.map eP) = some (oK l', [eC b c']) ∧ CurOk b c' ∧ l'.queue.length ≤ 22 ∧ l'.held.length ≤ 22 ∧ 0 ≤ l'.got ∧ l'.got ≤ 2200
  | 0, i, l, ss, c, hi, hc, hs, hq, hh, hg, hg2 => by
    rw [Lspec_l10DrawRight_5v1_eq, br_not (decide_eq_false (by omega))]
    exact ⟨l, c, rfl, hc, by omega, by omega, by omega, by omega⟩
  | k + 1, i, l, ss, c, hi, hc, hs, hq, hh, hg, hg2 => by
    obtain ⟨r, c1, h1, a1, -, -⟩ := cur_below hb hc 4
    rw [Lspec_l10DrawRight_5v1_eq, br_of (decide_eq_true (by omega)), oc_s_l1Below h1]
    by_cases r0 : r = 0
    · rw [br_of (by simp [r0]), br_of (by simp [r0])]
      obtain ⟨s, c2, h2, a2, -⟩ := cur_pick hb a1 (l := [⟨#[97]⟩, ⟨#[98]⟩, ⟨#[]⟩, ⟨#[99, 99]⟩]) (by simp)
      simp only [List.map_cons, List.map_nil] at h2
      have h3 := v_spec_send (l := l) (by (try simp only [List.length_nil]); omega) (by (try simp only [List.length_nil]); omega) s
      have h4 := sendF_bound s l
      unfold eK at h3
      unfold oK at h3
      try simp only [List.map_nil] at h3
      rw [oc_s_l1Pick h2, oc_s_LinkSend h3]
      have hlim : decide (ni (ss.map D.str ++ [D.str s]).length ≤ LIM) = true := decide_eq_true (by simp only [ni, LIM_eq, List.length_append, List.length_map, List.length_cons, List.length_nil]; omega)
      have hmap : ss.map D.str ++ [D.str s] = (ss ++ [s]).map D.str := by simp
      try simp only [List.length_nil] at h4
      cases hok : (sendF s l).2 with
      | true =>
        rw [br_true, grd_of hlim, nam_eq, hmap, w64s (by omega)]
        exact draw_v1 hb n hn k (i + 1) (sendF s l).1 (ss ++ [s]) c2 (by omega) a2 (by simp; omega) (by omega) (by omega) (by omega) (by omega)
      | false =>
        rw [br_false, w64s (by omega)]
        exact draw_v1 hb n hn k (i + 1) l ss c2 (by omega) a2 (by omega) (by omega) (by omega) (by omega) (by omega)
    by_cases r1 : r = 1
    · rw [br_not (by simp [r0]), br_of (by simp [r1])]
      obtain ⟨s, c2, h2, a2, -⟩ := cur_pick hb a1 (l := [⟨#[97]⟩, ⟨#[98]⟩, ⟨#[]⟩, ⟨#[99, 99]⟩]) (by simp)
      simp only [List.map_cons, List.map_nil] at h2
      have h3 := v_spec_send (l := l) (by (try simp only [List.length_nil]); omega) (by (try simp only [List.length_nil]); omega) s
      have h4 := sendF_bound s l
      unfold eK at h3
      unfold oK at h3
      try simp only [List.map_nil] at h3
      rw [oc_s_l1Pick h2, oc_s_LinkSend h3]
      have hlim : decide (ni (ss.map D.str ++ [D.str s]).length ≤ LIM) = true := decide_eq_true (by simp only [ni, LIM_eq, List.length_append, List.length_map, List.length_cons, List.length_nil]; omega)
      have hmap : ss.map D.str ++ [D.str s] = (ss ++ [s]).map D.str := by simp
      try simp only [List.length_nil] at h4
      cases hok : (sendF s l).2 with
      | true =>
        rw [br_true, grd_of hlim, nam_eq, hmap, w64s (by omega)]
        exact draw_v1 hb n hn k (i + 1) (sendF s l).1 (ss ++ [s]) c2 (by omega) a2 (by simp; omega) (by omega) (by omega) (by omega) (by omega)
      | false =>
        rw [br_false, w64s (by omega)]
        exact draw_v1 hb n hn k (i + 1) l ss c2 (by omega) a2 (by omega) (by omega) (by omega) (by omega) (by omega)
    by_cases r2 : r = 2
    · rw [br_not (by simp [r0]), br_not (by simp [r1]), br_of (by simp [r2])]
      obtain ⟨m, c2, h2, a2, m1, m2⟩ := cur_below hb a1 4
      rw [oc_s_l1Below h2, w64 (by omega) (by omega)]
      by_cases hm : l.got + m < ss.length
      · obtain ⟨j, hj⟩ := Int.eq_ofNat_of_zero_le (show 0 ≤ l.got + m by (try simp only [List.length_nil]); omega)
        obtain ⟨x, hx⟩ := get_of_lt (l := ss) (i := j) (by (try simp only [List.length_nil] at hj hm); omega)
        have h3 := v_spec_take (l := l) (by (try simp only [List.length_nil]); omega) (by (try simp only [List.length_nil]); omega) ⟨l.got + m, x⟩
        have h4 := takeF_bound l ⟨l.got + m, x⟩ (by (try simp only [List.length_nil]); omega)
        unfold eK at h3
        unfold oK at h3
        try simp only [] at h3
        try simp only [List.length_nil] at hj hm h3 h4
        rw [br_of (by simp only [ni, List.length_map, decide_eq_true_eq]; omega), hj, grd_of (by rw [List.length_map]; exact in_idx (by omega)), Int.toNat_natCast, oget_map hx, asS_str, ← hj, oc_s_LinkTake h3, w64s (by omega)]
        exact draw_v1 hb n hn k (i + 1) (takeF l ⟨l.got + m, x⟩).1 ss c2 (by omega) a2 (by (try simp only [List.length_nil]); omega) (by (try simp only [List.length_nil]); omega) (by (try simp only [List.length_nil]); omega) (by (try simp only [List.length_nil]); omega) (by (try simp only [List.length_nil]); omega)
      · try simp only [List.length_nil] at hm
        rw [br_not (by simp only [ni, List.length_map, decide_eq_false_iff_not]; omega), w64s (by omega)]
        exact draw_v1 hb n hn k (i + 1) l ss c2 (by omega) a2 (by omega) (by omega) (by omega) (by omega) (by omega)
    · rw [br_not (by simp [r0]), br_not (by simp [r1]), br_not (by simp [r2])]
      obtain ⟨m, c2, h2, a2, m1, m2⟩ := cur_below hb a1 2
      rw [oc_s_l1Below h2]
      have h3 := v_spec_ack (l := l) (by (try simp only [List.length_nil]); omega) (by (try simp only [List.length_nil]); omega) (IntKind.wrap .i64 (l.got - m))
      have h4 := ackF_bound (IntKind.wrap .i64 (l.got - m)) l
      unfold eK at h3
      unfold oK at h3
      try simp only [List.map_nil] at h3
      try simp only [List.length_nil] at h3 h4
      rw [oc_s_LinkAck h3, w64s (by omega)]
      exact draw_v1 hb n hn k (i + 1) (ackF (IntKind.wrap .i64 (l.got - m)) l).1 ss c2 (by omega) a2 (by omega) (by (try simp only [List.length_nil]); omega) (by (try simp only [List.length_nil]); omega) (by (try simp only [List.length_nil]); omega) (by (try simp only [List.length_nil]); omega)
theorem draw_v0 {b : List Int} (hb : b.length < 4611686018427387904) (n : Nat) (hn : n ≤ 22) : ∀ (k i : Nat) (ss : List ByteArray) (c : Int × Int), i + k = n → CurOk b c → ss.length ≤ i →
    ∃ l' c', Lspec_l10DrawRight_5 n i (b.map eB) c.1 c.2 0 0 0 0 0 0 (ss.map .str) = some (oK l', [eC b c']) ∧ CurOk b c' ∧ l'.queue.length ≤ 22 ∧ l'.held.length ≤ 22 ∧ 0 ≤ l'.got ∧ l'.got ≤ 2200
  | 0, i, ss, c, hi, hc, hs => by
    rw [Lspec_l10DrawRight_5_eq, br_not (decide_eq_false (by omega))]
    exact ⟨zK, c, rfl, hc, by simp [zK], by simp [zK], by simp [zK], by simp [zK]⟩
  | k + 1, i, ss, c, hi, hc, hs => by
    have hzk : zK.queue.length = 0 ∧ zK.held.length = 0 ∧ zK.got = 0 := ⟨rfl, rfl, rfl⟩
    obtain ⟨r, c1, h1, a1, -, -⟩ := cur_below hb hc 4
    rw [Lspec_l10DrawRight_5_eq, br_of (decide_eq_true (by omega)), oc_s_l1Below h1]
    by_cases r0 : r = 0
    · rw [br_of (by simp [r0]), br_of (by simp [r0])]
      obtain ⟨s, c2, h2, a2, -⟩ := cur_pick hb a1 (l := [⟨#[97]⟩, ⟨#[98]⟩, ⟨#[]⟩, ⟨#[99, 99]⟩]) (by simp)
      simp only [List.map_cons, List.map_nil] at h2
      have h3 := v_spec_send (l := (⟨0, 0, [], 0, []⟩ : Lk)) (by (try simp only [List.length_nil]); omega) (by (try simp only [List.length_nil]); omega) s
      have h4 := sendF_bound s (⟨0, 0, [], 0, []⟩ : Lk)
      unfold eK at h3
      unfold oK at h3
      try simp only [List.map_nil] at h3
      rw [oc_s_l1Pick h2, oc_s_LinkSend h3]
      have hlim : decide (ni (ss.map D.str ++ [D.str s]).length ≤ LIM) = true := decide_eq_true (by simp only [ni, LIM_eq, List.length_append, List.length_map, List.length_cons, List.length_nil]; omega)
      have hmap : ss.map D.str ++ [D.str s] = (ss ++ [s]).map D.str := by simp
      try simp only [List.length_nil] at h4
      cases hok : (sendF s (⟨0, 0, [], 0, []⟩ : Lk)).2 with
      | true =>
        rw [br_true, grd_of hlim, nam_eq, hmap, w64s (by omega)]
        exact draw_v1 hb n hn k (i + 1) (sendF s (⟨0, 0, [], 0, []⟩ : Lk)).1 (ss ++ [s]) c2 (by omega) a2 (by simp; omega) (by omega) (by omega) (by omega) (by omega)
      | false =>
        rw [br_false, w64s (by omega)]
        exact draw_v0 hb n hn k (i + 1) ss c2 (by omega) a2 (by omega)
    by_cases r1 : r = 1
    · rw [br_not (by simp [r0]), br_of (by simp [r1])]
      obtain ⟨s, c2, h2, a2, -⟩ := cur_pick hb a1 (l := [⟨#[97]⟩, ⟨#[98]⟩, ⟨#[]⟩, ⟨#[99, 99]⟩]) (by simp)
      simp only [List.map_cons, List.map_nil] at h2
      have h3 := v_spec_send (l := (⟨0, 0, [], 0, []⟩ : Lk)) (by (try simp only [List.length_nil]); omega) (by (try simp only [List.length_nil]); omega) s
      have h4 := sendF_bound s (⟨0, 0, [], 0, []⟩ : Lk)
      unfold eK at h3
      unfold oK at h3
      try simp only [List.map_nil] at h3
      rw [oc_s_l1Pick h2, oc_s_LinkSend h3]
      have hlim : decide (ni (ss.map D.str ++ [D.str s]).length ≤ LIM) = true := decide_eq_true (by simp only [ni, LIM_eq, List.length_append, List.length_map, List.length_cons, List.length_nil]; omega)
      have hmap : ss.map D.str ++ [D.str s] = (ss ++ [s]).map D.str := by simp
      try simp only [List.length_nil] at h4
      cases hok : (sendF s (⟨0, 0, [], 0, []⟩ : Lk)).2 with
      | true =>
        rw [br_true, grd_of hlim, nam_eq, hmap, w64s (by omega)]
        exact draw_v1 hb n hn k (i + 1) (sendF s (⟨0, 0, [], 0, []⟩ : Lk)).1 (ss ++ [s]) c2 (by omega) a2 (by simp; omega) (by omega) (by omega) (by omega) (by omega)
      | false =>
        rw [br_false, w64s (by omega)]
        exact draw_v0 hb n hn k (i + 1) ss c2 (by omega) a2 (by omega)
    by_cases r2 : r = 2
    · rw [br_not (by simp [r0]), br_not (by simp [r1]), br_of (by simp [r2])]
      obtain ⟨m, c2, h2, a2, m1, m2⟩ := cur_below hb a1 4
      rw [oc_s_l1Below h2, w64 (by omega) (by omega)]
      by_cases hm : (⟨0, 0, [], 0, []⟩ : Lk).got + m < ss.length
      · obtain ⟨j, hj⟩ := Int.eq_ofNat_of_zero_le (show 0 ≤ (⟨0, 0, [], 0, []⟩ : Lk).got + m by (try simp only []); omega)
        obtain ⟨x, hx⟩ := get_of_lt (l := ss) (i := j) (by (try simp only [] at hj hm); omega)
        have h3 := v_spec_take (l := (⟨0, 0, [], 0, []⟩ : Lk)) (by (try simp only [List.length_nil]); omega) (by (try simp only [List.length_nil]); omega) ⟨(⟨0, 0, [], 0, []⟩ : Lk).got + m, x⟩
        have h4 := takeF_bound (⟨0, 0, [], 0, []⟩ : Lk) ⟨(⟨0, 0, [], 0, []⟩ : Lk).got + m, x⟩ (by (try simp only []); omega)
        unfold eK at h3
        unfold oK at h3
        try simp only [List.map_nil] at h3
        try simp only [List.length_nil] at hj hm h3 h4
        rw [br_of (by simp only [ni, List.length_map, decide_eq_true_eq]; omega), hj, grd_of (by rw [List.length_map]; exact in_idx (by omega)), Int.toNat_natCast, oget_map hx, asS_str, ← hj, oc_s_LinkTake h3, w64s (by omega)]
        exact draw_v1 hb n hn k (i + 1) (takeF (⟨0, 0, [], 0, []⟩ : Lk) ⟨(⟨0, 0, [], 0, []⟩ : Lk).got + m, x⟩).1 ss c2 (by omega) a2 (by (try simp only [List.length_nil]); omega) (by (try simp only []); omega) (by (try simp only []); omega) (by (try simp only []); omega) (by (try simp only []); omega)
      · try simp only [] at hm
        rw [br_not (by simp only [ni, List.length_map, decide_eq_false_iff_not]; omega), w64s (by omega)]
        exact draw_v0 hb n hn k (i + 1) ss c2 (by omega) a2 (by omega)
    · rw [br_not (by simp [r0]), br_not (by simp [r1]), br_not (by simp [r2])]
      obtain ⟨m, c2, h2, a2, m1, m2⟩ := cur_below hb a1 2
      rw [oc_s_l1Below h2]
      have h3 := v_spec_ack (l := (⟨0, 0, [], 0, []⟩ : Lk)) (by (try simp only [List.length_nil]); omega) (by (try simp only [List.length_nil]); omega) (IntKind.wrap .i64 ((⟨0, 0, [], 0, []⟩ : Lk).got - m))
      have h4 := ackF_bound (IntKind.wrap .i64 ((⟨0, 0, [], 0, []⟩ : Lk).got - m)) (⟨0, 0, [], 0, []⟩ : Lk)
      unfold eK at h3
      unfold oK at h3
      try simp only [List.map_nil] at h3
      try simp only [List.length_nil] at h3 h4
      rw [oc_s_LinkAck h3, w64s (by omega)]
      exact draw_v1 hb n hn k (i + 1) (ackF (IntKind.wrap .i64 ((⟨0, 0, [], 0, []⟩ : Lk).got - m)) (⟨0, 0, [], 0, []⟩ : Lk)).1 ss c2 (by omega) a2 (by omega) (by (try simp only []); omega) (by (try simp only []); omega) (by (try simp only []); omega) (by (try simp only []); omega)
theorem draw_right {b : List Int} {c : Int × Int} (hb : b.length < 4611686018427387904) (h : CurOk b c) : ∃ l c', V 53 [eC b c] = some (oK l, [eC b c']) ∧ CurOk b c' ∧ l.queue.length ≤ 22 ∧ l.held.length ≤ 22 ∧ 0 ≤ l.got ∧ l.got ≤ 2200 := by
  obtain ⟨n, c1, h1, a1, n1, n2⟩ := cur_below hb h 22
  rw [espec_l10DrawRight, oc_s_l1Below h1]
  obtain ⟨k, rfl⟩ := Int.eq_ofNat_of_zero_le n1
  exact draw_v0 hb k (by have := n2 (by omega); omega) k 0 [] c1 (by omega) a1 (by simp)

/-- a link is drawn; its rows are short -/
theorem draw_link {b : List Int} {c : Int × Int} (hb : b.length < 4611686018427387904) (h : CurOk b c) : ∃ l c', V 36 [eC b c] = some (oK l, [eC b c']) ∧ CurOk b c' ∧ l.queue.length ≤ 31 ∧ l.held.length ≤ 23 := by
  obtain ⟨l, c1, h1, a1, q1, q2, q3, q4⟩ := draw_right hb h
  obtain ⟨n, c2, h2, a2, n1, n2⟩ := cur_below hb a1 20
  unfold oK at h1
  rw [espec_l10Draw, oc_s_l10DrawRight h1, oc_s_l1Below h2]
  by_cases e0 : n = 0
  · obtain ⟨m, c3, h3, a3, -⟩ := cur_pickInt hb a2 (l := [-1, IntKind.wrap .i64 (l.sent + 1), 100001]) (by simp)
    simp only [List.map_cons, List.map_nil] at h3
    rw [br_of (by simp [e0]), oc_s_l1PickInt h3]
    exact ⟨⟨m, l.acked, l.queue, l.got, l.held⟩, c3, rfl, a3, by (try simp only []); omega, by (try simp only []); omega⟩
  rw [br_not (by simp [e0])]
  by_cases e1 : n = 1
  · obtain ⟨m, c3, h3, a3, -⟩ := cur_below hb a2 9
    rw [br_of (by simp [e1]), oc_s_l1Below h3]
    exact ⟨⟨l.sent, l.acked, l.queue, IntKind.wrap .i64 (m - 1), l.held⟩, c3, rfl, a3, by (try simp only []); omega, by (try simp only []); omega⟩
  rw [br_not (by simp [e1])]
  by_cases e2 : n = 2
  · obtain ⟨m, c3, h3, a3, -⟩ := cur_below hb a2 9
    rw [br_of (by simp [e2]), oc_s_l1Below h3]
    exact ⟨⟨l.sent, IntKind.wrap .i64 (m - 1), l.queue, l.got, l.held⟩, c3, rfl, a3, by (try simp only []); omega, by (try simp only []); omega⟩
  rw [br_not (by simp [e2])]
  by_cases e3 : n = 3
  · obtain ⟨m, c3, h3, a3, -⟩ := cur_below hb a2 12
    rw [br_of (by simp [e3]), oc_s_l1Below h3]
    rw [grd_of (decide_eq_true (by simp only [ni, LIM_eq, List.length_append, List.length_map, List.length_cons, List.length_nil]; omega)), nam_eq]
    exact ⟨⟨l.sent, l.acked, l.queue, l.got, l.held ++ [⟨m, ⟨#[]⟩⟩]⟩, c3, by simp [oK, eP], a3, by (try simp only []); omega, by simp; omega⟩
  rw [br_not (by simp [e3])]
  by_cases e4 : n = 4
  · obtain ⟨m, c3, h3, a3, m1, m2⟩ := cur_below hb a2 2
    have m3 := m2 (by omega)
    rw [br_of (by simp [e4]), oc_s_l1Below h3]
    rw [w64 (by omega) (by omega), grd_of (by rw [Bool.and_eq_true]; exact ⟨decide_eq_true (by omega), decide_eq_true (by simp only [LIM_eq]; omega)⟩)]
    exact ⟨⟨30 + m, 0, List.replicate (30 + m).toNat ⟨#[]⟩, 0, []⟩, c3, by simp [oK], a3, by simp; omega, by simp⟩
  rw [br_not (by simp [e4])]
  exact ⟨l, c2, rfl, a2, by omega, by omega⟩
end Go.Eng
/-! the laws on drawn links: FnShown, FnAcked, FnSent -/
namespace Go.Eng
open Go.Proofs Go.Proofs.Try

theorem same_loop {l : List ByteArray} (hl : l.length < 4611686018427387904) : ∀ (k i : Nat), i + k = l.length → Llaws_sameTexts_4 (l.map .str) (l.map .str) (i : Int) = some (.bool true, [])
  | 0, i, hi => by rw [Llaws_sameTexts_4_eq, br_not (by rw [List.length_map]; exact ge_idx (by omega))]
  | k + 1, i, hi => by
    obtain ⟨x, hx⟩ := get_of_lt (l := l) (i := i) (by omega)
    rw [Llaws_sameTexts_4_eq, br_of (by rw [List.length_map]; exact lt_idx (by omega)), grd_of (by rw [List.length_map]; exact in_idx (by omega)), Int.toNat_natCast, oget_map hx, asS_str, grd_of (by rw [List.length_map]; exact in_idx (by omega)), oget_map hx, asS_str, br_not (by rw [strEq_refl]; rfl), w64s (by omega)]
    exact same_loop hl k (i + 1) (by omega)
theorem v_same {l : List ByteArray} (hl : l.length < 4611686018427387904) : V 13 [.rs (1, 0) (l.map .str), .rs (1, 0) (l.map .str)] = some (.bool true, []) := by
  rw [elaws_sameTexts, br_not (by simp)]
  exact same_loop hl l.length 0 (by omega)

/-! ## FnShown -/
/-! ## FnAcked -/
/-! ## FnSent -/
end Go.Eng
/-! the law on drawn links that take: FnTaken -/
namespace Go.Eng
open Go.Proofs Go.Proofs.Try

theorem draw_take {b : List Int} (hb : b.length < 4611686018427387904) : ∃ (l : Lk) (p : Pc), V 14 [.rs (1, 0) (b.map eB)] = some (.tup [oK l, .agg [.int .i64 p.no, .str p.text]], []) ∧ l.queue.length ≤ 31 ∧ l.held.length ≤ 23 := by
  obtain ⟨c, h1, a1⟩ := cur_new hb
  obtain ⟨l, c2, h2, a2, q1, q2⟩ := draw_link hb a1
  obtain ⟨n, c3, h3, a3, -⟩ := cur_below hb a2 7
  obtain ⟨m, c4, h4, a4, -⟩ := cur_pick hb a3 (l := [⟨#[]⟩, ⟨#[97]⟩, ⟨#[98, 98]⟩]) (by simp)
  simp only [List.map_cons, List.map_nil] at h4
  unfold oK at h2
  rw [espec_DrawLinkTake, oc_s_l1New h1, oc_s_l10Draw h2, oc_s_l1Below h3, oc_s_l1Pick h4]
  exact ⟨l, ⟨_, m⟩, rfl, q1, q2⟩
theorem law_FnTaken {b : List Int} (hb : b.length < 4611686018427387904) : V 4 [.rs (1, 0) (b.map eB)] = some (.bool true, []) := by
  rw [elaws_FnTaken, oc_w_big (v_big b)]
  by_cases hbig : (b.length : Int) > 1048576
  · rw [br_of (decide_eq_true hbig)]
  rw [br_not (decide_eq_false hbig)]
  obtain ⟨l, p, h1, q1, q2⟩ := draw_take hb
  have hs := v_spec_okK (l := l) (by omega) (by omega)
  have hi := v_impl_take (l := l) (by omega) (by omega) p
  have ht := v_spec_take (l := l) (by omega) (by omega) p
  have hlen := takeF_length l p
  have hsm := v_same (l := (takeF l p).2) (by omega)
  have hi2 := v_impl_take (l := (takeF l p).1) (by omega) (by omega) p
  have ho2 := v_impl_okK (l := (takeF l p).1) (by omega) (by omega)
  unfold oK at h1 hi ht hi2
  unfold eK at hs hi ht hi2 ho2
  rw [oc_s_DrawLinkTake h1, oc_i_LinkTake hi, oc_s_LinkTake ht, oc_w_sameTexts hsm, br_not (by rfl), oc_s_LinkOk hs]
  cases hok : okK l with
  | false =>
    rw [br_of (by rfl)]
    have e : takeF l p = (zK, []) := by unfold takeF; rw [hok]; rfl
    rw [e]; rfl
  | true =>
    obtain ⟨g1, g2, g3⟩ := takeF_good hok p
    have hf := okK_facts hok
    rw [g1] at ho2
    rw [br_not (by rfl), w64 (by simp only [ni, List.length_map]; omega) (by simp only [ni, List.length_map]; omega), br_not (by simp only [ni, List.length_map, bne_eq_false_iff_eq]; exact g2), oc_i_LinkOk ho2, br_not (by rfl)]
    rcases g3 with g3 | ⟨g3, r, g4⟩
    · rw [br_not (by rw [g3]; rfl), oc_i_LinkTake hi2, br_of (by rw [g3]; rfl)]
    · have hb2 := takeF_below g1 (p := p) (by rw [g2, g4]; simp only [List.length_cons]; omega)
      rw [br_of (by rw [g4]; simp [ni]), grd_of (by rw [g4]; simp [ni]), oget_map (x := p.text) (by rw [g4]; rfl), asS_str, br_not (by rw [strEq_refl]; rfl), br_not (by simp [g3]), oc_i_LinkTake hi2, br_not (by rw [g4]; simp [ni]; omega), hb2]
      rfl
theorem core_FnTaken (xs : List D) (h : All2 (fun t x => ShapeV Try.prog t x) Try.f4.params.toList xs) : V 4 xs = some (.bool true, []) := by
  rw [Try.params4] at h
  cases h with | cons h1 h =>
  cases h
  obtain ⟨b, rfl, hb⟩ := arg_code h1
  exact law_FnTaken hb
end Go.Eng
