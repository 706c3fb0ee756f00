/- the node of a word, on both sides -/
import Derived.Test.YtgoidfkdnkjojaaWord
namespace Go.Eng
open Go.Proofs Go.Proofs.Try
set_option maxHeartbeats 4000000

noncomputable def posF (r : Option Nat) : Option Int := match r with | some n => if n ≤ 1000000000 then some (n : Int) else none | none => none
noncomputable def negF (r : Option Nat) : Option Int := match r with | some n => if 0 < n ∧ n ≤ 1000000000 then some (-(n : Int)) else none | none => none
noncomputable def numF (l : List UInt8) : Option Int := match l with
  | x :: d :: r => if x = 45 ∧ dU d = true then negF (natF (d :: r)) else posF (natF l)
  | _ => posF (natF l)
noncomputable def nodeF (r : Option Int) (l : List UInt8) : Option Nd := match r with | some n => some ⟨3, n, ⟨#[]⟩, 0, 0⟩ | none => if nmOk (mk l) = true then some ⟨4, 0, mk l, 0, 0⟩ else none
noncomputable def wordF (l : List UInt8) : Option Nd := if l = [35, 116] then some ⟨2, 1, ⟨#[]⟩, 0, 0⟩ else if l = [35, 102] then some ⟨2, 0, ⟨#[]⟩, 0, 0⟩ else nodeF (numF l) l
noncomputable def agree (r : Option Nd) (x : Nd) (b : Bool) : Prop := match r with | some y => x = y ∧ b = true | none => b = false
theorem natF_some {l : List UInt8} {n : Nat} (h : natF l = some n) : l.length ≠ 0 ∧ ¬ 10 < l.length ∧ ¬ (l[0]? = some 48 ∧ 1 < l.length) ∧ l.all dU = true ∧ n = valD 0 l ∧ n < 10000000000 := by
  unfold natF at h
  split at h
  · cases h
  · rename_i hn
    cases h
    have ha : l.all dU = true := by
      cases e : l.all dU with
      | true => rfl
      | false => exact absurd (.inr (.inr (.inr e))) hn
    have h10 : ¬ 10 < l.length := fun e => hn (.inr (.inl e))
    have := valD_lt l 0 0 ha (by simp)
    rw [Nat.zero_add] at this
    have := pow10_le (k := l.length) (by omega)
    exact ⟨fun e => hn (.inl e), h10, fun e => hn (.inr (.inr (.inl e))), ha, rfl, by omega⟩
theorem natF_nm {l : List UInt8} {n : Nat} (h : natF l = some n) : nmOk (mk l) = false := by
  have hs := natF_some h
  match l, hs with
  | x :: r, hs =>
    have : dU x = true := by have := hs.2.2.2.1; rw [List.all_cons, Bool.and_eq_true] at this; exact this.1
    exact nm_digit (j := 0) (x := x) rfl this
noncomputable def tx (l : List UInt8) : Nd := match natF l with | some n => ⟨3, (n : Int), ⟨#[]⟩, 0, 0⟩ | none => ⟨4, 0, mk l, 0, 0⟩
noncomputable def tb (l : List UInt8) : Bool := match natF l with | some n => decide (n ≤ 1000000000) | none => nmOk (mk l)
theorem tail_agree (l : List UInt8) : agree (nodeF (posF (natF l)) l) (tx l) (tb l) := by
  unfold tx tb
  cases h : natF l with
  | none =>
    cases e : nmOk (mk l) with
    | true => simp [posF, nodeF, agree, e]
    | false => simp [posF, nodeF, agree, e]
  | some n =>
    have := natF_nm h
    by_cases h1 : n ≤ 1000000000
    · simp [posF, nodeF, agree, h1]
    · simp [posF, nodeF, agree, h1, this]
theorem wtail {l : List UInt8} (hb : l.length < 4611686018427387904) :
  @Eq (Option Ret) (ocall V 166 [(.str (mk l)), (.int .i64 (10))] fun x36 l37 =>
      asTup x36 fun l38 => unc l38 fun x39 l40 => asI .i64 x39 fun n41 => unc l40 fun x42 l43 => asB x42 fun b44 => unn l43 (unn l37 (br b44
            (br (decide (n41 ≤ 1000000000))
             (br (decide (n41 > 0))
              (some ((.tup [(.agg [(.int .i64 (3)), (.int .i64 (IntKind.wrap IntKind.i64 (1 * n41))), (.str ({ data := #[] })), (.int .i64 (0)), (.int .i64 (0))]), (.bool true)]), []))
              (some ((.tup [(.agg [(.int .i64 (3)), (.int .i64 (IntKind.wrap IntKind.i64 (1 * n41))), (.str ({ data := #[] })), (.int .i64 (0)), (.int .i64 (0))]), (.bool true)]), [])))
             (some ((.tup [(.agg [(.int .i64 (3)), (.int .i64 (IntKind.wrap IntKind.i64 (1 * n41))), (.str ({ data := #[] })), (.int .i64 (0)), (.int .i64 (0))]), (.bool false)]), [])))
            (ocall V 121 [(.str (mk l))] fun x45 l46 =>
             asB x45 fun b47 => unn l46 (some ((.tup [(.agg [(.int .i64 (4)), (.int .i64 (0)), (.str (mk l)), (.int .i64 (0)), (.int .i64 (0))]), (.bool b47)]), [])))))) (some (.tup [eN (tx l), .bool (tb l)], [])) := by
  have hn := v_natural l hb
  have hnm := v_impl_NameOk (s := mk l) (by rw [mk_size]; exact hb)
  unfold tx tb
  cases h : natF l with
  | none =>
    rw [h] at hn
    rw [oc_i_natural hn, br_false, oc_i_NameOk hnm]
  | some n =>
    have hs := (natF_some h).2.2.2.2.2
    rw [h] at hn
    rw [oc_i_natural hn, br_true, show (1 : Int) * n = n by omega, w64 (by omega) (by omega)]
    by_cases h1 : n ≤ 1000000000
    · have e : decide (n ≤ 1000000000) = true := decide_eq_true h1
      rw [br_of (decide_eq_true (by omega))]
      by_cases h0 : n = 0
      · subst h0; rfl
      · rw [br_of (decide_eq_true (by omega))]; simp only [e]
    · have e : decide (n ≤ 1000000000) = false := decide_eq_false h1
      rw [br_not (decide_eq_false (by omega))]; simp only [e]
theorem numF_pos {l : List UInt8} (h : ¬ (l[0]? = some 45 ∧ 1 < l.length)) : numF l = posF (natF l) := by
  match l with
  | [] => rfl
  | [x] => rfl
  | x :: d :: r => rw [numF, if_neg]; rintro ⟨e, _⟩; exact h ⟨by rw [e]; rfl, by simp⟩
theorem v_wordNode {l : List UInt8} (hb : l.length < 4611686018427387904) : ∃ x b, V 136 [.str (mk l)] = some (.tup [eN x, .bool b], []) ∧ agree (wordF l) x b := by
  have e1 : strEq (mk l) ⟨#[35, 116]⟩ = decide (l = [35, 116]) := strEq_mk l _
  have e2 : strEq (mk l) ⟨#[35, 102]⟩ = decide (l = [35, 102]) := strEq_mk l _
  rw [eimpl_wordNode, e1, e2, wtail hb]
  unfold wordF
  by_cases h1 : l = [35, 116]
  · rw [br_of (decide_eq_true h1), if_pos h1]; exact ⟨⟨2, 1, ⟨#[]⟩, 0, 0⟩, true, rfl, rfl, rfl⟩
  rw [br_not (decide_eq_false h1), if_neg h1]
  by_cases h2 : l = [35, 102]
  · rw [br_of (decide_eq_true h2), if_pos h2]; exact ⟨⟨2, 0, ⟨#[]⟩, 0, 0⟩, true, rfl, rfl, rfl⟩
  rw [br_not (decide_eq_false h2), if_neg h2, mk_size]
  by_cases hn : l[0]? = some 45 ∧ 1 < l.length
  · obtain ⟨hx, hl⟩ := hn
    match l, hx, hl with
    | x :: d :: r, hx, hl =>
      have hx : x = 45 := by simpa using hx
      subst hx
      have hd := v_isDigit d
      have hb0 : bt (mk (45 :: d :: r)) 0 = 45 := bt_mk (i := 0) (x := 45) rfl
      have hb1 : bt (mk (45 :: d :: r)) 1 = (d.toNat : Int) := bt_mk (i := 1) (x := d) rfl
      rw [br_of (decide_eq_true (by simp only [ni]; omega)), grd_of (by simp only [ni, Bool.and_eq_true, decide_eq_true_eq]; omega), hb0, br_of (by decide), grd_of (by simp only [ni, Bool.and_eq_true, decide_eq_true_eq]; omega), hb1, oc_i_isDigit hd]
      rw [numF]
      cases hdd : dU d with
      | false =>
        rw [br_false, if_neg (by simp)]
        exact ⟨_, _, rfl, tail_agree _⟩
      | true =>
        have hnm : nmOk (mk (45 :: d :: r)) = false := nm_digit (j := 1) (x := d) rfl hdd
        have e : ByteArray.extract (mk (45 :: d :: r)) (Int.toNat 1) (45 :: d :: r).length = mk (d :: r) := by
          rw [extract_mk]; congr 1; simp
        have hn := v_natural (d :: r) (by simp at hb ⊢; omega)
        rw [br_true, if_pos ⟨rfl, rfl⟩, grd_of (by unfold cutOk; simp; omega), e]
        cases hf : natF (d :: r) with
        | none =>
          rw [hf] at hn
          rw [oc_i_natural hn, br_false]
          exact ⟨⟨4, 0, mk (45 :: d :: r), 0, 0⟩, false, rfl, by simp [negF, nodeF, hnm, agree]⟩
        | some n =>
          have hs := (natF_some hf).2.2.2.2.2
          rw [hf] at hn
          rw [oc_i_natural hn, br_true, show (-1 : Int) * n = -n by omega, w64 (by omega) (by omega)]
          by_cases h1 : n ≤ 1000000000
          · rw [br_of (decide_eq_true (by omega))]
            by_cases h0 : n = 0
            · subst h0
              rw [br_not (by decide)]
              exact ⟨⟨3, -((0 : Nat) : Int), ⟨#[]⟩, 0, 0⟩, false, rfl, by simp [negF, nodeF, hnm, agree]⟩
            · rw [br_of (decide_eq_true (by omega))]
              exact ⟨⟨3, -(n : Int), ⟨#[]⟩, 0, 0⟩, true, rfl, by rw [negF, if_pos ⟨by omega, h1⟩]; exact ⟨rfl, rfl⟩⟩
          · rw [br_not (decide_eq_false (by omega))]
            exact ⟨⟨3, -(n : Int), ⟨#[]⟩, 0, 0⟩, false, rfl, by simp [negF, nodeF, hnm, agree, h1]⟩
  · rw [numF_pos hn]
    refine ⟨_, _, ?_, tail_agree l⟩
    by_cases hl : 1 < l.length
    · obtain ⟨x, hx⟩ := get_of_lt (l := l) (i := 0) (by omega)
      have hbt : bt (mk l) 0 = (x.toNat : Int) := bt_mk hx
      have hne : x.toNat ≠ 45 := by
        intro h; apply hn; rw [hx]; exact ⟨by congr 1; exact UInt8.toNat_inj.1 h, hl⟩
      rw [br_of (decide_eq_true (by simp only [ni]; omega)), grd_of (by simp only [ni, Bool.and_eq_true, decide_eq_true_eq]; omega), hbt, br_not (by simp only [beq_eq_false_iff_ne, ne_eq]; omega)]
    · rw [br_not (decide_eq_false (by simp only [ni]; omega))]
/-! ## the spec -/
noncomputable def finN (a r : List UInt8) (v : Nat) : Int := if r.length = a.length then (v : Int) else -(v : Int)
noncomputable def finB (a r : List UInt8) (v : Nat) : Bool := decide (digI (finN a r v) = a) && wi (finN a r v) (-1000000000) 1000000000
theorem num_end {a r : List UInt8} {v : Nat} (hv : v < 100000000000) : @Eq (Option Ret) (br (ni r.length != ni a.length)
    (ocall V 126 [(.int .i64 (IntKind.wrap IntKind.i64 (0 - (v : Int))))] fun x3 l4 => asS x3 fun s5 => unn l4 (br (strEq s5 (mk a))
       (ocall V 104 [(.int .i64 (IntKind.wrap IntKind.i64 (0 - (v : Int)))), (.int .i64 (-1000000000)), (.int .i64 (1000000000))] fun x6 l7 => asB x6 fun b8 => unn l7 (some ((.tup [(.int .i64 (IntKind.wrap IntKind.i64 (0 - (v : Int)))), (.bool b8)]), [])))
       (some ((.tup [(.int .i64 (IntKind.wrap IntKind.i64 (0 - (v : Int)))), (.bool false)]), []))))
    (ocall V 126 [(.int .i64 (v : Int))] fun x9 l10 => asS x9 fun s11 => unn l10 (br (strEq s11 (mk a))
       (ocall V 104 [(.int .i64 (v : Int)), (.int .i64 (-1000000000)), (.int .i64 (1000000000))] fun x12 l13 => asB x12 fun b14 => unn l13 (some ((.tup [(.int .i64 (v : Int)), (.bool b14)]), [])))
       (some ((.tup [(.int .i64 (v : Int)), (.bool false)]), []))))) (some (.tup [.int .i64 (finN a r v), .bool (finB a r v)], [])) := by
  unfold finB finN
  by_cases h : r.length = a.length
  · have hd := v_l3Digits (n := (v : Int)) (by omega)
    rw [br_not (by simp [ni, h]), if_pos h, oc_s_l3Digits hd, strEq_mk]
    by_cases h2 : digI (v : Int) = a
    · rw [decide_eq_true h2, br_true, oc_s_l1In (v_l1In _ _ _), Bool.true_and]
    · rw [decide_eq_false h2, br_false, Bool.false_and]
  · have hd := v_l3Digits (n := -(v : Int)) (by omega)
    rw [br_of (by simp only [ni, bne_iff_ne, ne_eq]; omega), if_neg h, show (0 : Int) - (v : Int) = -(v : Int) by omega, w64 (by omega) (by omega), oc_s_l3Digits hd, strEq_mk]
    by_cases h2 : digI (-(v : Int)) = a
    · rw [decide_eq_true h2, br_true, oc_s_l1In (v_l1In _ _ _), Bool.true_and]
    · rw [decide_eq_false h2, br_false, Bool.false_and]
theorem num_loop {a l : List UInt8} (hl : l.length ≤ 10) : ∀ (k i acc : Nat), i + k = l.length → acc < 10 ^ i → Lspec_l3Num_8 (mk a) (mk l) (acc : Int) (i : Int) = some (if (l.drop i).all dU = true then .tup [.int .i64 (finN a l (valD acc (l.drop i))), .bool (finB a l (valD acc (l.drop i)))] else noW, [])
  | 0, i, acc, hi, ha => by
    have hp := pow10_le (k := i) (by omega)
    have he := num_end (a := a) (r := l) (v := acc) (by omega)
    rw [Lspec_l3Num_8_eq, List.drop_of_length_le (by omega), mk_size, mk_size, br_not (ge_idx (by omega)), he]
    rfl
  | k + 1, i, acc, hi, ha => by
    obtain ⟨x, hx⟩ := get_of_lt (l := l) (i := i) (by omega)
    have hp := pow10_le (k := i) (by omega)
    have hb := bt_mk hx
    have hd := v_l3Digit x
    rw [Lspec_l3Num_8_eq, mk_size, br_of (lt_idx (by omega)), grd_of (in_idx (by omega)), hb, oc_s_l3Digit hd, drop_at hx, List.all_cons]
    cases h : dU x with
    | false => rw [Bool.not_false, br_true, if_neg (by simp)]
    | true =>
      have hx2 := dU_iff.1 h
      have e2 : IntKind.wrap IntKind.i64 (IntKind.wrap IntKind.i64 (IntKind.wrap IntKind.i64 (10 * (acc : Int)) + IntKind.wrap IntKind.i64 ((x.toNat : Nat) : Int)) - 48) = ((10 * acc + (x.toNat - 48) : Nat) : Int) := by
        rw [w64 (n := 10 * (acc : Int)) (by omega) (by omega), w64 (n := ((x.toNat : Nat) : Int)) (by omega) (by omega), w64 (n := 10 * (acc : Int) + _) (by omega) (by omega), w64 (by omega) (by omega)]; omega
      have ih := num_loop (a := a) hl k (i + 1) (10 * acc + (x.toNat - 48)) (by omega) (by rw [Nat.pow_succ]; omega)
      rw [Bool.not_true, br_false, grd_of (in_idx (by omega)), e2, w64s (by omega), ih, Bool.true_and]
      rfl
theorem pos_fin {l : List UInt8} (h0 : l.length ≠ 0) (h10 : ¬ 10 < l.length) (ha : l.all dU = true) : finN l l (valD 0 l) = (valD 0 l : Int) ∧ finB l l (valD 0 l) = (posF (natF l)).isSome ∧ (∀ m, posF (natF l) = some m → m = (valD 0 l : Int)) := by
  have hz := digU_iff h0 h10 ha
  have e1 : finN l l (valD 0 l) = (valD 0 l : Int) := by simp [finN]
  have e2 : digI ((valD 0 l : Nat) : Int) = digU (valD 0 l) := by simp [digI]
  refine ⟨e1, ?_, ?_⟩
  · unfold finB
    rw [e1, e2]
    by_cases h : l[0]? = some 48 ∧ 1 < l.length
    · rw [decide_eq_false (fun e => hz.1 e h), natF, if_pos (.inr (.inr (.inl h)))]; rfl
    · have hn : natF l = some (valD 0 l) := by rw [natF, if_neg (by rintro (e | e | e | e) <;> first | omega | exact h e | (rw [ha] at e; cases e))]
      rw [decide_eq_true (hz.2 h), hn]
      unfold posF wi
      by_cases h1 : valD 0 l ≤ 1000000000
      · simp [h1]; omega
      · simp [h1]; omega
  · intro m hm
    cases hn : natF l with
    | none => rw [hn] at hm; cases hm
    | some n =>
      have := (natF_some hn).2.2.2.2.1
      rw [hn] at hm
      unfold posF at hm
      simp only at hm
      split at hm
      · cases hm; rw [this]
      · cases hm
theorem neg_fin {l : List UInt8} (h0 : l.length ≠ 0) (h10 : ¬ 10 < l.length) (ha : l.all dU = true) : finN (45 :: l) l (valD 0 l) = -(valD 0 l : Int) ∧ finB (45 :: l) l (valD 0 l) = (negF (natF l)).isSome ∧ (∀ m, negF (natF l) = some m → m = -(valD 0 l : Int)) := by
  have hz := digU_iff h0 h10 ha
  have e1 : finN (45 :: l) l (valD 0 l) = -(valD 0 l : Int) := by simp [finN]
  refine ⟨e1, ?_, ?_⟩
  · unfold finB
    rw [e1]
    by_cases h : l[0]? = some 48 ∧ 1 < l.length
    · have : digI (-(valD 0 l : Int)) ≠ 45 :: l := by
        unfold digI
        split
        · intro e; rw [Int.natAbs_neg, Int.natAbs_natCast] at e; exact hz.1 (List.cons_inj_right _ |>.1 e) h
        · intro e
          have e0 : valD 0 l = 0 := by omega
          rw [e0] at e
          have := digU_small (n := 0) (by omega)
          simp [this] at e
      rw [decide_eq_false this, natF, if_pos (.inr (.inr (.inl h)))]; rfl
    · have hn : natF l = some (valD 0 l) := by rw [natF, if_neg (by rintro (e | e | e | e) <;> first | omega | exact h e | (rw [ha] at e; cases e))]
      rw [hn]
      by_cases h1 : valD 0 l = 0
      · have : digI (-(valD 0 l : Int)) ≠ 45 :: l := by
          intro e
          rw [h1] at e
          have := digU_small (n := 0) (by omega)
          simp [digI, this] at e
        rw [decide_eq_false this, h1]; rfl
      · have : digI (-(valD 0 l : Int)) = 45 :: l := by
          unfold digI
          rw [if_pos (by omega), Int.natAbs_neg, Int.natAbs_natCast, hz.2 h]
        rw [decide_eq_true this]
        unfold negF wi
        by_cases h2 : valD 0 l ≤ 1000000000
        · have : 0 < valD 0 l := by omega
          simp [h2, this]; omega
        · simp [h2]; omega
  · intro m hm
    cases hn : natF l with
    | none => rw [hn] at hm; cases hm
    | some n =>
      have := (natF_some hn).2.2.2.2.1
      rw [hn] at hm
      unfold negF at hm
      simp only at hm
      split at hm
      · cases hm; rw [this]
      · cases hm
/-- what the digits of `r` within the word `a` come to -/
theorem num_part {a r : List UInt8} {F : Option Nat → Option Int} (hF : F none = none)
    (hfin : r.length ≠ 0 → ¬ 10 < r.length → r.all dU = true → finB a r (valD 0 r) = (F (natF r)).isSome ∧ (∀ m, F (natF r) = some m → m = finN a r (valD 0 r))) :
    ∃ n b, br (decide (ni r.length > 10)) (some (noW, [])) (br (ni r.length == 0) (some (noW, [])) (Lspec_l3Num_8 (mk a) (mk r) 0 0)) = some (.tup [.int .i64 n, .bool b], []) ∧ b = (F (natF r)).isSome ∧ (∀ m, F (natF r) = some m → m = n) := by
  by_cases h10 : 10 < r.length
  · have hn : natF r = none := by rw [natF, if_pos (.inr (.inl h10))]
    rw [br_of (decide_eq_true (by simp only [ni]; omega)), hn, hF]
    exact ⟨0, false, rfl, rfl, fun m h => by cases h⟩
  · rw [br_not (decide_eq_false (by simp only [ni]; omega))]
    by_cases h0 : r.length = 0
    · have hn : natF r = none := by rw [natF, if_pos (.inl h0)]
      rw [br_of (by simp [ni, h0]), hn, hF]
      exact ⟨0, false, rfl, rfl, fun m h => by cases h⟩
    · rw [br_not (by simp only [ni, beq_eq_false_iff_ne, ne_eq]; omega)]
      have hl := num_loop (a := a) (l := r) (by omega) r.length 0 0 (by omega) (by simp)
      rw [Int.natCast_zero, List.drop_zero] at hl
      rw [hl]
      cases ha : r.all dU with
      | false =>
        have hn : natF r = none := by rw [natF, if_pos (.inr (.inr (.inr ha)))]
        rw [if_neg (by simp), hn, hF]
        exact ⟨0, false, rfl, rfl, fun m h => by cases h⟩
      | true =>
        rw [if_pos rfl]
        obtain ⟨e1, e2⟩ := hfin h0 h10 ha
        exact ⟨_, _, rfl, e1, e2⟩
theorem v_l3Num (l : List UInt8) : ∃ n b, V 130 [.str (mk l)] = some (.tup [.int .i64 n, .bool b], []) ∧ b = (numF l).isSome ∧ (∀ m, numF l = some m → m = n) := by
  have hpos : ∃ n b, br (decide (ni l.length > 10)) (some (noW, [])) (br (ni l.length == 0) (some (noW, [])) (Lspec_l3Num_8 (mk l) (mk l) 0 0)) = some (.tup [.int .i64 n, .bool b], []) ∧ b = (posF (natF l)).isSome ∧ (∀ m, posF (natF l) = some m → m = n) :=
    num_part rfl (fun h0 h10 ha => ⟨(pos_fin h0 h10 ha).2.1, fun m hm => ((pos_fin h0 h10 ha).2.2 m hm).trans (pos_fin h0 h10 ha).1.symm⟩)
  rw [espec_l3Num, mk_size]
  by_cases hn : l[0]? = some 45 ∧ 1 < l.length
  · obtain ⟨hx, hl⟩ := hn
    match l, hx, hl with
    | x :: d :: r, hx, hl =>
      have hx : x = 45 := by simpa using hx
      subst hx
      have hb0 : bt (mk (45 :: d :: r)) 0 = 45 := bt_mk (i := 0) (x := 45) rfl
      have e : ByteArray.extract (mk (45 :: d :: r)) (Int.toNat 1) (45 :: d :: r).length = mk (d :: r) := by
        rw [extract_mk]; congr 1; simp
      rw [br_of (decide_eq_true (by simp only [ni]; omega)), grd_of (by simp only [ni, Bool.and_eq_true, decide_eq_true_eq]; omega), hb0, br_of (by decide), grd_of (by unfold cutOk; simp; omega), e, mk_size]
      obtain ⟨n, b, h1, h2, h3⟩ := num_part (a := 45 :: d :: r) (r := d :: r) (F := negF) rfl (fun h0 h10 ha => ⟨(neg_fin h0 h10 ha).2.1, fun m hm => ((neg_fin h0 h10 ha).2.2 m hm).trans (neg_fin h0 h10 ha).1.symm⟩)
      refine ⟨n, b, h1, ?_⟩
      rw [numF]
      by_cases hd : dU d = true
      · rw [if_pos ⟨rfl, hd⟩]; exact ⟨h2, h3⟩
      · rw [if_neg (fun h => hd h.2)]
        have hf : ∀ c : UInt8, dU c = false → ∀ q, natF (c :: q) = none := by
          intro c hc q
          rw [natF, if_pos (.inr (.inr (.inr (by rw [List.all_cons, hc]; rfl))))]
        rw [hf 45 rfl] 
        rw [hf d (by simpa using hd)] at h2 h3
        exact ⟨h2, h3⟩
  · rw [numF_pos hn]
    by_cases hl : 1 < l.length
    · obtain ⟨x, hx⟩ := get_of_lt (l := l) (i := 0) (by omega)
      have hbt : bt (mk l) 0 = (x.toNat : Int) := bt_mk hx
      have hne : x.toNat ≠ 45 := by
        intro h; apply hn; rw [hx]; exact ⟨by congr 1; exact UInt8.toNat_inj.1 h, hl⟩
      rw [br_of (decide_eq_true (by simp only [ni]; omega)), grd_of (by simp only [ni, Bool.and_eq_true, decide_eq_true_eq]; omega), hbt, br_not (by simp only [beq_eq_false_iff_ne, ne_eq]; omega)]
      exact hpos
    · rw [br_not (decide_eq_false (by simp only [ni]; omega))]
      exact hpos
theorem v_l3Word {l : List UInt8} (hb : l.length < 4611686018427387904) : ∃ x b, V 74 [.str (mk l)] = some (.tup [eN x, .bool b], []) ∧ agree (wordF l) x b := by
  have e1 : strEq (mk l) ⟨#[35, 116]⟩ = decide (l = [35, 116]) := strEq_mk l _
  have e2 : strEq (mk l) ⟨#[35, 102]⟩ = decide (l = [35, 102]) := strEq_mk l _
  obtain ⟨n, b, h3, h4, h5⟩ := v_l3Num l
  have hnm := v_spec_NameOk (s := mk l) (by rw [mk_size]; exact hb)
  rw [espec_l3Word, e1, e2, oc_s_l3Num h3]
  unfold wordF
  by_cases h1 : l = [35, 116]
  · rw [br_of (decide_eq_true h1), if_pos h1]; exact ⟨⟨2, 1, ⟨#[]⟩, 0, 0⟩, true, rfl, rfl, rfl⟩
  rw [br_not (decide_eq_false h1), if_neg h1]
  by_cases h2 : l = [35, 102]
  · rw [br_of (decide_eq_true h2), if_pos h2]; exact ⟨⟨2, 0, ⟨#[]⟩, 0, 0⟩, true, rfl, rfl, rfl⟩
  rw [br_not (decide_eq_false h2), if_neg h2]
  cases hf : numF l with
  | some m =>
    rw [hf] at h4 h5
    have := h5 m rfl
    rw [h4, ← this]
    exact ⟨⟨3, m, ⟨#[]⟩, 0, 0⟩, true, rfl, rfl, rfl⟩
  | none =>
    rw [hf] at h4
    rw [h4, show (none : Option Int).isSome = false from rfl, br_false, oc_s_NameOk hnm]
    refine ⟨⟨4, 0, mk l, 0, 0⟩, nmOk (mk l), rfl, ?_⟩
    cases e : nmOk (mk l) with
    | true => simp [nodeF, e, agree]
    | false => simp [nodeF, e, agree]
end Go.Eng
