/- what the functions on leases come to -/
import Derived.Test.YtnibbejbclmanaaZEngC
import Derived.Test.YtnibbejbclmanaaZFn
namespace Go.Eng
open Go.Proofs Go.Proofs.Try

structure Ls where
  id : Int
  who : Int
  un : Int
  deriving DecidableEq

def eL (x : Ls) : D := .agg [.int .i64 x.id, .int .i64 x.who, .int .i64 x.un]
theorem eL_mk (x : Ls) : eL x = .agg [.int .i64 x.id, .int .i64 x.who, .int .i64 x.un] := rfl
theorem eL_inj {a b : Ls} (h : eL a = eL b) : a = b := by
  cases a; cases b; simp [eL] at h; simp [h]

theorem v_within (n lo hi : Int) : V 39 [.int .i64 n, .int .i64 lo, .int .i64 hi] = some (.bool (wi n lo hi), []) := (eimpl_within n lo hi).trans within_eq
theorem v_l1In (n lo hi : Int) : V 36 [.int .i64 n, .int .i64 lo, .int .i64 hi] = some (.bool (wi n lo hi), []) := (espec_l1In n lo hi).trans within_eq
theorem v_toLease (a b c : Int) : V 38 [.agg [.int .i64 a, .int .i64 b, .int .i64 c]] = some (.agg [.int .i64 a, .int .i64 b, .int .i64 c], []) := elaws_toLease a b c

def sameL (id who : Int) (x : Ls) : Bool := x.id == id && x.who == who

theorem v_leaseAt_1 (x : Ls) (a b : Int) : V 52 [eL x, .bp [.int .i64 a], .bp [.int .i64 b]] = some (.bool (sameL a b x), []) := by
  unfold eL
  rw [eleaseAt_1]
  unfold sameL
  cases h : x.id == a <;> simp [br]

theorem leaseAt_loop {l : List Ls} (hl : l.length < 4611686018427387904) (a b : Int) : ∀ (k i : Nat), i + k = l.length → LIndexFunc_leaseAt_2 (l.map eL) a b (l.length : Int) (i : Int) = some (.int .i64 (posFrom (sameL a b) l i), [])
  | 0, i, hi => by
    rw [LIndexFunc_leaseAt_2_eq, br_not (by simp; omega), posFrom_end (by omega)]
  | k + 1, i, hi => by
    obtain ⟨x, hx⟩ := get_of_lt (l := l) (i := i) (by omega)
    rw [LIndexFunc_leaseAt_2_eq, br_of (by simp; omega), grd_of (by rw [List.length_map]; exact in_idx (by omega)), Int.toNat_natCast, oget_map hx]
    have h52 := v_leaseAt_1 x a b
    rw [eL_mk x] at h52 ⊢
    simp only [asAgg_agg, unc_cons, unn_nil, asI_int]
    rw [ocall_some h52]
    simp only [asB_bool, unn_nil]
    cases hp : sameL a b x with
    | true => rw [br_true, posFrom_hit hx hp]
    | false => rw [br_false, w64s (by omega), posFrom_miss hx hp]; exact leaseAt_loop hl a b k (i + 1) (by omega)

theorem v_leaseAt {l : List Ls} (hl : l.length < 4611686018427387904) (a b : Int) : V 40 [.rs (3, 0) (l.map eL), .int .i64 a, .int .i64 b] = some (.int .i64 (posB (sameL a b) l), []) := by
  rw [eimpl_leaseAt, ocall_some ((eIndexFunc_leaseAt (l.map eL) a b).trans ((by simp [ni] : LIndexFunc_leaseAt_2 (l.map eL) a b (ni (l.map eL).length) 0 = LIndexFunc_leaseAt_2 (l.map eL) a b (l.length : Int) ((0 : Nat) : Int)).trans (leaseAt_loop hl a b l.length 0 (by omega)))), posFrom_zero]
  simp only [asI_int, unn_nil]

theorem l11At_loop {l : List Ls} (hl : l.length < 4611686018427387904) (a b : Int) : ∀ (k i : Nat), i + k = l.length → Lspec_l11At_2 (l.map eL) a b (i : Int) = some (.int .i64 (posFrom (sameL a b) l i), [])
  | 0, i, hi => by
    rw [Lspec_l11At_2_eq, br_not (by rw [List.length_map]; exact ge_idx (by omega)), posFrom_end (by omega)]
  | k + 1, i, hi => by
    obtain ⟨x, hx⟩ := get_of_lt (l := l) (i := i) (by omega)
    have hin : (decide (0 ≤ (i : Int)) && decide ((i : Int) < ni (l.map eL).length)) = true := by rw [List.length_map]; exact in_idx (by omega)
    have ih := l11At_loop hl a b k (i + 1) (by omega)
    rw [Lspec_l11At_2_eq, br_of (by rw [List.length_map]; exact lt_idx (by omega))]
    simp only [grd_of hin, Int.toNat_natCast, oget_map hx, eL_mk x, asAgg_agg, oget_lit0, oget_lit1, asI_int, w64s (show i < 4611686018427387904 by omega)]
    have ih' := ih
    cases h1 : x.id == a with
    | false =>
      rw [br_false, posFrom_miss hx (by simp [sameL, h1])]; exact ih
    | true =>
      rw [br_true]
      cases h2 : x.who == b with
      | false => rw [br_false, posFrom_miss hx (by simp [sameL, h2])]; exact ih
      | true => rw [br_true, posFrom_hit hx (by simp [sameL, h1, h2])]

theorem v_l11At {l : List Ls} (hl : l.length < 4611686018427387904) (a b : Int) : V 37 [.rs (3, 0) (l.map eL), .int .i64 a, .int .i64 b] = some (.int .i64 (posB (sameL a b) l), []) := by
  rw [espec_l11At, ← posFrom_zero]
  exact l11At_loop hl a b l.length 0 (by omega)

/-! ## LeasesOk -/
def rangeL (x : Ls) : Bool := wi x.id 1 1000000000 && wi x.who 0 9 && wi x.un 0 1000000000
def goodL (l : List Ls) (i : Nat) (x : Ls) : Bool := rangeL x && !((l.take i).any (sameL x.id x.who))
def okFrom (l : List Ls) : Nat → Nat → Bool
  | _, 0 => decide (l.length ≤ 20)
  | i, k + 1 => (match l[i]? with | some x => goodL l i x | none => true) && okFrom l (i + 1) k
def okL (l : List Ls) : Bool := okFrom l 0 l.length

theorem posB_neg {α : Type} {p : α → Bool} {l : List α} : decide (posB p l ≥ 0) = l.any p := by
  unfold posB
  cases h : l.findIdx? p with
  | none => simp only; rw [List.findIdx?_eq_none_iff] at h; simp; intro x hx; simpa using h x hx
  | some k =>
    simp only
    have := List.findIdx?_eq_some_iff_getElem.1 h
    obtain ⟨h1, h2, _⟩ := this
    have : l.any p = true := List.any_eq_true.2 ⟨l[k], List.getElem_mem _, h2⟩
    rw [this]; simp

theorem posB_at {α : Type} {p : α → Bool} {l : List α} {i : Nat} {x : α} (hx : l[i]? = some x) (hp : p x = true) : (posB p l != (i : Int)) = (l.take i).any p := by
  have hi := lt_of_get hx
  have hxe : l[i] = x := by rw [List.getElem?_eq_getElem hi] at hx; exact Option.some.inj hx
  unfold posB
  cases h : l.findIdx? p with
  | none =>
    rw [List.findIdx?_eq_none_iff] at h
    have := h x (List.mem_of_getElem? hx)
    rw [hp] at this; cases this
  | some k =>
    obtain ⟨h1, h2, h3⟩ := List.findIdx?_eq_some_iff_getElem.1 h
    simp only
    by_cases hk : k < i
    · have : (l.take i).any p = true := List.any_eq_true.2 ⟨l[k], List.mem_of_getElem? (i := k) (by rw [List.getElem?_take_of_lt hk]; exact List.getElem?_eq_getElem h1), h2⟩
      rw [this]; simp; omega
    · have hki : k = i := by
        by_cases hgt : i < k
        · have := h3 i hgt
          rw [hxe, hp] at this; simp at this
        · omega
      subst hki
      have : (l.take k).any p = false := by
        rw [List.any_eq_false]
        intro y hy
        obtain ⟨j, hj, rfl⟩ := List.getElem_of_mem hy
        simp only [List.length_take] at hj
        rw [List.getElem_take]
        exact h3 j (by omega)
      rw [this]; simp

theorem impl_ok_loop {l : List Ls} (hl : l.length < 4611686018427387904) : ∀ (k i : Nat), i + k = l.length → Limpl_LeasesOk_2 (l.map eL) (l.map eL) (l.length : Int) (i : Int) = some (.bool (okFrom l i k), [])
  | 0, i, hi => by
    rw [Limpl_LeasesOk_2_eq, br_not (by simp; omega)]
    simp only [okFrom, ni, List.length_map]
    congr 3; exact decide_eq_decide.2 (by omega)
  | k + 1, i, hi => by
    obtain ⟨x, hx⟩ := get_of_lt (l := l) (i := i) (by omega)
    have hin : (decide (0 ≤ (i : Int)) && decide ((i : Int) < ni (l.map eL).length)) = true := by rw [List.length_map]; exact in_idx (by omega)
    have ih := impl_ok_loop hl k (i + 1) (by omega)
    rw [Limpl_LeasesOk_2_eq, br_of (by simp; omega)]
    simp only [grd_of hin, Int.toNat_natCast, oget_map hx, okFrom, hx, goodL, rangeL]
    simp only [eL_mk x, asAgg_agg, unc_cons, unn_nil, asI_int, ocall_some (v_within _ _ _), asB_bool, w64s (show i < 4611686018427387904 by omega)]
    cases h1 : wi x.id 1 1000000000
    · rfl
    cases h2 : wi x.who 0 9
    · rfl
    cases h3 : wi x.un 0 1000000000
    · rfl
    have hat := v_leaseAt hl x.id x.who
    simp only [Bool.not_true, br_false]
    rw [ocall_some hat]
    simp only [asI_int, unn_nil]
    have hp := posB_at hx (p := sameL x.id x.who) (by simp [sameL])
    rw [hp]
    cases (l.take i).any (sameL x.id x.who)
    · exact ih
    · rfl

theorem v_impl_ok {l : List Ls} (hl : l.length < 4611686018427387904) : V 17 [.rs (3, 0) (l.map eL)] = some (.bool (okL l), []) := by
  rw [eimpl_LeasesOk]
  simp only [ni, List.length_map]
  exact impl_ok_loop hl l.length 0 (by omega)

theorem spec_ok_loop {l : List Ls} (hl : l.length < 4611686018427387904) : ∀ (k i : Nat), i + k = l.length → Lspec_LeasesOk_2 (l.map eL) (i : Int) = some (.bool (okFrom l i k), [])
  | 0, i, hi => by
    rw [Lspec_LeasesOk_2_eq, br_not (by rw [List.length_map]; exact ge_idx (by omega))]
    simp only [okFrom, ni, List.length_map]
    congr 3; exact decide_eq_decide.2 (by omega)
  | k + 1, i, hi => by
    obtain ⟨x, hx⟩ := get_of_lt (l := l) (i := i) (by omega)
    have hin : (decide (0 ≤ (i : Int)) && decide ((i : Int) < ni (l.map eL).length)) = true := by rw [List.length_map]; exact in_idx (by omega)
    have ih := spec_ok_loop hl k (i + 1) (by omega)
    rw [Lspec_LeasesOk_2_eq, br_of (by rw [List.length_map]; exact lt_idx (by omega))]
    simp only [grd_of hin, Int.toNat_natCast, oget_map hx, okFrom, hx, goodL, rangeL]
    simp only [eL_mk x, asAgg_agg, unc_cons, unn_nil, asI_int, ocall_some (v_l1In _ _ _), asB_bool, w64s (show i < 4611686018427387904 by omega)]
    cases h1 : wi x.id 1 1000000000
    · rfl
    cases h2 : wi x.who 0 9
    · rfl
    cases h3 : wi x.un 0 1000000000
    · rfl
    have hat := v_l11At (l := l.take i) (by rw [List.length_take]; omega) x.id x.who
    have hcut : cutH (l.map eL) (i : Int) = (l.take i).map eL := by simp [cutH, List.map_take]
    simp only [Bool.not_true, br_false]
    rw [grd_of (by simp [cutOk]; omega)]
    rw [hcut, ocall_some hat]
    simp only [asI_int, unn_nil, posB_neg]
    cases (l.take i).any (sameL x.id x.who)
    · exact ih
    · rfl

theorem v_spec_ok {l : List Ls} (hl : l.length < 4611686018427387904) : V 15 [.rs (3, 0) (l.map eL)] = some (.bool (okL l), []) := by
  rw [espec_LeasesOk]
  exact spec_ok_loop hl l.length 0 (by omega)
/-! ## sizes, copies, equality -/
def szN (n : Nat) : Int := if (1048576 : Int) - n < 0 then -1 else 1048576 - n
theorem v_sz {l : List Ls} (hl : l.length < 4611686018427387904) : V 14 [.rs (3, 0) (l.map eL), .int .i64 1048576] = some (.int .i64 (szN l.length), []) := by
  rw [elaws_szLeaseS]
  simp only [ni, List.length_map]
  rw [w64 (by omega) (by omega)]
  unfold szN
  by_cases h : (1048576 : Int) - l.length < 0
  · rw [br_of (by simpa using h), if_pos h]
  · rw [br_not (by simpa using h), if_neg h]

def zL : Ls := ⟨0, 0, 0⟩
theorem toLeaseS_loop {l : List Ls} (hl : l.length < 4611686018427387904) : ∀ (k i : Nat), i + k = l.length → Llaws_toLeaseS_3 (l.map eL) (i : Int) ((l.take i ++ List.replicate k zL).map eL) = some (.os (3, 0) (l.map eL), [])
  | 0, i, hi => by
    rw [Llaws_toLeaseS_3_eq, br_not (by rw [List.length_map]; exact ge_idx (by omega))]
    simp [List.take_of_length_le (show l.length ≤ i by omega)]
  | k + 1, i, hi => by
    obtain ⟨x, hx⟩ := get_of_lt (l := l) (i := i) (by omega)
    have ih := toLeaseS_loop hl k (i + 1) (by omega)
    have hlen : (l.take i ++ List.replicate (k + 1) zL).length = l.length := by simp; omega
    have hgi : (l.take i ++ List.replicate (k + 1) zL)[i]? = some zL := by
      rw [List.getElem?_append_right (by rw [List.length_take]; omega), List.length_take, show i - min i l.length = 0 by omega]
      rfl
    rw [Llaws_toLeaseS_3_eq, br_of (by rw [List.length_map]; exact lt_idx (by omega))]
    rw [grd_of (by rw [List.length_map]; exact in_idx (by omega)), Int.toNat_natCast, oget_map hx, eL_mk x]
    simp only [asAgg_agg, unc_cons, unn_nil, asI_int, ocall_some (v_toLease _ _ _)]
    rw [grd_of (by rw [List.length_map, hlen]; exact in_idx (by omega)), oget_map hgi, w64s (by omega)]
    simp only [nam_eq]
    rw [← ih]
    congr 1
    rw [← eL_mk x, ← List.map_set]
    congr 1
    rw [List.set_append_right _ _ (by rw [List.length_take]; omega), List.length_take, show i - min i l.length = 0 by omega, take_at hx, List.replicate_succ]
    simp

theorem v_toLeaseS {l : List Ls} (hl : l.length ≤ 4294967296) : V 16 [.rs (3, 0) (l.map eL)] = some (.os (3, 0) (l.map eL), []) := by
  rw [elaws_toLeaseS, grd_of (by simp [ni, LIM]; omega)]
  have := toLeaseS_loop (l := l) (by omega) l.length 0 (by omega)
  simpa [ni, List.map_replicate, zL, eL] using this

theorem v_eqLease (x y : Ls) : V 41 [.agg [.int .i64 x.id, .int .i64 x.who, .int .i64 x.un], .agg [.int .i64 y.id, .int .i64 y.who, .int .i64 y.un]] = some (.bool (decide (x = y)), []) := by
  rw [elaws_eqLease]
  obtain ⟨a, b, c⟩ := x
  obtain ⟨d, e, f⟩ := y
  simp only [Ls.mk.injEq]
  by_cases h1 : a = d
  · rw [br_not (by simp [h1])]
    by_cases h2 : b = e
    · rw [br_not (by simp [h2])]
      by_cases h3 : c = f
      · rw [br_not (by simp [h3])]; simp [h1, h2, h3]
      · rw [br_of (by simp [h3])]; simp [h3]
    · rw [br_of (by simp [h2])]; simp [h2]
  · rw [br_of (by simp [h1])]; simp [h1]

theorem eq_loop {a b : List Ls} (hab : a.length = b.length) (hl : a.length < 4611686018427387904) : ∀ (k i : Nat), i + k = a.length → Llaws_eqLeaseS_4 (a.map eL) (b.map eL) (i : Int) = some (.bool (decide (a.drop i = b.drop i)), [])
  | 0, i, hi => by
    rw [Llaws_eqLeaseS_4_eq, br_not (by rw [List.length_map]; exact ge_idx (by omega))]
    rw [List.drop_of_length_le (by omega), List.drop_of_length_le (by omega)]; simp
  | k + 1, i, hi => by
    obtain ⟨x, hx⟩ := get_of_lt (l := a) (i := i) (by omega)
    obtain ⟨y, hy⟩ := get_of_lt (l := b) (i := i) (by omega)
    have ih := eq_loop hab hl k (i + 1) (by omega)
    rw [Llaws_eqLeaseS_4_eq, br_of (by rw [List.length_map]; exact lt_idx (by omega)), grd_of (by rw [List.length_map]; exact in_idx (by omega)), Int.toNat_natCast, oget_map hx, eL_mk x]
    simp only [asAgg_agg, unc_cons, unn_nil, asI_int]
    rw [grd_of (by rw [List.length_map]; exact in_idx (by omega)), oget_map hy, eL_mk y]
    simp only [asAgg_agg, unc_cons, unn_nil, asI_int]
    rw [ocall_some (v_eqLease x y)]
    simp only [asB_bool, unn_nil, w64s (show i < 4611686018427387904 by omega)]
    rw [drop_at hx, drop_at hy]
    by_cases h : x = y
    · rw [br_not (by simp [h]), ih]; simp [h]
    · rw [br_of (by simp [h])]; simp [h]

theorem v_eq {a b : List Ls} (ha : a.length < 4611686018427387904) (hb : b.length < 4611686018427387904) : V 18 [.rs (3, 0) (a.map eL), .rs (3, 0) (b.map eL)] = some (.bool (decide (a = b)), []) := by
  rw [elaws_eqLeaseS]
  simp only [ni, List.length_map]
  by_cases h : a.length = b.length
  · rw [br_not (by simp [h])]
    exact eq_loop h ha a.length 0 (by omega)
  · rw [br_of (by simp; omega)]
    have : a ≠ b := fun e => h (by rw [e])
    simp [this]

/-! ## marks -/
def mk3 (k : Nat) (i : Nat) : Ls := ⟨((k + 3 * i : Nat) : Int), ((k + 3 * i + 1 : Nat) : Int), ((k + 3 * i + 2 : Nat) : Int)⟩
def marked (k n : Nat) : List Ls := (List.range n).map (mk3 k)

theorem mark_step (x y : Ls) (k i : Nat) {l : List Ls} (hx : l[i]? = some x) : l.take i ++ y :: l.drop (i + 1) = l.set i y := by
  rw [List.set_eq_take_append_cons_drop, if_pos (lt_of_get hx)]

theorem mark_loop {l : List Ls} (hl : l.length < 1152921504606846976) : ∀ (k i : Nat), i + k = l.length → Llaws_markLeaseS_2 ((1 + 3 * i : Nat) : Int) (i : Int) ((marked 1 i ++ l.drop i).map eL) = some (.int .i64 ((1 + 3 * l.length : Nat) : Int), [.os (3, 0) ((marked 1 l.length).map eL)])
  | 0, i, hi => by
    have hlen : (marked 1 i ++ l.drop i).length = i := by simp [marked]; omega
    rw [Llaws_markLeaseS_2_eq, br_not (by rw [List.length_map, hlen]; exact ge_idx (by omega))]
    have : i = l.length := by omega
    subst this
    simp
  | k + 1, i, hi => by
    obtain ⟨x, hx⟩ := get_of_lt (l := l) (i := i) (by omega)
    have ih := mark_loop hl k (i + 1) (by omega)
    have hml : (marked 1 i).length = i := by simp [marked]
    have hlen : ∀ y, (marked 1 i ++ y :: l.drop (i + 1)).length = l.length := by intro y; simp [marked]; omega
    have hget : ∀ y, (marked 1 i ++ y :: l.drop (i + 1))[i]? = some y := by
      intro y; rw [List.getElem?_append_right (by omega), hml, Nat.sub_self]; rfl
    have hset : ∀ y z, ((marked 1 i ++ y :: l.drop (i + 1)).map eL).set i (eL z) = (marked 1 i ++ z :: l.drop (i + 1)).map eL := by
      intro y z; rw [← List.map_set, List.set_append_right _ _ (by omega), hml, Nat.sub_self]; rfl
    have c1 : IntKind.wrap IntKind.i64 (((1 + 3 * i : Nat) : Int) + 1) = ((1 + 3 * i + 1 : Nat) : Int) := w64s (by omega)
    have c2 : IntKind.wrap IntKind.i64 (((1 + 3 * i + 1 : Nat) : Int) + 1) = ((1 + 3 * i + 2 : Nat) : Int) := w64s (by omega)
    have c3 : IntKind.wrap IntKind.i64 (((1 + 3 * i + 2 : Nat) : Int) + 1) = ((1 + 3 * (i + 1) : Nat) : Int) := w64s (by omega)
    rw [drop_at hx, Llaws_markLeaseS_2_eq, br_of (by rw [List.length_map, hlen]; exact lt_idx (by omega))]
    rw [grd_of (by rw [List.length_map, hlen]; exact in_idx (by omega)), Int.toNat_natCast, oget_map (hget x), eL_mk x]
    simp only [asAgg_agg, nam_eq, c1, c2, c3, List.take_zero, List.nil_append, List.drop_succ_cons, List.drop_zero, List.cons_append]
    have s1 := hset x ⟨((1 + 3 * i : Nat) : Int), x.who, x.un⟩
    rw [eL_mk ⟨_, _, _⟩] at s1
    simp only [] at s1
    rw [s1, grd_of (by rw [List.length_map, hlen]; exact in_idx (by omega)), oget_map (hget _), eL_mk ⟨_, _, _⟩]
    simp only [asAgg_agg, List.take_succ_cons, List.take_zero, List.nil_append, List.drop_succ_cons, List.drop_zero, List.cons_append]
    have s2 := hset ⟨((1 + 3 * i : Nat) : Int), x.who, x.un⟩ ⟨((1 + 3 * i : Nat) : Int), ((1 + 3 * i + 1 : Nat) : Int), x.un⟩
    rw [eL_mk ⟨_, ((1 + 3 * i + 1 : Nat) : Int), _⟩] at s2
    simp only [] at s2
    rw [s2, grd_of (by rw [List.length_map, hlen]; exact in_idx (by omega)), oget_map (hget _), eL_mk ⟨_, _, _⟩]
    simp only [asAgg_agg, List.take_succ_cons, List.take_zero, List.nil_append, List.drop_succ_cons, List.drop_zero, List.cons_append]
    have s3 := hset ⟨((1 + 3 * i : Nat) : Int), ((1 + 3 * i + 1 : Nat) : Int), x.un⟩ (mk3 1 i)
    rw [eL_mk (mk3 1 i)] at s3
    simp only [mk3] at s3
    rw [s3, w64s (by omega), ← ih]
    congr 1
    congr 1
    simp only [marked, List.range_succ, List.map_append, List.map_cons, List.map_nil, List.append_assoc, List.cons_append, List.nil_append]
    rfl

theorem v_mark {l : List Ls} (hl : l.length < 1152921504606846976) : V 23 [.os (3, 0) (l.map eL), .int .i64 1] = some (.int .i64 ((1 + 3 * l.length : Nat) : Int), [.os (3, 0) ((marked 1 l.length).map eL)]) := by
  rw [elaws_markLeaseS]
  have := mark_loop hl l.length 0 (by omega)
  simpa [marked] using this

theorem held_loop {n : Nat} (hl : n < 1152921504606846976) : ∀ (k i : Nat), i + k = n → Llaws_heldLeaseS_2 ((marked 1 n).map eL) ((1 + 3 * i : Nat) : Int) (i : Int) = some (.int .i64 ((1 + 3 * n : Nat) : Int), [])
  | 0, i, hi => by
    rw [Llaws_heldLeaseS_2_eq, br_not (by rw [List.length_map]; simp only [marked, List.length_map, List.length_range]; exact ge_idx (by omega))]
    have : i = n := by omega
    subst this; rfl
  | k + 1, i, hi => by
    have ih := held_loop hl k (i + 1) (by omega)
    have hx : (marked 1 n)[i]? = some (mk3 1 i) := by simp [marked, List.getElem?_map, List.getElem?_range (show i < n by omega)]
    have c1 : IntKind.wrap IntKind.i64 (((1 + 3 * i : Nat) : Int) + 1) = ((1 + 3 * i + 1 : Nat) : Int) := w64s (by omega)
    have c2 : IntKind.wrap IntKind.i64 (((1 + 3 * i + 1 : Nat) : Int) + 1) = ((1 + 3 * i + 2 : Nat) : Int) := w64s (by omega)
    have c3 : IntKind.wrap IntKind.i64 (((1 + 3 * i + 2 : Nat) : Int) + 1) = ((1 + 3 * (i + 1) : Nat) : Int) := w64s (by omega)
    have hlen : (marked 1 n).length = n := by simp [marked]
    have hin : (decide (0 ≤ (i : Int)) && decide ((i : Int) < ni ((marked 1 n).map eL).length)) = true := by rw [List.length_map, hlen]; exact in_idx (by omega)
    rw [Llaws_heldLeaseS_2_eq, br_of (by rw [List.length_map, hlen]; exact lt_idx (by omega))]
    simp only [grd_of hin, Int.toNat_natCast, oget_map hx, eL_mk (mk3 1 i), asAgg_agg, oget_lit0, oget_lit1, oget_lit2, asI_int]
    simp only [mk3, c1, c2, c3, w64s (show i < 4611686018427387904 by omega), show ∀ n : Int, (n != n) = false from fun n => by simp, br_false]
    exact ih

theorem v_held {n : Nat} (hl : n < 1152921504606846976) : V 24 [.rs (3, 0) ((marked 1 n).map eL), .int .i64 1] = some (.int .i64 ((1 + 3 * n : Nat) : Int), []) := by
  rw [elaws_heldLeaseS]
  exact held_loop hl n 0 (by omega)
end Go.Eng
