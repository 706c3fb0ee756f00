/- reading a text: the spec -/
import Derived.Test.YtgoidfkdnkjojaaRead
import Derived.Test.YtgoidfkdnkjojaaEngC
namespace Go.Eng
open Go.Proofs Go.Proofs.Try
set_option maxHeartbeats 4000000

theorem v_cpPool {p : List Nd} (hl : p.length ≤ 4294967296) : V 77 [eP p] = some (oP p, []) := by
  have h : V 133 [.rs (5, 0) (p.map eN)] = some (.os (5, 0) (p.map eN), []) := by
    rw [eslices_Clone_impl_Node_impl_Node, List.nil_append, grd_of (decide_eq_true (by rw [LIM_eq, List.length_map]; simp only [ni]; omega)), nam_eq]
    exact nilb_clone _ _
  rw [eimpl_copyPool]
  simp (disch := first | omega | (simp only [List.length_append, List.length_cons, List.length_nil, List.length_map, mk_size, nat_cast_eq]; omega)) only [↓ocall_ocont, ocont_some, ↓unn_nil, ↓asOs_os, h]
theorem v_cpL2 {p : List Nd} (hl : p.length ≤ 4294967296) : V 71 [eP p] = some (oP p, []) := by
  rw [espec_l2Copy, List.nil_append]
  simp (disch := first | omega | (simp only [List.length_append, List.length_cons, List.length_nil, List.length_map, mk_size, nat_cast_eq]; omega)) only [↓grd_true, ↓nam_eq, dec_t, List.length_map, LIM_eq, nat_cast_eq]

noncomputable abbrev eO (x : RwF) : D := .agg [.int .i64 x.1, .os (1, 0) (x.2.map eI)]
theorem eo_step (t : RwF) (K : List D → List D → Option Ret) : (asAgg (eO t) fun l => oget l 1 fun y => asOs (1, 0) y fun r => asAgg (eO t) fun l2 => K r l2) = K (t.2.map eI) [.int .i64 t.1, .os (1, 0) (t.2.map eI)] := rfl
theorem eo_at (t : RwF) (K : Int → Option Ret) : (asAgg (eO t) fun l => oget l 0 fun y => asI .i64 y fun r => K r) = K t.1 := rfl
theorem tdd (a b : D) : List.take 1 [a, b] ++ [D.dead] ++ List.drop 2 [a, b] = [a, .dead] := rfl
theorem tds (a b c : D) : List.take 1 [a, b] ++ [c] ++ List.drop 2 [a, b] = [a, c] := rfl
theorem part1 (A J : List D) (x : D) : part (A ++ x :: J) (some (0, A.length + 1)) = A ++ [x] := by
  simp only [part, List.drop_zero]
  rw [show A ++ x :: J = (A ++ [x]) ++ J by simp, List.take_left' (by simp)]
noncomputable def SR (P : List D) (n : Nat) (r : RdR) : Option Ret := match r with
  | .err c a => some (.tup [.agg [.os (5, 0) P], .os (1, 0) [], .int .i64 c, .int .i64 a], [])
  | .ok q row => if okPool q = true then some (.tup [.agg [.os (5, 0) (q.map eN)], .os (1, 0) (row.map eI), .int .i64 0, .int .i64 (n : Int)], []) else some (.tup [.agg [.os (5, 0) P], .os (1, 0) [], .int .i64 6, .int .i64 0], [])
noncomputable def wordR (r : Option Nd) (p : List Nd) (i : Nat) (X : Nd → Option Ret) : Option Ret := match r with
  | none => some (.tup [.agg [.os (5, 0) (p.map eN)], .os (1, 0) [], .int .i64 3, .int .i64 (i : Int)], [])
  | some nd => X nd
theorem sscan {l : List UInt8} (hl : l.length < 1000000000) {i : Nat} {p q : List Nd} {A : List D} {t : RwF} (hp : p.length < 4294967290) (hq : q.length < 4294967290) (hA : A.length < 4294967290) (ht : t.2.length < 4294967290) : ∀ (m j : Nat), j + m = l.length → i ≤ j →
    Lspec_Read_27 (mk l) (j : Int) (A.length : Int) (i : Int) (p.map eN) [] (A ++ [eO t]) (q.map eN) = wordR (wordF ((l.drop i).take (wend l j - i))) p i fun nd => Lspec_Read_9 (mk l) (wend l j : Nat) (p.map eN) [] (A ++ [eO (t.1, t.2 ++ [(q.length : Int)])]) ((q ++ [nd]).map eN)
  | m, j, hm, hij => by
    have hcut : cutOk l.length (some (i : Int)) (some (j : Int)) = true := by unfold cutOk; simp; omega
    obtain ⟨x, b, h1, h2⟩ := v_l3Word (l := (l.drop i).take (j - i)) (by simp only [List.length_take, List.length_drop]; omega)
    have ha := v_l2Add (p := q) (by omega) x
    have hc := v_cpL2 (p := p) (by omega)
    have hin : ∀ x : D, (decide (0 ≤ (A.length : Int)) && decide ((A.length : Int) < ni (A ++ [x]).length)) = true := fun x => in_idx (by simp)
    have hlim : decide (ni (t.2.map eI ++ [D.int .i64 (q.length : Int)]).length ≤ LIM) = true := lim_l (by simp only [List.length_append, List.length_map, List.length_cons, List.length_nil]; omega)
    have hrow : (t.2 ++ [(q.length : Int)]).map eI = t.2.map eI ++ [D.int .i64 (q.length : Int)] := by simp
    match m with
    | 0 =>
      rw [zLspec_Read_27_eq, mk_size, br_not (ge_idx (by omega)), grd_of hcut, Int.toNat_natCast, Int.toNat_natCast, extract_mk, oc_s_l3Word h1, wend_end (by omega)]
      cases hw : wordF ((l.drop i).take (j - i)) with
      | none =>
        rw [hw] at h2
        have h2 : b = false := h2
        rw [h2, Bool.not_false, br_true, oc_s_l2Copy hc]; rfl
      | some nd =>
        rw [hw] at h2
        obtain ⟨rfl, rfl⟩ : x = nd ∧ b = true := h2
        rw [Bool.not_true, br_false, grd_of (hin _), Int.toNat_natCast, mid_get, eo_step, oc_s_l2Add ha, grd_of hlim, nam_eq, mid_set, tdd, grd_of (hin _), mid_get, asAgg_agg, mid_set, tds, nam_eq, wordR, eO, hrow]
    | m + 1 =>
      obtain ⟨y, hy⟩ := get_of_lt (l := l) (i := j) (by omega)
      have hb := bt_mk hy
      have hwb := v_l3WordByte y
      rw [zLspec_Read_27_eq, mk_size, br_of (lt_idx (by omega)), grd_of (in_idx (by omega)), hb, oc_s_l3WordByte hwb]
      cases hwu : wordU y with
      | true =>
        have ih := sscan hl hp hq hA ht (A := A) (i := i) m (j + 1) (by omega) (by omega)
        rw [br_true, w64s (by omega), ih, wend_hit hy hwu]
      | false =>
        rw [br_false, grd_of hcut, Int.toNat_natCast, Int.toNat_natCast, extract_mk, oc_s_l3Word h1, wend_miss hy hwu]
        cases hw : wordF ((l.drop i).take (j - i)) with
        | none =>
          rw [hw] at h2
          have h2 : b = false := h2
          rw [h2, Bool.not_false, br_true, oc_s_l2Copy hc]; rfl
        | some nd =>
          rw [hw] at h2
          obtain ⟨rfl, rfl⟩ : x = nd ∧ b = true := h2
          rw [Bool.not_true, br_false, grd_of (hin _), Int.toNat_natCast, mid_get, eo_step, oc_s_l2Add ha, grd_of hlim, nam_eq, mid_set, tdd, grd_of (hin _), mid_get, asAgg_agg, mid_set, tds, nam_eq, wordR, eO, hrow]
theorem in1x {A J : List D} {x : D} : (decide (0 ≤ (A.length : Int)) && decide ((A.length : Int) < ni (A.length + 1)) && decide (0 + (A.length + 1) ≤ (A ++ x :: J).length)) = true := by
  simp only [ni, Bool.and_eq_true, decide_eq_true_eq, List.length_append, List.length_cons]; omega
theorem sscan1 {l : List UInt8} (hl : l.length < 1000000000) {i : Nat} {p q : List Nd} {A J : List D} {t : RwF} (hp : p.length < 4294967290) (hq : q.length < 4294967290) (hA : A.length < 4294967290) (ht : t.2.length < 4294967290) : ∀ (m j : Nat), j + m = l.length → i ≤ j →
    Lspec_Read_27v1 (mk l) (A.length + 1) (j : Int) (A.length : Int) (i : Int) (p.map eN) [] (A ++ eO t :: J) (q.map eN) = wordR (wordF ((l.drop i).take (wend l j - i))) p i fun nd => Lspec_Read_9v1 (mk l) (A.length + 1) (wend l j : Nat) (p.map eN) [] (A ++ eO (t.1, t.2 ++ [(q.length : Int)]) :: J) ((q ++ [nd]).map eN)
  | m, j, hm, hij => by
    have hcut : cutOk l.length (some (i : Int)) (some (j : Int)) = true := by unfold cutOk; simp; omega
    obtain ⟨x, b, h1, h2⟩ := v_l3Word (l := (l.drop i).take (j - i)) (by simp only [List.length_take, List.length_drop]; omega)
    have ha := v_l2Add (p := q) (by omega) x
    have hc := v_cpL2 (p := p) (by omega)
    have hlim : decide (ni (t.2.map eI ++ [D.int .i64 (q.length : Int)]).length ≤ LIM) = true := lim_l (by simp only [List.length_append, List.length_map, List.length_cons, List.length_nil]; omega)
    have hrow : (t.2 ++ [(q.length : Int)]).map eI = t.2.map eI ++ [D.int .i64 (q.length : Int)] := by simp
    match m with
    | 0 =>
      rw [zLspec_Read_27v1_eq, mk_size, br_not (ge_idx (by omega)), grd_of hcut, Int.toNat_natCast, Int.toNat_natCast, extract_mk, oc_s_l3Word h1, wend_end (by omega)]
      cases hw : wordF ((l.drop i).take (j - i)) with
      | none =>
        rw [hw] at h2
        have h2 : b = false := h2
        rw [h2, Bool.not_false, br_true, oc_s_l2Copy hc]; rfl
      | some nd =>
        rw [hw] at h2
        obtain ⟨rfl, rfl⟩ : x = nd ∧ b = true := h2
        rw [Bool.not_true, br_false, grd_of in1x, Int.toNat_natCast, Nat.zero_add, mid_get, eo_step, oc_s_l2Add ha, grd_of hlim, nam_eq, mid_set, tdd, grd_of in1x, mid_get, asAgg_agg, mid_set, tds, nam_eq, wordR, eO, hrow]
    | m + 1 =>
      obtain ⟨y, hy⟩ := get_of_lt (l := l) (i := j) (by omega)
      have hb := bt_mk hy
      have hwb := v_l3WordByte y
      rw [zLspec_Read_27v1_eq, mk_size, br_of (lt_idx (by omega)), grd_of (in_idx (by omega)), hb, oc_s_l3WordByte hwb]
      cases hwu : wordU y with
      | true =>
        have ih := sscan1 hl hp hq hA ht (A := A) (J := J) (i := i) m (j + 1) (by omega) (by omega)
        rw [br_true, w64s (by omega), ih, wend_hit hy hwu]
      | false =>
        rw [br_false, grd_of hcut, Int.toNat_natCast, Int.toNat_natCast, extract_mk, oc_s_l3Word h1, wend_miss hy hwu]
        cases hw : wordF ((l.drop i).take (j - i)) with
        | none =>
          rw [hw] at h2
          have h2 : b = false := h2
          rw [h2, Bool.not_false, br_true, oc_s_l2Copy hc]; rfl
        | some nd =>
          rw [hw] at h2
          obtain ⟨rfl, rfl⟩ : x = nd ∧ b = true := h2
          rw [Bool.not_true, br_false, grd_of in1x, Int.toNat_natCast, Nat.zero_add, mid_get, eo_step, oc_s_l2Add ha, grd_of hlim, nam_eq, mid_set, tdd, grd_of in1x, mid_get, asAgg_agg, mid_set, tds, nam_eq, wordR, eO, hrow]
/-! ## the walk -/
theorem set2 {A J : List D} {x y v : D} : ((A ++ [x]) ++ y :: J).set (A.length + 1) v = A ++ x :: v :: J := by
  have := mid_set (A := A ++ [x]) (B := J) (x := y) (v := v)
  rw [List.length_append, List.length_singleton] at this
  rw [this, List.append_assoc]; rfl
theorem get2 {A J : List D} {x y : D} (K : D → Option Ret) : oget ((A ++ [x]) ++ y :: J) (A.length + 1) K = K y := by
  have := mid_get (A := A ++ [x]) (B := J) (x := y) K
  rw [List.length_append, List.length_singleton] at this
  exact this
theorem w_dec {n : Nat} (h : n < 4611686018427387904) : IntKind.wrap IntKind.i64 (((n + 1 : Nat) : Int) - 1) = (n : Int) := by
  rw [w64 (by omega) (by omega)]; omega
theorem SR_ok (P : List D) (n : Nat) (q : List Nd) (row : List Int) : SR P n (.ok q row) = if okPool q = true then some (.tup [.agg [.os (5, 0) (q.map eN)], .os (1, 0) (row.map eI), .int .i64 0, .int .i64 (n : Int)], []) else some (.tup [.agg [.os (5, 0) P], .os (1, 0) [], .int .i64 6, .int .i64 0], []) := rfl
theorem sread {l : List UInt8} (hl : l.length < 1000000000) {p : List Nd} (hp : p.length < 4294967290) : ∀ (k i : Nat) (o : List RwF) (t : RwF) (q : List Nd), l.length < i + k → i ≤ l.length → phi o t q + 2 * (l.length - i) < 4000000000 → o.length + (l.length - i) < 4000000000 → Fits q →
    Lspec_Read_9 (mk l) (i : Int) (p.map eN) [] (o.reverse.map eO ++ [eO t]) (q.map eN) = SR (p.map eN) l.length (readGo l k i o t q) ∧
    ∀ J, Lspec_Read_9v1 (mk l) (o.length + 1) (i : Int) (p.map eN) [] (o.reverse.map eO ++ eO t :: J) (q.map eN) = SR (p.map eN) l.length (readGo l k i o t q)
  | 0, i, o, t, q, h1, h2, _, _, _ => by omega
  | k + 1, i, o, t, q, h1, h2, h3, h4, hf => by
    have hph : phi o t q = q.length + t.2.length + (o.map fun x => x.2.length).sum := rfl
    have hc := v_cpL2 (p := p) (by omega)
    have hAl : (o.reverse.map eO).length = o.length := by rw [List.length_map, List.length_reverse]
    have hn1 : (o.reverse.map eO ++ [eO t]).length = o.length + 1 := by rw [List.length_append, hAl]; rfl
    have hw1 : IntKind.wrap IntKind.i64 (ni (o.length + 1) - 1) = ((o.reverse.map eO).length : Int) := by rw [hAl]; exact w_dec (by omega)
    have hin : ∀ J, (decide (0 ≤ ((o.reverse.map eO).length : Int)) && decide (((o.reverse.map eO).length : Int) < ni (o.length + 1)) && decide (0 + (o.length + 1) ≤ (o.reverse.map eO ++ eO t :: J).length)) = true := fun J => by
      rw [← hAl]; exact in1x
    rw [readGo_s]
    by_cases hi : i = l.length
    · have hx : l[i]? = none := List.getElem?_eq_none (by omega)
      have hok := v_spec_PoolOk hf (by omega)
      rw [hx, readB_n]
      cases o with
      | nil =>
        have hlim : decide (ni ([] ++ t.2.map eI).length ≤ LIM) = true := lim_l (by rw [List.nil_append, List.length_map]; omega)
        rw [if_pos rfl]
        constructor
        · rw [zLspec_Read_9_eq, mk_size, br_not (ge_idx (by omega)), br_not (by rfl), oc_s_PoolOk hok]
          rw [SR_ok]
          cases hq : okPool q with
          | false => rw [Bool.not_false, br_true, oc_s_l2Copy hc, if_neg (by simp)]
          | true => rw [Bool.not_true, br_false, grd_of (by rfl), if_pos rfl, show ∀ K : D → Option Ret, oget (([] : List RwF).reverse.map eO ++ [eO t]) 0 K = K (eO t) from fun K => rfl, eo_step, grd_of hlim, nam_eq, List.nil_append]
        · intro J
          rw [zLspec_Read_9v1_eq, mk_size, br_not (ge_idx (by omega)), br_not (by rfl), oc_s_PoolOk hok]
          rw [SR_ok]
          cases hq : okPool q with
          | false => rw [Bool.not_false, br_true, oc_s_l2Copy hc, if_neg (by simp)]
          | true => rw [Bool.not_true, br_false, grd_of (by simp [ni]), if_pos rfl, show ∀ K : D → Option Ret, oget (([] : List RwF).reverse.map eO ++ eO t :: J) 0 K = K (eO t) from fun K => rfl, eo_step, grd_of hlim, nam_eq, List.nil_append]
      | cons u o =>
        rw [if_neg (by simp)]
        constructor
        · rw [zLspec_Read_9_eq, mk_size, br_not (ge_idx (by omega)), hn1, br_of (decide_eq_true (by simp only [ni, List.length_cons]; omega)), oc_s_l2Copy hc, hw1, grd_of (by rw [hAl]; exact in_idx (by omega)), Int.toNat_natCast, mid_get, eo_at]; rfl
        · intro J
          rw [zLspec_Read_9v1_eq, mk_size, br_not (ge_idx (by omega)), br_of (decide_eq_true (by simp only [ni, List.length_cons]; omega)), oc_s_l2Copy hc, hw1, grd_of (hin J), Int.toNat_natCast, Nat.zero_add, mid_get, eo_at]; rfl
    obtain ⟨x, hx⟩ := get_of_lt (l := l) (i := i) (by omega)
    have hb := bt_mk hx
    rw [hx, readB_s]
    by_cases h32 : x = 32
    · subst h32
      have ih := sread hl hp k (i + 1) o t q (by omega) (by omega) (by omega) (by omega) hf
      rw [if_pos rfl]
      constructor
      · rw [zLspec_Read_9_eq, mk_size, br_of (lt_idx (by omega)), grd_of (in_idx (by omega)), hb, br_of (by rfl), w64s (by omega)]
        exact ih.1
      · intro J
        rw [zLspec_Read_9v1_eq, mk_size, br_of (lt_idx (by omega)), grd_of (in_idx (by omega)), hb, br_of (by rfl), w64s (by omega)]
        exact ih.2 J
    rw [if_neg h32]
    by_cases h40 : x = 40
    · subst h40
      have hlo : decide (ni (o.reverse.map eO ++ [eO t] ++ [D.agg [.int .i64 (i : Int), .os (1, 0) []]]).length ≤ LIM) = true := lim_l (by rw [List.length_append, hn1]; simp only [List.length_cons, List.length_nil]; omega)
      have ih := (sread hl hp k (i + 1) (t :: o) ((i : Int), []) q (by omega) (by omega) (by simp only [phi, List.map_cons, List.sum_cons, List.length_nil]; omega) (by simp only [List.length_cons]; omega) hf).1
      rw [show (t :: o).reverse.map eO = o.reverse.map eO ++ [eO t] by simp] at ih
      rw [if_pos rfl]
      constructor
      · rw [zLspec_Read_9_eq, mk_size, br_of (lt_idx (by omega)), grd_of (in_idx (by omega)), hb, br_not (by rfl), br_of (by rfl), grd_of hlo, nam_eq, w64s (by omega)]
        exact ih
      · intro J
        have hpt := part1 (o.reverse.map eO) J (eO t)
        rw [hAl] at hpt
        rw [zLspec_Read_9v1_eq, mk_size, br_of (lt_idx (by omega)), grd_of (in_idx (by omega)), hb, br_not (by rfl), br_of (by rfl), hpt, grd_of hlo, nam_eq, w64s (by omega)]
        exact ih
    rw [if_neg h40]
    by_cases h41 : x = 41
    · subst h41
      rw [if_pos rfl]
      cases o with
      | nil =>
        constructor
        · rw [zLspec_Read_9_eq, mk_size, br_of (lt_idx (by omega)), grd_of (in_idx (by omega)), hb, br_not (by rfl), br_not (by rfl), br_of (by rfl), hn1, hw1, br_of (by rfl), oc_s_l2Copy hc]; rfl
        · intro J
          rw [zLspec_Read_9v1_eq, mk_size, br_of (lt_idx (by omega)), grd_of (in_idx (by omega)), hb, br_not (by rfl), br_not (by rfl), br_of (by rfl), hw1, br_of (by rfl), oc_s_l2Copy hc]; rfl
      | cons u o =>
        simp only [List.map_cons, List.sum_cons] at hph
        simp only [List.length_cons] at h4
        have hll := v_l2List (q := q) (row := t.2) (by omega)
        have ih := (sread hl hp k (i + 1) o (u.1, u.2 ++ [((listN q t.2).2 : Int)]) (listN q t.2).1 (by omega) (by omega) (by simp only [phi, listN_len, List.length_append, List.length_cons, List.length_nil]; omega) (by omega) (listN_fits hf _)).2
        obtain ⟨O, hO⟩ : ∃ O, O = o.reverse.map eO := ⟨_, rfl⟩
        have hA : O.length = o.length := by rw [hO, List.length_map, List.length_reverse]
        have hrev : (u :: o).reverse.map eO = O ++ [eO u] := by rw [hO]; simp
        have hlim : decide (ni (u.2.map eI ++ [D.int .i64 ((listN q t.2).2 : Int)]).length ≤ LIM) = true := lim_l (by simp only [List.length_append, List.length_map, List.length_cons, List.length_nil]; omega)
        have hrow : (u.2 ++ [((listN q t.2).2 : Int)]).map eI = u.2.map eI ++ [D.int .i64 ((listN q t.2).2 : Int)] := by simp
        have hl2 : (u :: o).length = O.length + 1 := by rw [hA]; rfl
        have hn2 : (O ++ [eO u] ++ [eO t]).length = O.length + 1 + 1 := by simp
        have hw2 : IntKind.wrap IntKind.i64 (ni (O.length + 1 + 1) - 1) = ((O.length + 1 : Nat) : Int) := w_dec (by omega)
        have hw3 : IntKind.wrap IntKind.i64 (((O.length + 1 : Nat) : Int) - 1) = (O.length : Int) := w_dec (by omega)
        have hne : (((O.length + 1 : Nat) : Int) == 0) = false := by simp only [beq_eq_false_iff_ne, ne_eq]; omega
        rw [← hA, ← hO] at ih
        rw [hrev, hl2]
        constructor
        · rw [zLspec_Read_9_eq, mk_size, br_of (lt_idx (by omega)), grd_of (in_idx (by omega)), hb, br_not (by rfl), br_not (by rfl), br_of (by rfl), hn2, hw2, br_not hne, grd_of (in_idx (by omega)), Int.toNat_natCast, get2, eo_step, oc_s_l2List hll, tdd, set2, hw3, Int.toNat_natCast, Nat.zero_add O.length]
          rw [grd_of (by unfold cutOk; simp; try omega), grd_of in1x, mid_get, eo_step, grd_of hlim, nam_eq, mid_set, tdd, grd_of in1x, mid_get, asAgg_agg, mid_set, tds, nam_eq, w64s (by omega), ← hrow]
          exact ih _
        · intro J
          rw [zLspec_Read_9v1_eq, mk_size, br_of (lt_idx (by omega)), grd_of (in_idx (by omega)), hb, br_not (by rfl), br_not (by rfl), br_of (by rfl), hw2, br_not hne, grd_of (by simp only [ni, Bool.and_eq_true, decide_eq_true_eq, List.length_append, List.length_cons, List.length_nil]; omega), Int.toNat_natCast, Nat.zero_add (O.length + 1), get2, eo_step, oc_s_l2List hll, tdd, set2, hw3, Int.toNat_natCast, Nat.zero_add O.length]
          rw [grd_of (by unfold cutOkX; simp; try omega), grd_of (by have := in1x (A := O) (J := D.agg [.int .i64 t.1, .dead] :: J) (x := eO u); rwa [Nat.zero_add] at this), mid_get, eo_step, grd_of hlim, nam_eq, mid_set, tdd, grd_of (by have := in1x (A := O) (J := D.agg [.int .i64 t.1, .dead] :: J) (x := .agg [.int .i64 u.1, .dead]); rwa [Nat.zero_add] at this), mid_get, asAgg_agg, mid_set, tds, nam_eq, w64s (by omega), ← hrow]
          exact ih _
    rw [if_neg h41]
    have hwb := v_l3WordByte x
    cases hw : wordU x with
    | false =>
      rw [hw] at hwb
      rw [if_neg (by simp)]
      constructor
      · rw [zLspec_Read_9_eq, mk_size, br_of (lt_idx (by omega)), grd_of (in_idx (by omega)), hb, br_not (ne_nat 32 32 rfl h32), br_not (ne_nat 40 40 rfl h40), br_not (ne_nat 41 41 rfl h41), oc_s_l3WordByte hwb, br_false, oc_s_l2Copy hc]; rfl
      · intro J
        rw [zLspec_Read_9v1_eq, mk_size, br_of (lt_idx (by omega)), grd_of (in_idx (by omega)), hb, br_not (ne_nat 32 32 rfl h32), br_not (ne_nat 40 40 rfl h40), br_not (ne_nat 41 41 rfl h41), oc_s_l3WordByte hwb, br_false, oc_s_l2Copy hc]; rfl
    | true =>
      rw [hw] at hwb
      have hs := sscan hl (i := i) (p := p) (q := q) (A := o.reverse.map eO) (t := t) hp (by omega) (by rw [hAl]; omega) (by omega) (l.length - i) i (by omega) (by omega)
      have hs1 := fun J => sscan1 hl (i := i) (p := p) (q := q) (A := o.reverse.map eO) (J := J) (t := t) hp (by omega) (by rw [hAl]; omega) (by omega) (l.length - i) i (by omega) (by omega)
      rw [hAl] at hs hs1
      have hwe := wend_hit hx hw
      have hwl := wend_le (l := l) (j := i + 1) (by omega)
      rw [hAl] at hw1
      rw [if_pos rfl]
      constructor
      · rw [zLspec_Read_9_eq, mk_size, br_of (lt_idx (by omega)), grd_of (in_idx (by omega)), hb, br_not (ne_nat 32 32 rfl h32), br_not (ne_nat 40 40 rfl h40), br_not (ne_nat 41 41 rfl h41), oc_s_l3WordByte hwb, br_true, hn1, hw1, hs]
        cases hwd : wordF ((l.drop i).take (wend l i - i)) with
        | none => rfl
        | some nd =>
          have hz := wordF_size hwd
          exact (sread hl hp k (wend l i) o (t.1, t.2 ++ [(q.length : Int)]) (q ++ [nd]) (by omega) (by omega) (by simp only [phi, List.length_append, List.length_cons, List.length_nil]; omega) (by omega) (fits_snoc hf (by rw [List.length_take, List.length_drop] at hz; omega))).1
      · intro J
        rw [zLspec_Read_9v1_eq, mk_size, br_of (lt_idx (by omega)), grd_of (in_idx (by omega)), hb, br_not (ne_nat 32 32 rfl h32), br_not (ne_nat 40 40 rfl h40), br_not (ne_nat 41 41 rfl h41), oc_s_l3WordByte hwb, br_true, hw1, hs1]
        cases hwd : wordF ((l.drop i).take (wend l i - i)) with
        | none => rfl
        | some nd =>
          have hz := wordF_size hwd
          exact (sread hl hp k (wend l i) o (t.1, t.2 ++ [(q.length : Int)]) (q ++ [nd]) (by omega) (by omega) (by simp only [phi, List.length_append, List.length_cons, List.length_nil]; omega) (by omega) (fits_snoc hf (by rw [List.length_take, List.length_drop] at hz; omega))).2 J
end Go.Eng
