/- reading a text, on both sides -/
import Derived.Test.YtgoidfkdnkjojaaZ
import Derived.Test.YtgoidfkdnkjojaaMove
namespace Go.Eng
open Go.Proofs Go.Proofs.Try
set_option maxHeartbeats 4000000

/-! ## lists -/
noncomputable def listGo : List Int → List Nd → Nat → List Nd × Nat
  | [], q, c => (q, c)
  | x :: r, q, c => listGo r (q ++ [⟨5, 0, ⟨#[]⟩, x, (c : Int)⟩]) q.length
noncomputable def listN (q : List Nd) (row : List Int) : List Nd × Nat := listGo row.reverse (q ++ [⟨1, 0, ⟨#[]⟩, 0, 0⟩]) q.length
theorem listGo_len : ∀ (r : List Int) (q : List Nd) (c : Nat), (listGo r q c).1.length = q.length + r.length
  | [], q, c => rfl
  | x :: r, q, c => by rw [listGo, listGo_len r]; simp only [List.length_append, List.length_cons, List.length_nil]; omega
theorem listN_len (q : List Nd) (row : List Int) : (listN q row).1.length = q.length + row.length + 1 := by
  rw [listN, listGo_len]; simp only [List.length_append, List.length_cons, List.length_nil, List.length_reverse]; omega
theorem fits_snoc {q : List Nd} (h : Fits q) {x : Nd} (hx : x.s.size < 4611686018427387904) : Fits (q ++ [x]) := by
  intro y hy
  rcases List.mem_append.1 hy with h1 | h1
  · exact h y h1
  · rw [List.mem_singleton.1 h1]; exact hx
theorem listGo_fits : ∀ (r : List Int) (q : List Nd) (c : Nat), Fits q → Fits (listGo r q c).1
  | [], q, c, h => h
  | x :: r, q, c, h => listGo_fits r _ _ (fits_snoc h (x := ⟨5, 0, ⟨#[]⟩, x, (c : Int)⟩) (by show (0 : Nat) < _; omega))
theorem listN_fits {q : List Nd} (h : Fits q) (row : List Int) : Fits (listN q row).1 := listGo_fits _ _ _ (fits_snoc h (x := ⟨1, 0, ⟨#[]⟩, 0, 0⟩) (by show (0 : Nat) < _; omega))
theorem take_rev {row : List Int} {k : Nat} {x : Int} (hx : row[k]? = some x) : (row.take (k + 1)).reverse = x :: (row.take k).reverse := by
  rw [List.take_add_one, hx]; simp
theorem v_pair {q : List Nd} (h : q.length < 4294967296) (a b : Int) : V 176 [rP q, .int .i64 a, .int .i64 b] = some (.int .i64 q.length, [rP (q ++ [⟨5, 0, ⟨#[]⟩, a, b⟩])]) := by
  have := v_add h ⟨5, 0, ⟨#[]⟩, a, b⟩
  rw [eimpl_Pool_pair, oc_Pool_add this]
theorem ilist_loop {row : List Int} (hr : row.length < 4294967296) : ∀ (k : Nat) (q : List Nd) (c : Nat), k ≤ row.length → q.length + k < 4294967296 →
    Limpl_Pool_list_3 (row.map eI) (c : Int) ((k : Int) - 1) (q.map eN) = some (.int .i64 (listGo (row.take k).reverse q c).2, [rP (listGo (row.take k).reverse q c).1])
  | 0, q, c, _, _ => by rw [Limpl_Pool_list_3_eq, br_not (decide_eq_false (by omega))]; rfl
  | k + 1, q, c, hk, hq => by
    obtain ⟨x, hx⟩ := get_of_lt (l := row) (i := k) (by omega)
    have hp := v_pair (q := q) (by omega) x c
    have ih := ilist_loop hr k (q ++ [⟨5, 0, ⟨#[]⟩, x, (c : Int)⟩]) q.length (by omega) (by simp only [List.length_append, List.length_cons, List.length_nil]; omega)
    have e : ((k + 1 : Nat) : Int) - 1 = (k : Int) := by omega
    rw [Limpl_Pool_list_3_eq, e, br_of (decide_eq_true (by omega)), grd_of (by rw [List.length_map]; exact in_idx (by omega)), Int.toNat_natCast, oget_map hx, asI_int, oc_Pool_pair hp, w64 (by omega) (by omega), ih, take_rev hx, listGo]
theorem v_list {q : List Nd} {row : List Int} (h : q.length + row.length < 4294967290) : V 164 [rP q, .rs (1, 0) (row.map eI)] = some (.int .i64 (listN q row).2, [rP (listN q row).1]) := by
  have ha := v_add (p := q) (by omega) ⟨1, 0, ⟨#[]⟩, 0, 0⟩
  have hl := ilist_loop (row := row) (by omega) row.length (q ++ [⟨1, 0, ⟨#[]⟩, 0, 0⟩]) q.length (Nat.le_refl _) (by simp only [List.length_append, List.length_cons, List.length_nil]; omega)
  rw [List.take_length] at hl
  rw [eimpl_Pool_list, oc_Pool_add ha, List.length_map, w64 (by simp only [ni]; omega) (by simp only [ni]; omega)]
  exact hl
theorem slist_loop {row : List Int} (hr : row.length < 4294967296) : ∀ (k : Nat) (q : List Nd) (c : Nat), k ≤ row.length → q.length + k < 4294967296 →
    Lspec_l2List_3 (row.map eI) (c : Int) ((k : Int) - 1) (q.map eN) = some (.int .i64 (listGo (row.take k).reverse q c).2, [rP (listGo (row.take k).reverse q c).1])
  | 0, q, c, _, _ => by rw [Lspec_l2List_3_eq, br_not (decide_eq_false (by omega))]; rfl
  | k + 1, q, c, hk, hq => by
    obtain ⟨x, hx⟩ := get_of_lt (l := row) (i := k) (by omega)
    have hp := v_l2Add (p := q) (by omega) ⟨5, 0, ⟨#[]⟩, x, (c : Int)⟩
    have ih := slist_loop hr k (q ++ [⟨5, 0, ⟨#[]⟩, x, (c : Int)⟩]) q.length (by omega) (by simp only [List.length_append, List.length_cons, List.length_nil]; omega)
    have e : ((k + 1 : Nat) : Int) - 1 = (k : Int) := by omega
    rw [Lspec_l2List_3_eq, e, br_of (decide_eq_true (by omega)), grd_of (by rw [List.length_map]; exact in_idx (by omega)), Int.toNat_natCast, oget_map hx, asI_int, oc_s_l2Add hp, w64 (by omega) (by omega), ih, take_rev hx, listGo]
theorem v_l2List {q : List Nd} {row : List Int} (h : q.length + row.length < 4294967290) : V 72 [rP q, .rs (1, 0) (row.map eI)] = some (.int .i64 (listN q row).2, [rP (listN q row).1]) := by
  have ha := v_l2Add (p := q) (by omega) ⟨1, 0, ⟨#[]⟩, 0, 0⟩
  have hl := slist_loop (row := row) (by omega) row.length (q ++ [⟨1, 0, ⟨#[]⟩, 0, 0⟩]) q.length (Nat.le_refl _) (by simp only [List.length_append, List.length_cons, List.length_nil]; omega)
  rw [List.take_length] at hl
  rw [espec_l2List, oc_s_l2Add ha, List.length_map, w64 (by simp only [ni]; omega) (by simp only [ni]; omega)]
  exact hl
/-! ## the walk -/
noncomputable abbrev RwF := Int × List Int
inductive RdR where
  | err (c a : Int)
  | ok (q : List Nd) (row : List Int)
noncomputable def wend (l : List UInt8) (j : Nat) : Nat := j + ((l.drop j).takeWhile wordU).length
noncomputable def readB (l : List UInt8) (G : Nat → List RwF → RwF → List Nd → RdR) (i : Nat) (o : List RwF) (t : RwF) (q : List Nd) : Option UInt8 → RdR
  | none => if o = [] then .ok q t.2 else .err 4 t.1
  | some x =>
      if x = 32 then G (i + 1) o t q
      else if x = 40 then G (i + 1) (t :: o) ((i : Int), []) q
      else if x = 41 then match o with
        | [] => .err 5 (i : Int)
        | u :: o => G (i + 1) o (u.1, u.2 ++ [((listN q t.2).2 : Int)]) (listN q t.2).1
      else if wordU x = true then match wordF ((l.drop i).take (wend l i - i)) with
        | none => .err 3 (i : Int)
        | some nd => G (wend l i) o (t.1, t.2 ++ [(q.length : Int)]) (q ++ [nd])
      else .err 2 (i : Int)
noncomputable def readGo (l : List UInt8) : Nat → Nat → List RwF → RwF → List Nd → RdR
  | 0, _, _, _, _ => .err 1 0
  | k + 1, i, o, t, q => readB l (readGo l k) i o t q l[i]?
theorem readB_n (l : List UInt8) (G : Nat → List RwF → RwF → List Nd → RdR) (i : Nat) (o : List RwF) (t : RwF) (q : List Nd) : readB l G i o t q none = if o = [] then .ok q t.2 else .err 4 t.1 := rfl
theorem readB_s (l : List UInt8) (G : Nat → List RwF → RwF → List Nd → RdR) (i : Nat) (o : List RwF) (t : RwF) (q : List Nd) (x : UInt8) : readB l G i o t q (some x) = (if x = 32 then G (i + 1) o t q
      else if x = 40 then G (i + 1) (t :: o) ((i : Int), []) q
      else if x = 41 then match o with
        | [] => .err 5 (i : Int)
        | u :: o => G (i + 1) o (u.1, u.2 ++ [((listN q t.2).2 : Int)]) (listN q t.2).1
      else if wordU x = true then match wordF ((l.drop i).take (wend l i - i)) with
        | none => .err 3 (i : Int)
        | some nd => G (wend l i) o (t.1, t.2 ++ [(q.length : Int)]) (q ++ [nd])
      else .err 2 (i : Int)) := rfl
theorem readGo_s (l : List UInt8) (k i : Nat) (o : List RwF) (t : RwF) (q : List Nd) : readGo l (k + 1) i o t q = readB l (readGo l k) i o t q l[i]? := rfl
theorem wend_hit {l : List UInt8} {j : Nat} {x : UInt8} (hx : l[j]? = some x) (h : wordU x = true) : wend l j = wend l (j + 1) := by
  unfold wend; rw [drop_at hx, List.takeWhile_cons, if_pos h]; simp only [List.length_cons]; omega
theorem wend_miss {l : List UInt8} {j : Nat} {x : UInt8} (hx : l[j]? = some x) (h : wordU x = false) : wend l j = j := by
  unfold wend; rw [drop_at hx, List.takeWhile_cons, if_neg (by rw [h]; simp)]; rfl
theorem wend_end {l : List UInt8} {j : Nat} (h : l.length ≤ j) : wend l j = j := by
  unfold wend; rw [List.drop_of_length_le h]; rfl
theorem wend_le {l : List UInt8} {j : Nat} (h : j ≤ l.length) : j ≤ wend l j ∧ wend l j ≤ l.length := by
  unfold wend
  have := (List.takeWhile_sublist (p := wordU) (l := l.drop j)).length_le
  rw [List.length_drop] at this
  omega
noncomputable def phi (o : List RwF) (t : RwF) (q : List Nd) : Nat := q.length + t.2.length + (o.map fun x => x.2.length).sum
theorem wordF_size {l : List UInt8} {x : Nd} (h : wordF l = some x) : x.s.size ≤ l.length := by
  unfold wordF nodeF at h
  split at h
  · cases h; exact Nat.zero_le _
  split at h
  · cases h; exact Nat.zero_le _
  split at h
  · cases h; exact Nat.zero_le _
  split at h
  · cases h; exact Nat.le_of_eq (mk_size _)
  · cases h
/-! ## impl -/
noncomputable abbrev eR (x : RwF) : D := .os (1, 0) (x.2.map eI)
noncomputable abbrev rRd (q : List Nd) (o : List D) (a : List D) : D := .op [.os (5, 0) (q.map eN), .os (1, 2) o, .os (1, 0) a]
theorem mid_get {A B : List D} {x : D} (K : D → Option Ret) : oget (A ++ x :: B) A.length K = K x := by simp [oget]
theorem mid_set {A B : List D} {x v : D} : (A ++ x :: B).set A.length v = A ++ v :: B := by simp
theorem len1 {A : List D} {x : D} (h : A.length < 4611686018427387904) : IntKind.wrap IntKind.i64 (ni (A ++ [x]).length - 1) = (A.length : Int) := by
  rw [w64 (by simp only [ni]; omega) (by simp only [ni, List.length_append, List.length_cons, List.length_nil]; omega)]
  simp [ni]
theorem in1 {A : List D} {x : D} : (decide (0 ≤ (A.length : Int)) && decide ((A.length : Int) < ni (A ++ [x]).length)) = true := in_idx (by simp)
theorem lim_l {l : List D} (h : l.length ≤ 4294967296) : decide (ni l.length ≤ LIM) = true := decide_eq_true (by rw [LIM_eq]; simp only [ni]; omega)
theorem v_put {q : List Nd} {A a : List D} {r : List Int} (hA : A.length < 4294967296) (hr : r.length < 4294967290) (v : Int) : V 137 [rRd q (A ++ [.os (1, 0) (r.map eI)]) a, .int .i64 v] = some (.tup [], [rRd q (A ++ [.os (1, 0) ((r ++ [v]).map eI)]) a]) := by
  rw [zeimpl_reading_put, len1 (by omega), grd_of in1, Int.toNat_natCast, mid_get, mid_set]
  have e : ∀ K : List D → Option Ret, asOs (1, 0) (.os (1, 0) (r.map eI)) K = K (r.map eI) := fun K => rfl
  rw [e, grd_of (lim_l (by simp; omega)), nam_eq, grd_of in1, mid_get, mid_set, nam_eq]
  simp
theorem v_close {q : List Nd} {A a : List D} {r s : List Int} {b : D} (hA : A.length < 4294967290) (ha : a.length < 4294967290) (hr : r.length < 4294967290) (hs : q.length + s.length < 4294967290) :
    V 134 [rRd q ((A ++ [.os (1, 0) (r.map eI)]) ++ [.os (1, 0) (s.map eI)]) (a ++ [b])] = some (.bool true, [rRd (listN q s).1 (A ++ [.os (1, 0) ((r ++ [((listN q s).2 : Int)]).map eI)]) a]) := by
  have hl := v_list (q := q) (row := s) hs
  have hp := v_put (q := (listN q s).1) (A := A) (a := a) (r := r) (by omega) hr ((listN q s).2 : Int)
  have e : ∀ K : List D → Option Ret, asOs (1, 0) (.os (1, 0) (s.map eI)) K = K (s.map eI) := fun K => rfl
  have hA1 : (A ++ [D.os (1, 0) (r.map eI)]).length = A.length + 1 := by simp
  have e1 : IntKind.wrap IntKind.i64 (ni ((A ++ [D.os (1, 0) (r.map eI)]) ++ [D.os (1, 0) (s.map eI)]).length - 1) = ((A ++ [D.os (1, 0) (r.map eI)]).length : Int) := len1 (by rw [hA1]; omega)
  have e2 : IntKind.wrap IntKind.i64 (ni (a ++ [b]).length - 1) = (a.length : Int) := len1 (by omega)
  have p1 : ∀ (X : List D) (y : D), part (X ++ [y]) (some (0, X.length)) = X := fun X y => by simp [part]
  rw [eimpl_reading_close, e1, e2, br_not (by rw [hA1]; simp only [beq_eq_false_iff_ne, ne_eq]; omega), grd_of in1, Int.toNat_natCast, Int.toNat_natCast, mid_get, mid_set, e, oc_Pool_list hl, grd_of (by unfold cutOk; simp; try omega), grd_of (by unfold cutOk; simp; try omega), p1, p1, oc_reading_put hp]
noncomputable def wordI (r : Option Nd) (l : List UInt8) (i j : Nat) (q : List Nd) (A a : List D) (t : List Int) : Option Ret := match r with
  | none => some (.tup [.int .i64 3, .int .i64 (i : Int)], [rRd q (A ++ [.os (1, 0) (t.map eI)]) a])
  | some nd => Limpl_reading_text_2 (mk l) (j : Int) ((q ++ [nd]).map eN) (A ++ [.os (1, 0) ((t ++ [(q.length : Int)]).map eI)]) a
theorem iscan {l : List UInt8} (hl : l.length < 1000000000) {i : Nat} {q : List Nd} {A a : List D} {t : List Int} (hq : q.length < 4294967290) (hA : A.length < 4294967290) (ht : t.length < 4294967290) : ∀ (m j : Nat), j + m = l.length → i ≤ j →
    Limpl_reading_text_5 (mk l) (i : Int) (j : Int) (q.map eN) (A ++ [.os (1, 0) (t.map eI)]) a = wordI (wordF ((l.drop i).take (wend l j - i))) l i (wend l j) q A a t
  | m, j, hm, hij => by
    have hcut : cutOk l.length (some (i : Int)) (some (j : Int)) = true := by unfold cutOk; simp; omega
    obtain ⟨x, b, h1, h2⟩ := v_wordNode (l := (l.drop i).take (j - i)) (by simp only [List.length_take, List.length_drop]; omega)
    have ha := v_add (p := q) (by omega) x
    have hp := v_put (q := q ++ [x]) (A := A) (a := a) (r := t) (by omega) ht (q.length : Int)
    match m with
    | 0 =>
      rw [Limpl_reading_text_5_eq, mk_size, br_not (ge_idx (by omega)), grd_of hcut, Int.toNat_natCast, Int.toNat_natCast, extract_mk, oc_i_wordNode h1, wend_end (by omega)]
      cases hw : wordF ((l.drop i).take (j - i)) with
      | none =>
        rw [hw] at h2
        have h2 : b = false := h2
        rw [h2, Bool.not_false, br_true]; rfl
      | some nd =>
        rw [hw] at h2
        obtain ⟨rfl, rfl⟩ : x = nd ∧ b = true := h2
        rw [Bool.not_true, br_false, oc_Pool_add ha, oc_reading_put hp]; rfl
    | m + 1 =>
      obtain ⟨y, hy⟩ := get_of_lt (l := l) (i := j) (by omega)
      have hb := bt_mk hy
      have hwb := v_isWordByte y
      rw [Limpl_reading_text_5_eq, mk_size, br_of (lt_idx (by omega)), grd_of (in_idx (by omega)), hb, oc_i_isWordByte hwb]
      cases hwu : wordU y with
      | true =>
        have ih := iscan hl hq hA ht (A := A) (a := a) (i := i) m (j + 1) (by omega) (by omega)
        rw [br_true, w64s (by omega), ih, wend_hit hy hwu]
      | false =>
        rw [br_false, grd_of hcut, Int.toNat_natCast, Int.toNat_natCast, extract_mk, oc_i_wordNode h1, wend_miss hy hwu]
        cases hw : wordF ((l.drop i).take (j - i)) with
        | none =>
          rw [hw] at h2
          have h2 : b = false := h2
          rw [h2, Bool.not_false, br_true]; rfl
        | some nd =>
          rw [hw] at h2
          obtain ⟨rfl, rfl⟩ : x = nd ∧ b = true := h2
          rw [Bool.not_true, br_false, oc_Pool_add ha, oc_reading_put hp]; rfl
noncomputable def atO : List RwF → RwF → List D
  | [], _ => []
  | u :: o, t => atO o u ++ [.int .i64 t.1]
theorem atO_len : ∀ (o : List RwF) (t : RwF), (atO o t).length = o.length
  | [], _ => rfl
  | u :: o, t => by rw [atO, List.length_append, atO_len o u]; rfl
theorem atO_row (o : List RwF) (t : RwF) (r : List Int) : atO o (t.1, r) = atO o t := by cases o <;> rfl
noncomputable def IR (n : Nat) (r : RdR) (X : Option Ret) : Prop := match r with
  | .err c a => c ≠ 0 ∧ ∃ A B C, X = some (.tup [.int .i64 c, .int .i64 a], [.op [.os (5, 0) A, .os (1, 2) B, .os (1, 0) C]])
  | .ok q row => X = some (.tup [.int .i64 0, .int .i64 (n : Int)], [rRd q [.os (1, 0) (row.map eI)] []])
theorem rows_push (o : List RwF) (t : RwF) : (t :: o).reverse.map eR = o.reverse.map eR ++ [eR t] := by simp
theorem ne_nat {x : UInt8} (c : UInt8) (n : Int) (hn : (c.toNat : Int) = n) (h : ¬ x = c) : ((x.toNat : Int) == n) = false := by
  subst hn
  simp only [beq_eq_false_iff_ne, ne_eq]
  intro e
  exact h (UInt8.toNat_inj.1 (by omega))
theorem iread {l : List UInt8} (hl : l.length < 1000000000) : ∀ (k i : Nat) (o : List RwF) (t : RwF) (q : List Nd), l.length < i + k → i ≤ l.length → phi o t q + 2 * (l.length - i) < 4000000000 → o.length + (l.length - i) < 4000000000 →
    IR l.length (readGo l k i o t q) (Limpl_reading_text_2 (mk l) (i : Int) (q.map eN) (o.reverse.map eR ++ [eR t]) (atO o t))
  | 0, i, o, t, q, h1, h2, _, _ => by omega
  | k + 1, i, o, t, q, h1, h2, h3, h4 => by
    have hph : phi o t q = q.length + t.2.length + (o.map fun x => x.2.length).sum := rfl
    rw [readGo_s]
    by_cases hi : i = l.length
    · have hx : l[i]? = none := List.getElem?_eq_none (by omega)
      rw [hx, zLimpl_reading_text_2_eq, mk_size, br_not (ge_idx (by omega))]
      cases o with
      | nil =>
        have e0 : decide (ni (atO ([] : List RwF) t).length > 0) = false := by rw [atO]; rfl
        rw [br_not e0, readB_n, if_pos rfl]; rfl
      | cons u o =>
        rw [readB_n, if_neg (by simp), br_of (decide_eq_true (by rw [atO_len]; simp only [ni, List.length_cons]; omega)), atO, len1 (by rw [atO_len]; simp only [List.length_cons] at h4; omega), grd_of in1, Int.toNat_natCast, mid_get, asI_int]
        exact ⟨by decide, _, _, _, rfl⟩
    obtain ⟨x, hx⟩ := get_of_lt (l := l) (i := i) (by omega)
    have hb := bt_mk hx
    rw [hx, zLimpl_reading_text_2_eq, mk_size, br_of (lt_idx (by omega)), grd_of (in_idx (by omega)), hb]
    rw [readB_s]
    by_cases h32 : x = 32
    · subst h32
      rw [if_pos rfl, br_of (by rfl), w64s (by omega)]
      exact iread hl k (i + 1) o t q (by omega) (by omega) (by omega) (by omega)
    rw [if_neg h32, br_not (ne_nat 32 32 rfl h32)]
    by_cases h40 : x = 40
    · subst h40
      have hlo : decide (ni (o.reverse.map eR ++ [eR t] ++ [D.os (1, 0) []]).length ≤ LIM) = true := lim_l (by simp only [List.length_append, List.length_map, List.length_reverse, List.length_cons, List.length_nil]; omega)
      rw [if_pos rfl, br_of (by rfl), grd_of hlo, nam_eq, grd_of (lim_l (by rw [List.length_append, atO_len]; simp only [List.length_cons, List.length_nil]; omega)), nam_eq, w64s (by omega)]
      have ih := iread hl k (i + 1) (t :: o) ((i : Int), []) q (by omega) (by omega) (by simp only [phi, List.map_cons, List.sum_cons, List.length_nil]; omega) (by simp only [List.length_cons]; omega)
      rw [rows_push] at ih
      exact ih
    rw [if_neg h40, br_not (ne_nat 40 40 rfl h40)]
    by_cases h41 : x = 41
    · subst h41
      rw [if_pos rfl, br_of (by rfl)]
      cases o with
      | nil =>
        have hc : V 134 [rRd q [eR t] []] = some (.bool false, [rRd q [eR t] []]) := by
          rw [eimpl_reading_close]; rfl
        rw [show ([] : List RwF).reverse.map eR ++ [eR t] = [eR t] from rfl, show atO [] t = [] from rfl, oc_reading_close hc, Bool.not_false, br_true]
        exact ⟨by decide, _, _, _, rfl⟩
      | cons u o =>
        simp only [List.map_cons, List.sum_cons] at hph
        simp only [List.length_cons] at h4
        have hc := v_close (q := q) (A := o.reverse.map eR) (a := atO o u) (r := u.2) (s := t.2) (b := .int .i64 t.1) (by rw [List.length_map, List.length_reverse]; omega) (by rw [atO_len]; omega) (by omega) (by omega)
        rw [rows_push, atO, oc_reading_close hc, Bool.not_true, br_false, w64s (by omega)]
        have ih := iread hl k (i + 1) o (u.1, u.2 ++ [((listN q t.2).2 : Int)]) (listN q t.2).1 (by omega) (by omega) (by simp only [phi, listN_len, List.length_append, List.length_cons, List.length_nil]; omega) (by omega)
        rw [atO_row] at ih
        exact ih
    rw [if_neg h41, br_not (ne_nat 41 41 rfl h41), oc_i_isWordByte (v_isWordByte x)]
    cases hw : wordU x with
    | false =>
      rw [Bool.not_false, br_true, if_neg (by simp)]
      exact ⟨by decide, _, _, _, rfl⟩
    | true =>
      have hs := iscan hl (i := i) (q := q) (A := o.reverse.map eR) (a := atO o t) (t := t.2) (by omega) (by rw [List.length_map, List.length_reverse]; omega) (by omega) (l.length - i) i (by omega) (by omega)
      have hwe := wend_hit hx hw
      have hwl := wend_le (l := l) (j := i + 1) (by omega)
      rw [Bool.not_true, br_false, if_pos rfl, hs]
      cases hwd : wordF ((l.drop i).take (wend l i - i)) with
      | none => exact ⟨by decide, _, _, _, rfl⟩
      | some nd =>
        have ih := iread hl k (wend l i) o (t.1, t.2 ++ [(q.length : Int)]) (q ++ [nd]) (by omega) (by omega) (by simp only [phi, List.length_append, List.length_cons, List.length_nil]; omega) (by omega)
        rw [atO_row] at ih
        exact ih
end Go.Eng
