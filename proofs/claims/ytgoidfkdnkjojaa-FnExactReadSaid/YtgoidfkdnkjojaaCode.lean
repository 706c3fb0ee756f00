/- code and machines: when they are right, on both sides -/
import Derived.Test.YtgoidfkdnkjojaaWrite3
import Derived.Test.YtgoidfkdnkjojaaKeep2
namespace Go.Eng
open Go.Proofs Go.Proofs.Try
set_option maxHeartbeats 4000000

structure In where
  op : Int
  n : Int
  i : Int
  s : ByteArray
structure Df where
  name : ByteArray
  at' : Int
  args : Int
structure Cd where
  pool : List Nd
  list : List In
  defs : List Df
noncomputable abbrev eIn (x : In) : D := .agg [.int .i64 x.op, .int .i64 x.n, .int .i64 x.i, .str x.s]
noncomputable abbrev eDf (x : Df) : D := .agg [.str x.name, .int .i64 x.at', .int .i64 x.args]
noncomputable abbrev eCd (c : Cd) : D := .agg [.rs (5, 0) (c.pool.map eN), .rs (4, 0) (c.list.map eIn), .rs (3, 0) (c.defs.map eDf)]
noncomputable abbrev oCd (c : Cd) : D := .agg [.os (5, 0) (c.pool.map eN), .os (4, 0) (c.list.map eIn), .os (3, 0) (c.defs.map eDf)]
structure FitsC (c : Cd) : Prop where
  pool : Fits c.pool
  plen : c.pool.length < 4611686018427387904
  list : ∀ x ∈ c.list, x.s.size < 4611686018427387904
  llen : c.list.length < 4611686018427387904
  defs : ∀ x ∈ c.defs, x.name.size < 4611686018427387904
  dlen : c.defs.length < 4611686018427387904
section
variable {R : Type}
theorem in_all (x : In) (K : Int → Int → Int → ByteArray → Option R) : asAgg (eIn x) (fun l1 => unc l1 fun x2 l3 => asI .i64 x2 fun n4 => unc l3 fun x5 l6 => asI .i64 x5 fun n7 => unc l6 fun x8 l9 => asI .i64 x8 fun n10 => unc l9 fun x11 l12 => asS x11 fun s13 => unn l12 (K n4 n7 n10 s13)) = K x.op x.n x.i x.s := rfl
end
/-! ## definitions -/
noncomputable def defOf (c : Cd) (s : ByteArray) : Int := posB (fun d : Df => strEq d.name s) c.defs
theorem impl_def_loop {l : List Df} (hl : l.length < 4611686018427387904) (s : ByteArray) : ∀ (k i : Nat), i + k = l.length → LIndexFunc_DefOf_2 (l.map eDf) s (ni (l.map eDf).length) (i : Int) = some (.int .i64 (posFrom (fun d : Df => strEq d.name s) l i), [])
  | 0, i, hi => by
    rw [LIndexFunc_DefOf_2_eq, posFrom_end (by omega)]
    simp (disch := first | omega | (simp only [List.length_append, List.length_cons, List.length_nil, List.length_map, mk_size, nat_cast_eq]; omega)) only [↓br_false, dec_f, List.length_map, nat_cast_eq]
  | k + 1, i, hi => by
    obtain ⟨x, hx⟩ := get_of_lt (l := l) (i := i) (by omega)
    have ih := impl_def_loop hl s k (i + 1) (by omega)
    have hd : V 179 [eDf x, .bp [.str s]] = some (.bool (strEq x.name s), []) := by rw [eDefOf_1]
    have hw : IntKind.wrap IntKind.i64 ((i : Int) + 1) = ((i + 1 : Nat) : Int) := w64s (by omega)
    rw [LIndexFunc_DefOf_2_eq]
    cases h : strEq x.name s with
    | true => rw [posFrom_hit hx h]; rw [h] at hd; simp (disch := first | omega | (simp only [List.length_append, List.length_cons, List.length_nil, List.length_map, mk_size, nat_cast_eq]; omega)) only [↓ocall_ocont, ocont_some, ↓br_true, ↓grd_true, ↓unn_nil, ↓unc_cons, ↓asI_int, ↓asB_bool, ↓asS_str, ↓asAgg_agg, ↓oget_nat, dec_t, Bool.and_true, List.length_map, nat_cast_eq, ↓oget_map hx, hd]
    | false =>
      rw [h] at hd
      rw [posFrom_miss hx h, ← ih, List.length_map]; simp (disch := first | omega | (simp only [List.length_append, List.length_cons, List.length_nil, List.length_map, mk_size, nat_cast_eq]; omega)) only [↓ocall_ocont, ocont_some, ↓br_true, ↓br_false, ↓grd_true, ↓unn_nil, ↓unc_cons, ↓asI_int, ↓asB_bool, ↓asS_str, ↓asAgg_agg, ↓oget_nat, dec_t, Bool.and_true, nat_cast_eq, ↓oget_map hx, hd, hw]
theorem v_impl_DefOf {c : Cd} (hf : FitsC c) (s : ByteArray) : V 174 [eCd c, .str s] = some (.int .i64 (defOf c s), []) := by
  have h := impl_def_loop hf.dlen s c.defs.length 0 (Nat.zero_add _)
  rw [posFrom_zero, Int.natCast_zero] at h
  have h2 : V 178 [.rs (3, 0) (c.defs.map eDf), .fn 179 [.bp [.str s]]] = some (.int .i64 (defOf c s), []) := by
    rw [eIndexFunc_DefOf]; exact h
  rw [eimpl_DefOf]
  simp (disch := first | omega | (simp only [List.length_append, List.length_cons, List.length_nil, List.length_map, mk_size, nat_cast_eq]; omega)) only [↓ocall_ocont, ocont_some, ↓unn_nil, ↓asI_int, h2]
theorem spec_def_loop {l : List Df} (hl : l.length < 4611686018427387904) (s : ByteArray) (p q : List D) : ∀ (k i : Nat), i + k = l.length → Lspec_DefOf_2 s (i : Int) p q (l.map eDf) = some (.int .i64 (posFrom (fun d : Df => strEq d.name s) l i), [])
  | 0, i, hi => by
    rw [Lspec_DefOf_2_eq, posFrom_end (by omega)]
    simp (disch := first | omega | (simp only [List.length_append, List.length_cons, List.length_nil, List.length_map, mk_size, nat_cast_eq]; omega)) only [↓br_false, dec_f, List.length_map, nat_cast_eq]
  | k + 1, i, hi => by
    obtain ⟨x, hx⟩ := get_of_lt (l := l) (i := i) (by omega)
    have ih := spec_def_loop hl s p q k (i + 1) (by omega)
    have hw : IntKind.wrap IntKind.i64 ((i : Int) + 1) = ((i + 1 : Nat) : Int) := w64s (by omega)
    rw [Lspec_DefOf_2_eq]
    cases h : strEq x.name s with
    | true => rw [posFrom_hit hx h]; simp (disch := first | omega | (simp only [List.length_append, List.length_cons, List.length_nil, List.length_map, mk_size, nat_cast_eq]; omega)) only [↓br_true, ↓grd_true, ↓asS_str, ↓asAgg_agg, ↓oget_lit0, oget_lit0, ↓oget_nat, dec_t, Bool.and_true, List.length_map, nat_cast_eq, ↓oget_map hx, h]
    | false => rw [posFrom_miss hx h, ← ih]; simp (disch := first | omega | (simp only [List.length_append, List.length_cons, List.length_nil, List.length_map, mk_size, nat_cast_eq]; omega)) only [↓br_true, ↓br_false, ↓grd_true, ↓asS_str, ↓asAgg_agg, ↓oget_lit0, oget_lit0, ↓oget_nat, dec_t, Bool.and_true, List.length_map, nat_cast_eq, ↓oget_map hx, h, hw]
theorem v_spec_DefOf {c : Cd} (hf : FitsC c) (s : ByteArray) : V 172 [eCd c, .str s] = some (.int .i64 (defOf c s), []) := by
  have h := spec_def_loop hf.dlen s (c.pool.map eN) (c.list.map eIn) c.defs.length 0 (Nat.zero_add _)
  rw [posFrom_zero, Int.natCast_zero] at h
  rw [espec_DefOf]
  exact h

/-! ## instructions -/
noncomputable def okIn (c : Cd) (x : In) (k : Int) : Bool :=
  if x.op = 1 then wi x.n 0 ((c.pool.length : Int) - 1) && (x.i == 0 && nz x.s)
  else if x.op = 2 then wi x.n 0 20 && (wi x.i 0 3 && nz x.s)
  else if x.op = 3 then x.n == 0 && (x.i == 0 && nmOk x.s)
  else if x.op = 4 ∨ x.op = 5 then wi x.n (k + 1) (c.list.length : Int) && (x.i == 0 && nz x.s)
  else if x.op = 6 then wi x.n (k + 1) ((c.list.length : Int) - 1) && (wi x.i 0 4 && nz x.s)
  else if x.op = 7 then x.n == 0 && (wi x.i 0 4 && nz x.s)
  else if x.op = 8 ∨ x.op = 9 then x.n == 0 && (x.i == 0 && nz x.s)
  else false
theorem wi_gt (n k h : Int) : wi n (k + 1) h = (decide (n > k) && decide (n ≤ h)) := by
  unfold wi
  congr 1
theorem wi_gt' (n k h : Int) : wi n (k + 1) (h - 1) = (decide (n > k) && decide (n < h)) := by
  unfold wi
  congr 1
  exact decide_eq_decide.2 (by omega)
theorem v_impl_instrOk {c : Cd} (hf : FitsC c) {k : Nat} {x : In} (hx : c.list[k]? = some x) : V 173 [eCd c, .int .i64 (k : Int)] = some (.bool (okIn c x k), []) := by
  have hk := lt_of_get hx
  have hl := hf.llen
  have hp := hf.plen
  have hs := hf.list x (List.mem_of_getElem? hx)
  rw [eimpl_instrOk]
  unfold okIn
  have hnm := v_impl_NameOk hs
  have hnode := v_isNode hp x.n
  by_cases h1 : x.op = 1
  · rw [if_pos h1]; simp (disch := first | omega | (simp only [List.length_append, List.length_cons, List.length_nil, List.length_map, mk_size, nat_cast_eq]; omega)) only [↓ocall_ocont, ocont_some, ↓br_true, ↓grd_true, ↓unn_nil, ↓unc_cons, ↓asI_int, ↓asB_bool, ↓asS_str, ↓asAgg_agg, ↓oget_nat, dec_t, beq_t, Bool.and_true, List.length_map, nat_cast_eq, ↓oget_map hx, hnode]; simp only [br_and]; rfl
  rw [if_neg h1]
  by_cases h2 : x.op = 2
  · rw [if_pos h2]; simp (disch := first | omega | (simp only [List.length_append, List.length_cons, List.length_nil, List.length_map, mk_size, nat_cast_eq]; omega)) only [↓ocall_ocont, ocont_some, ↓br_true, ↓br_false, ↓grd_true, ↓unn_nil, ↓unc_cons, ↓asI_int, ↓asB_bool, ↓asS_str, ↓asAgg_agg, ↓oget_nat, dec_t, beq_t, beq_f, Bool.and_true, List.length_map, nat_cast_eq, ↓oget_map hx, v_within]; simp only [br_and]; rfl
  rw [if_neg h2]
  by_cases h3 : x.op = 3
  · rw [if_pos h3]; simp (disch := first | omega | (simp only [List.length_append, List.length_cons, List.length_nil, List.length_map, mk_size, nat_cast_eq]; omega)) only [↓ocall_ocont, ocont_some, ↓br_true, ↓br_false, ↓grd_true, ↓unn_nil, ↓unc_cons, ↓asI_int, ↓asB_bool, ↓asS_str, ↓asAgg_agg, ↓oget_nat, dec_t, beq_t, beq_f, Bool.and_true, List.length_map, nat_cast_eq, ↓oget_map hx, hnm]; simp only [br_and]
  rw [if_neg h3]
  by_cases h4 : x.op = 4
  · rw [if_pos (.inl h4)]; simp (disch := first | omega | (simp only [List.length_append, List.length_cons, List.length_nil, List.length_map, mk_size, nat_cast_eq]; omega)) only [↓ocall_ocont, ocont_some, ↓br_true, ↓br_false, ↓grd_true, ↓unn_nil, ↓unc_cons, ↓asI_int, ↓asB_bool, ↓asS_str, ↓asAgg_agg, ↓oget_nat, dec_t, beq_t, beq_f, Bool.and_true, List.length_map, wS, nat_cast_eq, ↓oget_map hx, v_within]; simp only [br_and]; rfl
  by_cases h5 : x.op = 5
  · rw [if_pos (.inr h5)]; simp (disch := first | omega | (simp only [List.length_append, List.length_cons, List.length_nil, List.length_map, mk_size, nat_cast_eq]; omega)) only [↓ocall_ocont, ocont_some, ↓br_true, ↓br_false, ↓grd_true, ↓unn_nil, ↓unc_cons, ↓asI_int, ↓asB_bool, ↓asS_str, ↓asAgg_agg, ↓oget_nat, dec_t, beq_t, beq_f, Bool.and_true, List.length_map, wS, nat_cast_eq, ↓oget_map hx, v_within]; simp only [br_and]; rfl
  rw [if_neg (by omega)]
  by_cases h6 : x.op = 6
  · rw [if_pos h6]; simp (disch := first | omega | (simp only [List.length_append, List.length_cons, List.length_nil, List.length_map, mk_size, nat_cast_eq]; omega)) only [↓ocall_ocont, ocont_some, ↓br_true, ↓br_false, ↓grd_true, ↓unn_nil, ↓unc_cons, ↓asI_int, ↓asB_bool, ↓asS_str, ↓asAgg_agg, ↓oget_nat, dec_t, beq_t, beq_f, Bool.and_true, List.length_map, wS, nat_cast_eq, ↓oget_map hx, v_within]; simp only [br_and]; rfl
  rw [if_neg h6]
  by_cases h7 : x.op = 7
  · rw [if_pos h7]; simp (disch := first | omega | (simp only [List.length_append, List.length_cons, List.length_nil, List.length_map, mk_size, nat_cast_eq]; omega)) only [↓ocall_ocont, ocont_some, ↓br_true, ↓br_false, ↓grd_true, ↓unn_nil, ↓unc_cons, ↓asI_int, ↓asB_bool, ↓asS_str, ↓asAgg_agg, ↓oget_nat, dec_t, beq_t, beq_f, Bool.and_true, List.length_map, nat_cast_eq, ↓oget_map hx, v_within]; simp only [br_and]; rfl
  rw [if_neg h7]
  by_cases h8 : x.op = 8
  · rw [if_pos (.inl h8)]; simp (disch := first | omega | (simp only [List.length_append, List.length_cons, List.length_nil, List.length_map, mk_size, nat_cast_eq]; omega)) only [↓br_true, ↓br_false, ↓grd_true, ↓unn_nil, ↓unc_cons, ↓asI_int, ↓asS_str, ↓asAgg_agg, ↓oget_nat, dec_t, beq_t, beq_f, Bool.and_true, List.length_map, nat_cast_eq, ↓oget_map hx]; simp only [br_and]; rfl
  by_cases h9 : x.op = 9
  · rw [if_pos (.inr h9)]; simp (disch := first | omega | (simp only [List.length_append, List.length_cons, List.length_nil, List.length_map, mk_size, nat_cast_eq]; omega)) only [↓br_true, ↓br_false, ↓grd_true, ↓unn_nil, ↓unc_cons, ↓asI_int, ↓asS_str, ↓asAgg_agg, ↓oget_nat, dec_t, beq_t, beq_f, Bool.and_true, List.length_map, nat_cast_eq, ↓oget_map hx]; simp only [br_and]; rfl
  rw [if_neg (by omega)]
  simp (disch := first | omega | (simp only [List.length_append, List.length_cons, List.length_nil, List.length_map, mk_size, nat_cast_eq]; omega)) only [↓br_false, ↓grd_true, ↓unn_nil, ↓unc_cons, ↓asI_int, ↓asS_str, ↓asAgg_agg, ↓oget_nat, dec_t, beq_f, Bool.and_true, List.length_map, nat_cast_eq, ↓oget_map hx]
theorem v_l4Instr {c : Cd} (hf : FitsC c) {k : Nat} {x : In} (hx : c.list[k]? = some x) : V 171 [eCd c, .int .i64 (k : Int)] = some (.bool (okIn c x k), []) := by
  have hk := lt_of_get hx
  have hl := hf.llen
  have hp := hf.plen
  have hs := hf.list x (List.mem_of_getElem? hx)
  have hself : strEq x.s x.s = true := by rw [strEq_eq]; simp
  rw [espec_l4Instr]
  unfold okIn
  have hnm := v_spec_NameOk hs
  have hnode := v_l2Has hp x.n
  by_cases h1 : x.op = 1
  · rw [if_pos h1]; simp (disch := first | omega | (simp only [List.length_append, List.length_cons, List.length_nil, List.length_map, mk_size, nat_cast_eq]; omega)) only [↓ocall_ocont, ocont_some, ↓br_true, ↓grd_true, ↓unn_nil, ↓unc_cons, ↓asI_int, ↓asB_bool, ↓asS_str, ↓asAgg_agg, ↓oget_nat, dec_t, beq_t, Bool.true_and, Bool.and_true, List.length_map, nat_cast_eq, ↓oget_map hx, hnode]; simp only [br_and]
    show some (D.bool (_ && nz x.s && _), _) = _
    cases wi x.n 0 ((c.pool.length : Int) - 1) <;> cases x.i == 0 <;> cases nz x.s <;> rfl
  rw [if_neg h1]
  by_cases h2 : x.op = 2
  · rw [if_pos h2]; simp (disch := first | omega | (simp only [List.length_append, List.length_cons, List.length_nil, List.length_map, mk_size, nat_cast_eq]; omega)) only [↓ocall_ocont, ocont_some, ↓br_true, ↓br_false, ↓grd_true, ↓unn_nil, ↓unc_cons, ↓asI_int, ↓asB_bool, ↓asS_str, ↓asAgg_agg, ↓oget_nat, dec_t, beq_t, beq_f, Bool.and_true, List.length_map, nat_cast_eq, ↓oget_map hx, v_l1In]; simp only [br_and]
    show some (D.bool (nz x.s && _), _) = _
    cases wi x.n 0 20 <;> cases wi x.i 0 3 <;> cases nz x.s <;> rfl
  rw [if_neg h2]
  by_cases h3 : x.op = 3
  · rw [if_pos h3]; simp (disch := first | omega | (simp only [List.length_append, List.length_cons, List.length_nil, List.length_map, mk_size, nat_cast_eq]; omega)) only [↓ocall_ocont, ocont_some, ↓br_true, ↓br_false, ↓grd_true, ↓unn_nil, ↓unc_cons, ↓asI_int, ↓asB_bool, ↓asS_str, ↓asAgg_agg, ↓oget_nat, dec_t, beq_t, beq_f, Bool.true_and, Bool.and_true, List.length_map, nat_cast_eq, ↓oget_map hx, hnm, hself]; simp only [br_and]
    cases x.n == 0 <;> cases x.i == 0 <;> cases nmOk x.s <;> rfl
  rw [if_neg h3]
  by_cases h4 : x.op = 4
  · rw [if_pos (.inl h4), wi_gt]; simp (disch := first | omega | (simp only [List.length_append, List.length_cons, List.length_nil, List.length_map, mk_size, nat_cast_eq]; omega)) only [↓br_true, ↓br_false, ↓grd_true, ↓unn_nil, ↓unc_cons, ↓asI_int, ↓asS_str, ↓asAgg_agg, ↓oget_nat, dec_t, beq_t, beq_f, Bool.true_and, Bool.and_true, List.length_map, nat_cast_eq, ↓oget_map hx]; simp only [br_and]
    show some (D.bool (_ && nz x.s && _), _) = _
    cases decide (x.n > (k : Int)) <;> cases decide (x.n ≤ (c.list.length : Int)) <;> cases x.i == 0 <;> cases nz x.s <;> rfl
  by_cases h5 : x.op = 5
  · rw [if_pos (.inr h5), wi_gt]; simp (disch := first | omega | (simp only [List.length_append, List.length_cons, List.length_nil, List.length_map, mk_size, nat_cast_eq]; omega)) only [↓br_true, ↓br_false, ↓grd_true, ↓unn_nil, ↓unc_cons, ↓asI_int, ↓asS_str, ↓asAgg_agg, ↓oget_nat, dec_t, beq_t, beq_f, Bool.true_and, Bool.and_true, List.length_map, nat_cast_eq, ↓oget_map hx]; simp only [br_and]
    show some (D.bool (_ && nz x.s && _), _) = _
    cases decide (x.n > (k : Int)) <;> cases decide (x.n ≤ (c.list.length : Int)) <;> cases x.i == 0 <;> cases nz x.s <;> rfl
  rw [if_neg (by omega)]
  by_cases h6 : x.op = 6
  · rw [if_pos h6, wi_gt']; simp (disch := first | omega | (simp only [List.length_append, List.length_cons, List.length_nil, List.length_map, mk_size, nat_cast_eq]; omega)) only [↓ocall_ocont, ocont_some, ↓br_true, ↓br_false, ↓grd_true, ↓unn_nil, ↓unc_cons, ↓asI_int, ↓asB_bool, ↓asS_str, ↓asAgg_agg, ↓oget_nat, dec_t, beq_t, beq_f, Bool.and_true, List.length_map, nat_cast_eq, ↓oget_map hx, v_l1In]; simp only [br_and]
    show some (D.bool (nz x.s && _), _) = _
    cases decide (x.n > (k : Int)) <;> cases decide (x.n < (c.list.length : Int)) <;> cases wi x.i 0 4 <;> cases nz x.s <;> rfl
  rw [if_neg h6]
  by_cases h7 : x.op = 7
  · rw [if_pos h7]; simp (disch := first | omega | (simp only [List.length_append, List.length_cons, List.length_nil, List.length_map, mk_size, nat_cast_eq]; omega)) only [↓ocall_ocont, ocont_some, ↓br_true, ↓br_false, ↓grd_true, ↓unn_nil, ↓unc_cons, ↓asI_int, ↓asB_bool, ↓asS_str, ↓asAgg_agg, ↓oget_nat, dec_t, beq_t, beq_f, Bool.true_and, Bool.and_true, List.length_map, nat_cast_eq, ↓oget_map hx, v_l1In]; simp only [br_and]
    show some (D.bool (_ && nz x.s && _), _) = _
    cases x.n == 0 <;> cases wi x.i 0 4 <;> cases nz x.s <;> rfl
  rw [if_neg h7]
  by_cases h8 : x.op = 8
  · rw [if_pos (.inl h8)]; simp (disch := first | omega | (simp only [List.length_append, List.length_cons, List.length_nil, List.length_map, mk_size, nat_cast_eq]; omega)) only [↓br_true, ↓br_false, ↓grd_true, ↓unn_nil, ↓unc_cons, ↓asI_int, ↓asS_str, ↓asAgg_agg, ↓oget_nat, dec_t, beq_t, beq_f, Bool.true_and, Bool.and_true, List.length_map, nat_cast_eq, ↓oget_map hx]; rfl
  by_cases h9 : x.op = 9
  · rw [if_pos (.inr h9)]; simp (disch := first | omega | (simp only [List.length_append, List.length_cons, List.length_nil, List.length_map, mk_size, nat_cast_eq]; omega)) only [↓br_true, ↓br_false, ↓grd_true, ↓unn_nil, ↓unc_cons, ↓asI_int, ↓asS_str, ↓asAgg_agg, ↓oget_nat, dec_t, beq_t, beq_f, Bool.true_and, Bool.and_true, List.length_map, nat_cast_eq, ↓oget_map hx]; rfl
  rw [if_neg (by omega)]
  simp (disch := first | omega | (simp only [List.length_append, List.length_cons, List.length_nil, List.length_map, mk_size, nat_cast_eq]; omega)) only [↓br_false, ↓grd_true, ↓unn_nil, ↓unc_cons, ↓asI_int, ↓asS_str, ↓asAgg_agg, ↓oget_nat, dec_t, beq_f, Bool.and_true, List.length_map, nat_cast_eq, ↓oget_map hx]

/-! ## code -/
noncomputable def okInFrom (c : Cd) : Nat → Nat → Bool
  | _, 0 => true
  | i, k + 1 => (match c.list[i]? with | some x => okIn c x i | none => true) && okInFrom c (i + 1) k
noncomputable def okDf (c : Cd) (d : Df) (i : Int) : Bool := nmOk d.name && (defOf c d.name == i && (wi d.at' 0 ((c.list.length : Int) - 1) && wi d.args 0 4))
noncomputable def okDfFrom (c : Cd) : Nat → Nat → Bool
  | _, 0 => true
  | i, k + 1 => (match c.defs[i]? with | some d => okDf c d i | none => true) && okDfFrom c (i + 1) k
noncomputable def okCode (c : Cd) : Bool := okPool c.pool && (decide (c.list.length ≤ 400) && (decide (c.defs.length ≤ 20) && (okInFrom c 0 c.list.length && okDfFrom c 0 c.defs.length)))
theorem bne_not (a b : Int) : (a != b) = !(a == b) := rfl
theorem impl_defs_loop {c : Cd} (hf : FitsC c) : ∀ (k i : Nat), i + k = c.defs.length → Limpl_CodeOk_10 (c.defs.map eDf) (ni (c.defs.map eDf).length) (i : Int) (c.pool.map eN) (c.list.map eIn) (c.defs.map eDf) = some (.bool (okDfFrom c i k), [])
  | 0, i, hi => by
    have hd := hf.dlen
    rw [Limpl_CodeOk_10_eq]
    simp (disch := first | omega | (simp only [List.length_append, List.length_cons, List.length_nil, List.length_map, mk_size, nat_cast_eq]; omega)) only [↓br_false, dec_f, List.length_map, nat_cast_eq]
    rfl
  | k + 1, i, hi => by
    have hd := hf.dlen
    have hll := hf.llen
    obtain ⟨x, hx⟩ := get_of_lt (l := c.defs) (i := i) (by omega)
    have ih := impl_defs_loop hf k (i + 1) (by omega)
    rw [List.length_map] at ih
    have hw : IntKind.wrap IntKind.i64 ((i : Int) + 1) = ((i + 1 : Nat) : Int) := w64s (by omega)
    have hdf := v_impl_DefOf hf x.name
    have hnm := v_impl_NameOk (hf.defs x (List.mem_of_getElem? hx))
    rw [Limpl_CodeOk_10_eq]
    simp only [okDfFrom, hx, okDf]
    cases e1 : nmOk x.name with
    | false => rw [e1] at hnm; simp (disch := first | omega | (simp only [List.length_append, List.length_cons, List.length_nil, List.length_map, mk_size, nat_cast_eq]; omega)) only [↓ocall_ocont, ocont_some, ↓br_true, ↓grd_true, ↓unn_nil, ↓unc_cons, ↓asI_int, ↓asB_bool, ↓asS_str, ↓asAgg_agg, ↓oget_nat, dec_t, Bool.and_true, Bool.false_and, Bool.not_false, List.length_map, nat_cast_eq, ↓oget_map hx, hnm]
    | true =>
      rw [e1] at hnm
      by_cases e2 : defOf c x.name = (i : Int)
      · rw [e2] at hdf
        simp (disch := first | omega | (simp only [List.length_append, List.length_cons, List.length_nil, List.length_map, mk_size, nat_cast_eq]; omega)) only [↓ocall_ocont, ocont_some, ↓br_true, ↓br_false, ↓grd_true, ↓unn_nil, ↓unc_cons, ↓asI_int, ↓asB_bool, ↓asS_str, ↓asAgg_agg, ↓oget_nat, dec_t, beq_t, bne_f, Bool.true_and, Bool.and_true, Bool.not_true, List.length_map, wS, nat_cast_eq, ↓oget_map hx, hnm, hdf, e2, v_within, hw, ih]
        cases wi x.at' 0 ((c.list.length : Int) - 1) <;> cases wi x.args 0 4 <;> rfl
      · simp (disch := first | omega | (simp only [List.length_append, List.length_cons, List.length_nil, List.length_map, mk_size, nat_cast_eq]; omega)) only [↓ocall_ocont, ocont_some, ↓br_true, ↓br_false, ↓grd_true, ↓unn_nil, ↓unc_cons, ↓asI_int, ↓asB_bool, ↓asS_str, ↓asAgg_agg, ↓oget_nat, dec_t, beq_f, bne_t, Bool.and_true, Bool.false_and, Bool.and_false, Bool.not_true, List.length_map, nat_cast_eq, ↓oget_map hx, hnm, hdf]
theorem spec_defs_loop {c : Cd} (hf : FitsC c) : ∀ (k i : Nat), i + k = c.defs.length → Lspec_CodeOk_9 (i : Int) (c.pool.map eN) (c.list.map eIn) (c.defs.map eDf) = some (.bool (okDfFrom c i k), [])
  | 0, i, hi => by
    have hd := hf.dlen
    rw [Lspec_CodeOk_9_eq]
    simp (disch := first | omega | (simp only [List.length_append, List.length_cons, List.length_nil, List.length_map, mk_size, nat_cast_eq]; omega)) only [↓br_false, dec_f, List.length_map, nat_cast_eq]
    rfl
  | k + 1, i, hi => by
    have hd := hf.dlen
    have hll := hf.llen
    obtain ⟨x, hx⟩ := get_of_lt (l := c.defs) (i := i) (by omega)
    have ih := spec_defs_loop hf k (i + 1) (by omega)
    have hw : IntKind.wrap IntKind.i64 ((i : Int) + 1) = ((i + 1 : Nat) : Int) := w64s (by omega)
    have hdf := v_spec_DefOf hf x.name
    have hnm := v_spec_NameOk (hf.defs x (List.mem_of_getElem? hx))
    rw [Lspec_CodeOk_9_eq]
    simp only [okDfFrom, hx, okDf]
    cases e1 : nmOk x.name with
    | false => rw [e1] at hnm; simp (disch := first | omega | (simp only [List.length_append, List.length_cons, List.length_nil, List.length_map, mk_size, nat_cast_eq]; omega)) only [↓ocall_ocont, ocont_some, ↓br_true, ↓grd_true, ↓unn_nil, ↓unc_cons, ↓asI_int, ↓asB_bool, ↓asS_str, ↓asAgg_agg, ↓oget_nat, dec_t, Bool.and_true, Bool.false_and, Bool.not_false, List.length_map, nat_cast_eq, ↓oget_map hx, hnm]
    | true =>
      rw [e1] at hnm
      by_cases e2 : defOf c x.name = (i : Int)
      · rw [e2] at hdf
        simp (disch := first | omega | (simp only [List.length_append, List.length_cons, List.length_nil, List.length_map, mk_size, nat_cast_eq]; omega)) only [↓ocall_ocont, ocont_some, ↓br_true, ↓br_false, ↓grd_true, ↓unn_nil, ↓unc_cons, ↓asI_int, ↓asB_bool, ↓asS_str, ↓asAgg_agg, ↓oget_nat, dec_t, beq_t, bne_f, Bool.true_and, Bool.and_true, Bool.not_true, List.length_map, wS, nat_cast_eq, ↓oget_map hx, hnm, hdf, e2, v_l1In, hw, ih]
        cases wi x.at' 0 ((c.list.length : Int) - 1) <;> cases wi x.args 0 4 <;> rfl
      · simp (disch := first | omega | (simp only [List.length_append, List.length_cons, List.length_nil, List.length_map, mk_size, nat_cast_eq]; omega)) only [↓ocall_ocont, ocont_some, ↓br_true, ↓br_false, ↓grd_true, ↓unn_nil, ↓unc_cons, ↓asI_int, ↓asB_bool, ↓asS_str, ↓asAgg_agg, ↓oget_nat, dec_t, beq_f, bne_t, Bool.and_true, Bool.false_and, Bool.and_false, Bool.not_true, List.length_map, nat_cast_eq, ↓oget_map hx, hnm, hdf]
theorem impl_ins_loop {c : Cd} (hf : FitsC c) : ∀ (k i : Nat), i + k = c.list.length → Limpl_CodeOk_4 (ni (c.list.map eIn).length) (i : Int) (c.pool.map eN) (c.list.map eIn) (c.defs.map eDf) = some (.bool (okInFrom c i k && okDfFrom c 0 c.defs.length), [])
  | 0, i, hi => by
    have hll := hf.llen
    have h := impl_defs_loop hf c.defs.length 0 (Nat.zero_add _)
    rw [Int.natCast_zero, List.length_map] at h
    rw [Limpl_CodeOk_4_eq]
    simp (disch := first | omega | (simp only [List.length_append, List.length_cons, List.length_nil, List.length_map, mk_size, nat_cast_eq]; omega)) only [↓br_false, dec_f, List.length_map, nat_cast_eq, h]
    rfl
  | k + 1, i, hi => by
    have hll := hf.llen
    obtain ⟨x, hx⟩ := get_of_lt (l := c.list) (i := i) (by omega)
    have ih := impl_ins_loop hf k (i + 1) (by omega)
    rw [List.length_map] at ih
    have hw : IntKind.wrap IntKind.i64 ((i : Int) + 1) = ((i + 1 : Nat) : Int) := w64s (by omega)
    have hi := v_impl_instrOk hf hx
    rw [Limpl_CodeOk_4_eq]
    simp only [okInFrom, hx]
    cases e1 : okIn c x i with
    | false => rw [e1] at hi; simp (disch := first | omega | (simp only [List.length_append, List.length_cons, List.length_nil, List.length_map, mk_size, nat_cast_eq]; omega)) only [↓ocall_ocont, ocont_some, ↓br_true, ↓unn_nil, ↓asB_bool, dec_t, Bool.false_and, Bool.not_false, List.length_map, nat_cast_eq, hi]
    | true => rw [e1] at hi; simp (disch := first | omega | (simp only [List.length_append, List.length_cons, List.length_nil, List.length_map, mk_size, nat_cast_eq]; omega)) only [↓ocall_ocont, ocont_some, ↓br_true, ↓br_false, ↓unn_nil, ↓asB_bool, dec_t, Bool.true_and, Bool.not_true, List.length_map, nat_cast_eq, hi, hw, ih]
theorem spec_ins_loop {c : Cd} (hf : FitsC c) : ∀ (k i : Nat), i + k = c.list.length → Lspec_CodeOk_4 (i : Int) (c.pool.map eN) (c.list.map eIn) (c.defs.map eDf) = some (.bool (okInFrom c i k && okDfFrom c 0 c.defs.length), [])
  | 0, i, hi => by
    have hll := hf.llen
    have h := spec_defs_loop hf c.defs.length 0 (Nat.zero_add _)
    rw [Int.natCast_zero] at h
    rw [Lspec_CodeOk_4_eq]
    simp (disch := first | omega | (simp only [List.length_append, List.length_cons, List.length_nil, List.length_map, mk_size, nat_cast_eq]; omega)) only [↓br_false, dec_f, List.length_map, nat_cast_eq, h]
    rfl
  | k + 1, i, hi => by
    have hll := hf.llen
    obtain ⟨x, hx⟩ := get_of_lt (l := c.list) (i := i) (by omega)
    have ih := spec_ins_loop hf k (i + 1) (by omega)
    have hw : IntKind.wrap IntKind.i64 ((i : Int) + 1) = ((i + 1 : Nat) : Int) := w64s (by omega)
    have hi := v_l4Instr hf hx
    rw [Lspec_CodeOk_4_eq]
    simp only [okInFrom, hx]
    cases e1 : okIn c x i with
    | false => rw [e1] at hi; simp (disch := first | omega | (simp only [List.length_append, List.length_cons, List.length_nil, List.length_map, mk_size, nat_cast_eq]; omega)) only [↓ocall_ocont, ocont_some, ↓br_true, ↓unn_nil, ↓asB_bool, dec_t, Bool.false_and, Bool.not_false, List.length_map, nat_cast_eq, hi]
    | true => rw [e1] at hi; simp (disch := first | omega | (simp only [List.length_append, List.length_cons, List.length_nil, List.length_map, mk_size, nat_cast_eq]; omega)) only [↓ocall_ocont, ocont_some, ↓br_true, ↓br_false, ↓unn_nil, ↓asB_bool, dec_t, Bool.true_and, Bool.not_true, List.length_map, nat_cast_eq, hi, hw, ih]
theorem v_impl_CodeOk {c : Cd} (hf : FitsC c) : V 155 [eCd c] = some (.bool (okCode c), []) := by
  have hp := v_impl_PoolOk hf.pool hf.plen
  have h := impl_ins_loop hf c.list.length 0 (Nat.zero_add _)
  rw [Int.natCast_zero, List.length_map] at h
  rw [eimpl_CodeOk]
  unfold okCode
  cases e1 : okPool c.pool with
  | false => rw [e1] at hp; simp (disch := first | omega | (simp only [List.length_append, List.length_cons, List.length_nil, List.length_map, mk_size, nat_cast_eq]; omega)) only [↓ocall_ocont, ocont_some, ↓br_true, ↓unn_nil, ↓asB_bool, Bool.false_and, Bool.not_false, hp]
  | true =>
    rw [e1] at hp
    by_cases e2 : c.list.length ≤ 400
    · by_cases e3 : c.defs.length ≤ 20
      · simp (disch := first | omega | (simp only [List.length_append, List.length_cons, List.length_nil, List.length_map, mk_size, nat_cast_eq]; omega)) only [↓ocall_ocont, ocont_some, ↓br_false, ↓unn_nil, ↓asB_bool, dec_t, dec_f, Bool.true_and, Bool.not_true, List.length_map, nat_cast_eq, hp, h]
      · simp (disch := first | omega | (simp only [List.length_append, List.length_cons, List.length_nil, List.length_map, mk_size, nat_cast_eq]; omega)) only [↓ocall_ocont, ocont_some, ↓br_true, ↓br_false, ↓unn_nil, ↓asB_bool, dec_t, dec_f, Bool.false_and, Bool.and_false, Bool.not_true, List.length_map, nat_cast_eq, hp]
    · simp (disch := first | omega | (simp only [List.length_append, List.length_cons, List.length_nil, List.length_map, mk_size, nat_cast_eq]; omega)) only [↓ocall_ocont, ocont_some, ↓br_true, ↓br_false, ↓unn_nil, ↓asB_bool, dec_t, dec_f, Bool.false_and, Bool.and_false, Bool.not_true, List.length_map, nat_cast_eq, hp]
theorem v_spec_CodeOk {c : Cd} (hf : FitsC c) : V 151 [eCd c] = some (.bool (okCode c), []) := by
  have hp := v_spec_PoolOk hf.pool hf.plen
  have h := spec_ins_loop hf c.list.length 0 (Nat.zero_add _)
  rw [Int.natCast_zero] at h
  rw [espec_CodeOk]
  unfold okCode
  cases e1 : okPool c.pool with
  | false => rw [e1] at hp; simp (disch := first | omega | (simp only [List.length_append, List.length_cons, List.length_nil, List.length_map, mk_size, nat_cast_eq]; omega)) only [↓ocall_ocont, ocont_some, ↓br_true, ↓unn_nil, ↓asB_bool, Bool.false_and, Bool.not_false, hp]
  | true =>
    rw [e1] at hp
    by_cases e2 : c.list.length ≤ 400
    · by_cases e3 : c.defs.length ≤ 20
      · simp (disch := first | omega | (simp only [List.length_append, List.length_cons, List.length_nil, List.length_map, mk_size, nat_cast_eq]; omega)) only [↓ocall_ocont, ocont_some, ↓br_false, ↓unn_nil, ↓asB_bool, dec_t, dec_f, Bool.true_and, Bool.not_true, List.length_map, nat_cast_eq, hp, h]
      · simp (disch := first | omega | (simp only [List.length_append, List.length_cons, List.length_nil, List.length_map, mk_size, nat_cast_eq]; omega)) only [↓ocall_ocont, ocont_some, ↓br_true, ↓br_false, ↓unn_nil, ↓asB_bool, dec_t, dec_f, Bool.false_and, Bool.and_false, Bool.not_true, List.length_map, nat_cast_eq, hp]
    · simp (disch := first | omega | (simp only [List.length_append, List.length_cons, List.length_nil, List.length_map, mk_size, nat_cast_eq]; omega)) only [↓ocall_ocont, ocont_some, ↓br_true, ↓br_false, ↓unn_nil, ↓asB_bool, dec_t, dec_f, Bool.false_and, Bool.and_false, Bool.not_true, List.length_map, nat_cast_eq, hp]

/-! ## machines -/
structure Mc where
  pool : List Nd
  at' : Int
  s : Int
  e : Int
  d : Int
  state : Int
  ask : Int
  arg : Int
noncomputable abbrev eMc (m : Mc) : D := .agg [.rs (5, 0) (m.pool.map eN), .int .i64 m.at', .int .i64 m.s, .int .i64 m.e, .int .i64 m.d, .int .i64 m.state, .int .i64 m.ask, .int .i64 m.arg]
noncomputable abbrev oMc (m : Mc) : D := .agg [.os (5, 0) (m.pool.map eN), .int .i64 m.at', .int .i64 m.s, .int .i64 m.e, .int .i64 m.d, .int .i64 m.state, .int .i64 m.ask, .int .i64 m.arg]
noncomputable def hasP (p : List Nd) (v : Int) : Bool := wi v 0 ((p.length : Int) - 1)
noncomputable def okSt (c : Cd) (m : Mc) : Bool :=
  if m.state = 0 then wi m.at' 0 ((c.list.length : Int) - 1) && (m.ask == 0 && m.arg == 0)
  else if m.state = 1 then wi m.at' 0 ((c.list.length : Int) - 1) && (wi m.ask 13 19 && ((m.ask != 18) && hasP m.pool m.arg))
  else if m.state = 2 then m.at' == 0 && (m.ask == 0 && hasP m.pool m.arg)
  else if m.state = 3 then m.at' == 0 && (wi m.ask 1 7 && m.arg == 0)
  else false
noncomputable def okMc (c : Cd) (m : Mc) : Bool := okCode c && (okPool m.pool && (hasP m.pool m.s && (hasP m.pool m.e && (hasP m.pool m.d && okSt c m))))
theorem v_isPlace {c : Cd} (hl : c.list.length < 4611686018427387904) (n : Int) : V 156 [eCd c, .int .i64 n] = some (.bool (wi n 0 ((c.list.length : Int) - 1)), []) := by
  rw [eimpl_isPlace]
  simp (disch := first | omega | (simp only [List.length_append, List.length_cons, List.length_nil, List.length_map, mk_size, nat_cast_eq]; omega)) only [↓ocall_ocont, ocont_some, ↓unn_nil, ↓asB_bool, List.length_map, wS, nat_cast_eq, v_within]
theorem v_impl_MachineOk {c : Cd} (hf : FitsC c) {m : Mc} (hm : Fits m.pool) (hl : m.pool.length < 4611686018427387904) : V 98 [eCd c, eMc m] = some (.bool (okMc c m), []) := by
  have hc := v_impl_CodeOk hf
  have hp := v_impl_PoolOk hm hl
  have h1 := v_isNode hl m.s
  have h2 := v_isNode hl m.e
  have h3 := v_isNode hl m.d
  have h4 := v_isNode hl m.arg
  have h5 := v_isPlace hf.llen m.at'
  rw [eimpl_MachineOk]
  unfold okMc hasP
  cases e1 : okCode c with
  | false => rw [e1] at hc; simp (disch := first | omega | (simp only [List.length_append, List.length_cons, List.length_nil, List.length_map, mk_size, nat_cast_eq]; omega)) only [↓ocall_ocont, ocont_some, ↓br_true, ↓unn_nil, ↓asB_bool, Bool.false_and, Bool.not_false, hc]
  | true =>
  rw [e1] at hc
  cases e2 : okPool m.pool with
  | false => rw [e2] at hp; simp (disch := first | omega | (simp only [List.length_append, List.length_cons, List.length_nil, List.length_map, mk_size, nat_cast_eq]; omega)) only [↓ocall_ocont, ocont_some, ↓br_true, ↓br_false, ↓unn_nil, ↓asB_bool, Bool.false_and, Bool.and_false, Bool.not_true, Bool.not_false, hc, hp]
  | true =>
  rw [e2] at hp
  cases e3 : wi m.s 0 ((m.pool.length : Int) - 1) with
  | false => rw [e3] at h1; simp (disch := first | omega | (simp only [List.length_append, List.length_cons, List.length_nil, List.length_map, mk_size, nat_cast_eq]; omega)) only [↓ocall_ocont, ocont_some, ↓br_true, ↓br_false, ↓unn_nil, ↓asB_bool, Bool.false_and, Bool.and_false, Bool.not_true, Bool.not_false, hc, hp, h1]
  | true =>
  rw [e3] at h1
  cases e4 : wi m.e 0 ((m.pool.length : Int) - 1) with
  | false => rw [e4] at h2; simp (disch := first | omega | (simp only [List.length_append, List.length_cons, List.length_nil, List.length_map, mk_size, nat_cast_eq]; omega)) only [↓ocall_ocont, ocont_some, ↓br_true, ↓br_false, ↓unn_nil, ↓asB_bool, Bool.false_and, Bool.and_false, Bool.not_true, Bool.not_false, hc, hp, h1, h2]
  | true =>
  rw [e4] at h2
  cases e5 : wi m.d 0 ((m.pool.length : Int) - 1) with
  | false => rw [e5] at h3; simp (disch := first | omega | (simp only [List.length_append, List.length_cons, List.length_nil, List.length_map, mk_size, nat_cast_eq]; omega)) only [↓ocall_ocont, ocont_some, ↓br_true, ↓br_false, ↓unn_nil, ↓asB_bool, Bool.false_and, Bool.and_false, Bool.not_true, Bool.not_false, hc, hp, h1, h2, h3]
  | true =>
  rw [e5] at h3
  unfold okSt hasP
  by_cases s0 : m.state = 0
  · rw [if_pos s0]; simp (disch := first | omega | (simp only [List.length_append, List.length_cons, List.length_nil, List.length_map, mk_size, nat_cast_eq]; omega)) only [↓ocall_ocont, ocont_some, ↓br_true, ↓br_false, ↓unn_nil, ↓asB_bool, beq_t, Bool.true_and, Bool.not_true, hc, hp, h1, h2, h3, h5]; simp only [br_and]
  rw [if_neg s0]
  by_cases s1 : m.state = 1
  · rw [if_pos s1]; simp (disch := first | omega | (simp only [List.length_append, List.length_cons, List.length_nil, List.length_map, mk_size, nat_cast_eq]; omega)) only [↓ocall_ocont, ocont_some, ↓br_true, ↓br_false, ↓unn_nil, ↓asB_bool, beq_t, beq_f, Bool.true_and, Bool.not_true, hc, hp, h1, h2, h3, h4, h5, v_within]; simp only [br_and]
  rw [if_neg s1]
  by_cases s2 : m.state = 2
  · rw [if_pos s2]; simp (disch := first | omega | (simp only [List.length_append, List.length_cons, List.length_nil, List.length_map, mk_size, nat_cast_eq]; omega)) only [↓ocall_ocont, ocont_some, ↓br_true, ↓br_false, ↓unn_nil, ↓asB_bool, beq_t, beq_f, Bool.true_and, Bool.not_true, hc, hp, h1, h2, h3, h4]; simp only [br_and]
  rw [if_neg s2]
  by_cases s3 : m.state = 3
  · rw [if_pos s3]; simp (disch := first | omega | (simp only [List.length_append, List.length_cons, List.length_nil, List.length_map, mk_size, nat_cast_eq]; omega)) only [↓ocall_ocont, ocont_some, ↓br_true, ↓br_false, ↓unn_nil, ↓asB_bool, beq_t, beq_f, Bool.true_and, Bool.not_true, hc, hp, h1, h2, h3, v_within]; simp only [br_and]
  rw [if_neg s3]
  simp (disch := first | omega | (simp only [List.length_append, List.length_cons, List.length_nil, List.length_map, mk_size, nat_cast_eq]; omega)) only [↓ocall_ocont, ocont_some, ↓br_false, ↓unn_nil, ↓asB_bool, beq_f, Bool.and_false, Bool.not_true, hc, hp, h1, h2, h3]
theorem v_spec_MachineOk {c : Cd} (hf : FitsC c) {m : Mc} (hm : Fits m.pool) (hl : m.pool.length < 4611686018427387904) : V 93 [eCd c, eMc m] = some (.bool (okMc c m), []) := by
  have hll := hf.llen
  have hc := v_spec_CodeOk hf
  have hp := v_spec_PoolOk hm hl
  have h1 := v_l2Has hl m.s
  have h2 := v_l2Has hl m.e
  have h3 := v_l2Has hl m.d
  have h4 := v_l2Has hl m.arg
  rw [espec_MachineOk]
  unfold okMc hasP
  cases e1 : okCode c with
  | false => rw [e1] at hc; simp (disch := first | omega | (simp only [List.length_append, List.length_cons, List.length_nil, List.length_map, mk_size, nat_cast_eq]; omega)) only [↓ocall_ocont, ocont_some, ↓br_true, ↓unn_nil, ↓asB_bool, Bool.false_and, Bool.not_false, hc]
  | true =>
  rw [e1] at hc
  cases e2 : okPool m.pool with
  | false => rw [e2] at hp; simp (disch := first | omega | (simp only [List.length_append, List.length_cons, List.length_nil, List.length_map, mk_size, nat_cast_eq]; omega)) only [↓ocall_ocont, ocont_some, ↓br_true, ↓br_false, ↓unn_nil, ↓asB_bool, Bool.false_and, Bool.and_false, Bool.not_true, Bool.not_false, hc, hp]
  | true =>
  rw [e2] at hp
  cases e3 : wi m.s 0 ((m.pool.length : Int) - 1) with
  | false => rw [e3] at h1; simp (disch := first | omega | (simp only [List.length_append, List.length_cons, List.length_nil, List.length_map, mk_size, nat_cast_eq]; omega)) only [↓ocall_ocont, ocont_some, ↓br_true, ↓br_false, ↓unn_nil, ↓asB_bool, Bool.false_and, Bool.and_false, Bool.not_true, Bool.not_false, hc, hp, h1]
  | true =>
  rw [e3] at h1
  cases e4 : wi m.e 0 ((m.pool.length : Int) - 1) with
  | false => rw [e4] at h2; simp (disch := first | omega | (simp only [List.length_append, List.length_cons, List.length_nil, List.length_map, mk_size, nat_cast_eq]; omega)) only [↓ocall_ocont, ocont_some, ↓br_true, ↓br_false, ↓unn_nil, ↓asB_bool, Bool.false_and, Bool.and_false, Bool.not_true, Bool.not_false, hc, hp, h1, h2]
  | true =>
  rw [e4] at h2
  cases e5 : wi m.d 0 ((m.pool.length : Int) - 1) with
  | false => rw [e5] at h3; simp (disch := first | omega | (simp only [List.length_append, List.length_cons, List.length_nil, List.length_map, mk_size, nat_cast_eq]; omega)) only [↓ocall_ocont, ocont_some, ↓br_true, ↓br_false, ↓unn_nil, ↓asB_bool, Bool.false_and, Bool.and_false, Bool.not_true, Bool.not_false, hc, hp, h1, h2, h3]
  | true =>
  rw [e5] at h3
  unfold okSt hasP
  by_cases s0 : m.state = 0
  · rw [if_pos s0]; simp (disch := first | omega | (simp only [List.length_append, List.length_cons, List.length_nil, List.length_map, mk_size, nat_cast_eq]; omega)) only [↓ocall_ocont, ocont_some, ↓br_true, ↓br_false, ↓unn_nil, ↓asB_bool, beq_t, Bool.true_and, Bool.not_true, List.length_map, wS, nat_cast_eq, hc, hp, h1, h2, h3, v_l1In]; simp only [br_and]
  rw [if_neg s0]
  by_cases s1 : m.state = 1
  · rw [if_pos s1]; simp (disch := first | omega | (simp only [List.length_append, List.length_cons, List.length_nil, List.length_map, mk_size, nat_cast_eq]; omega)) only [↓ocall_ocont, ocont_some, ↓br_true, ↓br_false, ↓unn_nil, ↓asB_bool, beq_t, beq_f, Bool.true_and, Bool.not_true, List.length_map, wS, nat_cast_eq, hc, hp, h1, h2, h3, h4, v_l1In]; simp only [br_and]
  rw [if_neg s1]
  by_cases s2 : m.state = 2
  · rw [if_pos s2]; simp (disch := first | omega | (simp only [List.length_append, List.length_cons, List.length_nil, List.length_map, mk_size, nat_cast_eq]; omega)) only [↓ocall_ocont, ocont_some, ↓br_true, ↓br_false, ↓unn_nil, ↓asB_bool, beq_t, beq_f, Bool.true_and, Bool.not_true, List.length_map, wS, nat_cast_eq, hc, hp, h1, h2, h3, h4, v_l1In]; simp only [br_and]
  rw [if_neg s2]
  by_cases s3 : m.state = 3
  · rw [if_pos s3]; simp (disch := first | omega | (simp only [List.length_append, List.length_cons, List.length_nil, List.length_map, mk_size, nat_cast_eq]; omega)) only [↓ocall_ocont, ocont_some, ↓br_true, ↓br_false, ↓unn_nil, ↓asB_bool, beq_t, beq_f, Bool.true_and, Bool.not_true, List.length_map, wS, nat_cast_eq, hc, hp, h1, h2, h3, v_l1In]; simp only [br_and]
  rw [if_neg s3]
  simp (disch := first | omega | (simp only [List.length_append, List.length_cons, List.length_nil, List.length_map, mk_size, nat_cast_eq]; omega)) only [↓ocall_ocont, ocont_some, ↓br_false, ↓unn_nil, ↓asB_bool, beq_f, Bool.and_false, Bool.not_true, List.length_map, wS, nat_cast_eq, hc, hp, h1, h2, h3, v_l1In]
end Go.Eng
