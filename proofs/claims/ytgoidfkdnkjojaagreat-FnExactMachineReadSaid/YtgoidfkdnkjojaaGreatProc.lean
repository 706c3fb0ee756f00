/- processes: when they are right, on both sides -/
import Derived.Test.YtgoidfkdnkjojaaGreatMPack
import Derived.Test.YtgoidfkdnkjojaaGreatWire6
namespace Go.Eng
open Go.Proofs Go.Proofs.Tryz
set_option maxHeartbeats 4000000

structure Pr where
  pid : Int
  m : Mc
  box : List ByteArray
  out : List ByteArray
noncomputable abbrev ePr (p : Pr) : D := .agg [.int .i64 p.pid, .rs (5, 0) (p.m.pool.map eN), .int .i64 p.m.at', .int .i64 p.m.s, .int .i64 p.m.e, .int .i64 p.m.d, .int .i64 p.m.state, .int .i64 p.m.ask, .int .i64 p.m.arg, .rs (1, 0) (p.box.map D.str), .rs (1, 0) (p.out.map D.str)]
noncomputable abbrev oPr (p : Pr) : D := .agg [.int .i64 p.pid, .os (5, 0) (p.m.pool.map eN), .int .i64 p.m.at', .int .i64 p.m.s, .int .i64 p.m.e, .int .i64 p.m.d, .int .i64 p.m.state, .int .i64 p.m.ask, .int .i64 p.m.arg, .os (1, 0) (p.box.map D.str), .os (1, 0) (p.out.map D.str)]
structure FitsR (p : Pr) : Prop where
  pool : Fits p.m.pool
  plen : p.m.pool.length ≤ 4294967296
  box : ∀ x ∈ p.box, x.size < 4294967296
  blen : p.box.length < 4294967296
  out : ∀ x ∈ p.out, x.size < 4294967296
  olen : p.out.length < 4294967296
noncomputable def valB (s : ByteArray) : Bool := (readV s.data.toList).isSome
noncomputable def okPr (c : Cd) (p : Pr) : Bool := wi p.pid 1 1000000000 && (okMc c p.m && (decide (p.box.length ≤ 20) && (decide (p.out.length ≤ 40) && (p.box.all valB && p.out.all fun s => decide (s.size ≤ 400)))))
theorem readD_ok (r : Option (List Nd)) : ∃ (q : List Nd) (n : Int), readD r = .tup [oP q, .int .i64 n, .bool r.isSome] := by
  cases r with
  | none => exact ⟨[], 0, rfl⟩
  | some q => exact ⟨q, _, rfl⟩
theorem v_iread {s : ByteArray} (hs : s.size < 4294967296) : ∃ (q : List Nd) (n : Int), V 122 [.str s] = some (.tup [oP q, .int .i64 n, .bool (valB s)], []) := by
  have h := v_impl_ValueRead (s := s.data.toList) (by rw [bytes_len]; exact hs)
  rw [mk_of] at h
  obtain ⟨q, n, e⟩ := readD_ok (readV s.data.toList)
  rw [e] at h
  exact ⟨q, n, h⟩
theorem v_sread {s : ByteArray} (hs : s.size < 4294967296) : ∃ (q : List Nd) (n : Int), V 90 [.str s] = some (.tup [oP q, .int .i64 n, .bool (valB s)], []) := by
  have h := v_spec_ValueRead (s := s.data.toList) (by rw [bytes_len]; exact hs)
  rw [mk_of] at h
  obtain ⟨q, n, e⟩ := readD_ok (readV s.data.toList)
  rw [e] at h
  exact ⟨q, n, h⟩
theorem v_isValue {s : ByteArray} (hs : s.size < 4294967296) : V 96 [.str s] = some (.bool (valB s), []) := by
  obtain ⟨q, n, h⟩ := v_iread hs
  rw [eimpl_isValue]; simp (disch := first | omega | (simp only [List.length_append, List.length_cons, List.length_nil, List.length_map, mk_size, nat_cast_eq]; omega)) only [↓ocall_ocont, ocont_some, ↓unn_nil, ↓unc_cons, ↓asI_int, ↓asB_bool, ↓asOs_os, ↓asAgg_agg, ↓asTup_tup, h]
theorem box_loop {l : List ByteArray} (hl : l.length < 4294967296) (hs : ∀ x ∈ l, x.size < 4294967296) : ∀ (k i : Nat), i + k = l.length → LIndexFunc_ProcOk1_2 (l.map D.str) (ni (l.map D.str).length) (i : Int) = some (.int .i64 (posFrom (fun s => !valB s) l i), [])
  | 0, i, hi => by
    rw [LIndexFunc_ProcOk1_2_eq, posFrom_end (by omega)]
    simp (disch := first | omega | (simp only [List.length_append, List.length_cons, List.length_nil, List.length_map, mk_size, nat_cast_eq]; omega)) only [↓br_false, dec_f, List.length_map, nat_cast_eq]
  | k + 1, i, hi => by
    obtain ⟨x, hx⟩ := get_of_lt (l := l) (i := i) (by omega)
    have ih := box_loop hl hs k (i + 1) (by omega)
    rw [List.length_map] at ih
    have hd : V 95 [.str x] = some (.bool (!valB x), []) := by
      rw [eimpl_ProcOk_1]; simp (disch := first | omega | (simp only [List.length_append, List.length_cons, List.length_nil, List.length_map, mk_size, nat_cast_eq]; omega)) only [↓ocall_ocont, ocont_some, ↓unn_nil, ↓asB_bool, v_isValue (hs x (List.mem_of_getElem? hx))]
    have hw : IntKind.wrap IntKind.i64 ((i : Int) + 1) = ((i + 1 : Nat) : Int) := w64s (by omega)
    rw [LIndexFunc_ProcOk1_2_eq]
    cases h : (!valB x) with
    | true => rw [posFrom_hit hx h]; rw [h] at hd; simp (disch := first | omega | (simp only [List.length_append, List.length_cons, List.length_nil, List.length_map, mk_size, nat_cast_eq]; omega)) only [↓ocall_ocont, ocont_some, ↓br_true, ↓grd_true, ↓unn_nil, ↓asB_bool, ↓asS_str, ↓oget_nat, dec_t, Bool.and_true, List.length_map, nat_cast_eq, ↓oget_map hx, hd]
    | false => rw [h] at hd; rw [posFrom_miss hx h, ← ih]; simp (disch := first | omega | (simp only [List.length_append, List.length_cons, List.length_nil, List.length_map, mk_size, nat_cast_eq]; omega)) only [↓ocall_ocont, ocont_some, ↓br_true, ↓br_false, ↓grd_true, ↓unn_nil, ↓asB_bool, ↓asS_str, ↓oget_nat, dec_t, Bool.and_true, List.length_map, nat_cast_eq, ↓oget_map hx, hd, hw]
theorem out_loop {l : List ByteArray} (hl : l.length < 4294967296) : ∀ (k i : Nat), i + k = l.length → LIndexFunc_ProcOk2_2 (l.map D.str) (ni (l.map D.str).length) (i : Int) = some (.int .i64 (posFrom (fun s => decide ((s.size : Int) > 400)) l i), [])
  | 0, i, hi => by
    rw [LIndexFunc_ProcOk2_2_eq, posFrom_end (by omega)]
    simp (disch := first | omega | (simp only [List.length_append, List.length_cons, List.length_nil, List.length_map, mk_size, nat_cast_eq]; omega)) only [↓br_false, dec_f, List.length_map, nat_cast_eq]
  | k + 1, i, hi => by
    obtain ⟨x, hx⟩ := get_of_lt (l := l) (i := i) (by omega)
    have ih := out_loop hl k (i + 1) (by omega)
    rw [List.length_map] at ih
    have hd : V 97 [.str x] = some (.bool (decide ((x.size : Int) > 400)), []) := by rw [eimpl_ProcOk_2]
    have hw : IntKind.wrap IntKind.i64 ((i : Int) + 1) = ((i + 1 : Nat) : Int) := w64s (by omega)
    rw [LIndexFunc_ProcOk2_2_eq]
    cases h : decide ((x.size : Int) > 400) with
    | true => rw [posFrom_hit (p := fun s : ByteArray => decide ((s.size : Int) > 400)) hx h]; rw [h] at hd; simp (disch := first | omega | (simp only [List.length_append, List.length_cons, List.length_nil, List.length_map, mk_size, nat_cast_eq]; omega)) only [↓ocall_ocont, ocont_some, ↓br_true, ↓grd_true, ↓unn_nil, ↓asB_bool, ↓asS_str, ↓oget_nat, dec_t, Bool.and_true, List.length_map, nat_cast_eq, ↓oget_map hx, hd]
    | false => rw [h] at hd; rw [posFrom_miss (p := fun s : ByteArray => decide ((s.size : Int) > 400)) hx h, ← ih]; simp (disch := first | omega | (simp only [List.length_append, List.length_cons, List.length_nil, List.length_map, mk_size, nat_cast_eq]; omega)) only [↓ocall_ocont, ocont_some, ↓br_true, ↓br_false, ↓grd_true, ↓unn_nil, ↓asB_bool, ↓asS_str, ↓oget_nat, dec_t, Bool.and_true, List.length_map, nat_cast_eq, ↓oget_map hx, hd, hw]
theorem not_any {α : Type} (l : List α) (p : α → Bool) : (!(l.any fun x => !p x)) = l.all p := by
  rw [List.any_eq_not_all_not, Bool.not_not]; simp
theorem v_impl_ProcOk {c : Cd} (hf : FitsC c) {p : Pr} (hp : FitsR p) : V 49 [eCd c, ePr p] = some (.bool (okPr c p), []) := by
  have hm := v_impl_MachineOk hf hp.pool (by have := hp.plen; omega)
  have b0 := hp.blen
  have o0 := hp.olen
  have hb : V 94 [.rs (1, 0) (p.box.map D.str), .fn 95 []] = some (.bool (p.box.any fun s => !valB s), []) := by
    have h := box_loop hp.blen hp.box p.box.length 0 (Nat.zero_add _)
    rw [posFrom_zero, Int.natCast_zero] at h
    have h2 : V 121 [.rs (1, 0) (p.box.map D.str), .fn 95 []] = some (.int .i64 (posB (fun s => !valB s) p.box), []) := by
      rw [eIndexFunc_ProcOk1]; exact h
    rw [eContainsFunc_ProcOk1, oc_slices_IndexFunc_string_string h2, posB_any']
  have ho : V 94 [.rs (1, 0) (p.out.map D.str), .fn 97 []] = some (.bool (p.out.any fun s => decide ((s.size : Int) > 400)), []) := by
    have h := out_loop hp.olen p.out.length 0 (Nat.zero_add _)
    rw [posFrom_zero, Int.natCast_zero] at h
    have h2 : V 121 [.rs (1, 0) (p.out.map D.str), .fn 97 []] = some (.int .i64 (posB (fun s : ByteArray => decide ((s.size : Int) > 400)) p.out), []) := by
      rw [eIndexFunc_ProcOk2]; exact h
    rw [eContainsFunc_ProcOk2, oc_slices_IndexFunc_string_string h2, posB_any']
  have e1 : (!(p.box.any fun s => !valB s)) = p.box.all valB := not_any _ _
  have e2 : (!(p.out.any fun s => decide ((s.size : Int) > 400))) = p.out.all fun s => decide (s.size ≤ 400) := by
    rw [← not_any]
    congr 2
    funext s
    by_cases h : s.size ≤ 400
    · rw [decide_eq_false (by omega), decide_eq_true h]; rfl
    · rw [decide_eq_true (by omega), decide_eq_false h]; rfl
  rw [eimpl_ProcOk]
  unfold okPr
  cases a1 : wi p.pid 1 1000000000 with
  | false => simp (disch := first | omega | (simp only [List.length_append, List.length_cons, List.length_nil, List.length_map, mk_size, nat_cast_eq]; omega)) only [↓ocall_ocont, ocont_some, ↓br_true, ↓unn_nil, ↓asB_bool, Bool.false_and, Bool.not_false, v_within, a1]
  | true =>
  cases a2 : okMc c p.m with
  | false => rw [a2] at hm; simp (disch := first | omega | (simp only [List.length_append, List.length_cons, List.length_nil, List.length_map, mk_size, nat_cast_eq]; omega)) only [↓ocall_ocont, ocont_some, ↓br_true, ↓br_false, ↓unn_nil, ↓asB_bool, Bool.false_and, Bool.and_false, Bool.not_true, Bool.not_false, v_within, a1, hm]
  | true =>
  rw [a2] at hm
  by_cases a3 : p.box.length ≤ 20
  · by_cases a4 : p.out.length ≤ 40
    · simp (disch := first | omega | (simp only [List.length_append, List.length_cons, List.length_nil, List.length_map, mk_size, nat_cast_eq]; omega)) only [↓ocall_ocont, ocont_some, ↓br_false, ↓unn_nil, ↓asB_bool, dec_t, dec_f, Bool.true_and, Bool.not_true, List.length_map, nat_cast_eq, v_within, a1, hm, hb, ho, e1, e2]
      cases p.box.all valB <;> rfl
    · simp (disch := first | omega | (simp only [List.length_append, List.length_cons, List.length_nil, List.length_map, mk_size, nat_cast_eq]; omega)) only [↓ocall_ocont, ocont_some, ↓br_true, ↓br_false, ↓unn_nil, ↓asB_bool, dec_t, dec_f, Bool.false_and, Bool.and_false, Bool.not_true, List.length_map, nat_cast_eq, v_within, a1, hm]
  · simp (disch := first | omega | (simp only [List.length_append, List.length_cons, List.length_nil, List.length_map, mk_size, nat_cast_eq]; omega)) only [↓ocall_ocont, ocont_some, ↓br_true, ↓br_false, ↓unn_nil, ↓asB_bool, dec_t, dec_f, Bool.false_and, Bool.and_false, Bool.not_true, List.length_map, nat_cast_eq, v_within, a1, hm]
theorem spec_out_loop {l : List ByteArray} (hl : l.length < 4294967296) (a1 : Int) (a2 : List D) (a3 a4 a5 a6 a7 a8 a9 : Int) (a10 : List D) : ∀ (k i : Nat), i + k = l.length → Lspec_ProcOk_10 (i : Int) a1 a2 a3 a4 a5 a6 a7 a8 a9 a10 (l.map D.str) = some (.bool ((l.drop i).all fun s => decide (s.size ≤ 400)), [])
  | 0, i, hi => by
    rw [Lspec_ProcOk_10_eq, List.drop_of_length_le (by omega)]
    simp (disch := first | omega | (simp only [List.length_append, List.length_cons, List.length_nil, List.length_map, mk_size, nat_cast_eq]; omega)) only [↓br_false, dec_f, List.length_map, nat_cast_eq]
    rfl
  | k + 1, i, hi => by
    obtain ⟨x, hx⟩ := get_of_lt (l := l) (i := i) (by omega)
    have ih := spec_out_loop hl a1 a2 a3 a4 a5 a6 a7 a8 a9 a10 k (i + 1) (by omega)
    have hw : IntKind.wrap IntKind.i64 ((i : Int) + 1) = ((i + 1 : Nat) : Int) := w64s (by omega)
    rw [Lspec_ProcOk_10_eq, drop_at hx, List.all_cons]
    by_cases h : x.size ≤ 400
    · simp (disch := first | omega | (simp only [List.length_append, List.length_cons, List.length_nil, List.length_map, mk_size, nat_cast_eq]; omega)) only [↓br_true, ↓br_false, ↓grd_true, ↓asS_str, ↓oget_nat, dec_t, dec_f, Bool.true_and, Bool.and_true, List.length_map, nat_cast_eq, ↓oget_map hx, hw, ih]
    · simp (disch := first | omega | (simp only [List.length_append, List.length_cons, List.length_nil, List.length_map, mk_size, nat_cast_eq]; omega)) only [↓br_true, ↓grd_true, ↓asS_str, ↓oget_nat, dec_t, dec_f, Bool.and_true, Bool.false_and, List.length_map, nat_cast_eq, ↓oget_map hx]
theorem spec_box_loop {l o : List ByteArray} (hl : l.length < 4294967296) (hs : ∀ x ∈ l, x.size < 4294967296) (ho : o.length < 4294967296) (a1 : Int) (a2 : List D) (a3 a4 a5 a6 a7 a8 a9 : Int) : ∀ (k i : Nat), i + k = l.length → Lspec_ProcOk_4 (i : Int) a1 a2 a3 a4 a5 a6 a7 a8 a9 (l.map D.str) (o.map D.str) = some (.bool ((l.drop i).all valB && o.all fun s => decide (s.size ≤ 400)), [])
  | 0, i, hi => by
    have h := spec_out_loop ho a1 a2 a3 a4 a5 a6 a7 a8 a9 (l.map D.str) o.length 0 (Nat.zero_add _)
    rw [Int.natCast_zero, List.drop_zero] at h
    rw [Lspec_ProcOk_4_eq, List.drop_of_length_le (by omega)]
    simp (disch := first | omega | (simp only [List.length_append, List.length_cons, List.length_nil, List.length_map, mk_size, nat_cast_eq]; omega)) only [↓br_false, dec_f, List.length_map, nat_cast_eq, h]
    rfl
  | k + 1, i, hi => by
    obtain ⟨x, hx⟩ := get_of_lt (l := l) (i := i) (by omega)
    have ih := spec_box_loop hl hs ho a1 a2 a3 a4 a5 a6 a7 a8 a9 k (i + 1) (by omega)
    have hw : IntKind.wrap IntKind.i64 ((i : Int) + 1) = ((i + 1 : Nat) : Int) := w64s (by omega)
    obtain ⟨q, n, hr⟩ := v_sread (hs x (List.mem_of_getElem? hx))
    rw [Lspec_ProcOk_4_eq, drop_at hx, List.all_cons]
    cases h : valB x with
    | true => rw [h] at hr; simp (disch := first | omega | (simp only [List.length_append, List.length_cons, List.length_nil, List.length_map, mk_size, nat_cast_eq]; omega)) only [↓ocall_ocont, ocont_some, ↓br_true, ↓br_false, ↓grd_true, ↓unn_nil, ↓unc_cons, ↓asI_int, ↓asB_bool, ↓asS_str, ↓asOs_os, ↓asAgg_agg, ↓asTup_tup, ↓oget_nat, dec_t, Bool.true_and, Bool.and_true, Bool.not_true, List.length_map, nat_cast_eq, ↓oget_map hx, hr, hw, ih]
    | false => rw [h] at hr; simp (disch := first | omega | (simp only [List.length_append, List.length_cons, List.length_nil, List.length_map, mk_size, nat_cast_eq]; omega)) only [↓ocall_ocont, ocont_some, ↓br_true, ↓grd_true, ↓unn_nil, ↓unc_cons, ↓asI_int, ↓asB_bool, ↓asS_str, ↓asOs_os, ↓asAgg_agg, ↓asTup_tup, ↓oget_nat, dec_t, Bool.and_true, Bool.false_and, Bool.not_false, List.length_map, nat_cast_eq, ↓oget_map hx, hr]
theorem v_spec_ProcOk {c : Cd} (hf : FitsC c) {p : Pr} (hp : FitsR p) : V 47 [eCd c, ePr p] = some (.bool (okPr c p), []) := by
  have hm := v_spec_MachineOk hf hp.pool (by have := hp.plen; omega)
  have b0 := hp.blen
  have o0 := hp.olen
  have h := spec_box_loop hp.blen hp.box hp.olen p.pid (p.m.pool.map eN) p.m.at' p.m.s p.m.e p.m.d p.m.state p.m.ask p.m.arg p.box.length 0 (Nat.zero_add _)
  rw [Int.natCast_zero, List.drop_zero] at h
  rw [espec_ProcOk]
  unfold okPr
  cases a1 : wi p.pid 1 1000000000 with
  | false => simp (disch := first | omega | (simp only [List.length_append, List.length_cons, List.length_nil, List.length_map, mk_size, nat_cast_eq]; omega)) only [↓ocall_ocont, ocont_some, ↓br_true, ↓unn_nil, ↓asB_bool, Bool.false_and, Bool.not_false, v_l1In, a1]
  | true =>
  cases a2 : okMc c p.m with
  | false => rw [a2] at hm; simp (disch := first | omega | (simp only [List.length_append, List.length_cons, List.length_nil, List.length_map, mk_size, nat_cast_eq]; omega)) only [↓ocall_ocont, ocont_some, ↓br_true, ↓br_false, ↓unn_nil, ↓asB_bool, Bool.false_and, Bool.and_false, Bool.not_true, Bool.not_false, v_l1In, a1, hm]
  | true =>
  rw [a2] at hm
  by_cases a3 : p.box.length ≤ 20
  · by_cases a4 : p.out.length ≤ 40
    · simp (disch := first | omega | (simp only [List.length_append, List.length_cons, List.length_nil, List.length_map, mk_size, nat_cast_eq]; omega)) only [↓ocall_ocont, ocont_some, ↓br_false, ↓unn_nil, ↓asB_bool, dec_t, dec_f, Bool.true_and, Bool.not_true, List.length_map, nat_cast_eq, v_l1In, a1, hm, h]
    · simp (disch := first | omega | (simp only [List.length_append, List.length_cons, List.length_nil, List.length_map, mk_size, nat_cast_eq]; omega)) only [↓ocall_ocont, ocont_some, ↓br_true, ↓br_false, ↓unn_nil, ↓asB_bool, dec_t, dec_f, Bool.false_and, Bool.and_false, Bool.not_true, List.length_map, nat_cast_eq, v_l1In, a1, hm]
  · simp (disch := first | omega | (simp only [List.length_append, List.length_cons, List.length_nil, List.length_map, mk_size, nat_cast_eq]; omega)) only [↓ocall_ocont, ocont_some, ↓br_true, ↓br_false, ↓unn_nil, ↓asB_bool, dec_t, dec_f, Bool.false_and, Bool.and_false, Bool.not_true, List.length_map, nat_cast_eq, v_l1In, a1, hm]
end Go.Eng
