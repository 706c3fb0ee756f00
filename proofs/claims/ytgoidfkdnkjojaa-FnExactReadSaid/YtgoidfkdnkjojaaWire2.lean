/- nodes as bytes, on both sides -/
import Derived.Test.YtgoidfkdnkjojaaWire
import Derived.Test.YtgoidfkdnkjojaaIso2
namespace Go.Eng
open Go.Proofs Go.Proofs.Try
set_option maxHeartbeats 4000000

theorem v_impl_PutNum' {z : Int} (h0 : 0 ≤ z) (h1 : z < 4611686018427387904) : V 100 [.int .i64 z] = some (.os (1, 0) ((putU z.toNat).map eU), []) := by
  obtain ⟨n, rfl⟩ := Int.eq_ofNat_of_zero_le h0
  exact v_impl_PutNum (by omega)
theorem v_spec_PutNum' {z : Int} (h0 : 0 ≤ z) (h1 : z < 4611686018427387904) : V 95 [.int .i64 z] = some (.os (1, 0) ((putU z.toNat).map eU), []) := by
  obtain ⟨n, rfl⟩ := Int.eq_ofNat_of_zero_le h0
  exact v_spec_PutNum (by omega)
theorem bytes_len (s : ByteArray) : s.data.toList.length = s.size := by rw [Array.length_toList]; rfl
theorem v_impl_PutText' {s : ByteArray} (h : s.size < 4294967200) : V 146 [.str s] = some (.os (1, 0) ((putT s.data.toList).map eU), []) := by
  have := v_impl_PutText (s := s.data.toList) (by rw [bytes_len]; exact h)
  rw [mk_of] at this
  exact this
theorem v_spec_PutText' {s : ByteArray} (h : s.size < 4294967200) : V 147 [.str s] = some (.os (1, 0) ((putT s.data.toList).map eU), []) := by
  have := v_spec_PutText (s := s.data.toList) (by rw [bytes_len]; exact h)
  rw [mk_of] at this
  exact this
/-- a node as bytes -/
noncomputable def nodeB (x : Nd) : List UInt8 := putU x.kind.toNat ++
  (if x.kind = 2 ∨ x.kind = 8 ∨ x.kind = 9 then putU x.n.toNat
  else if x.kind = 3 then putU (x.n + 1000000000).toNat
  else if x.kind = 4 then putT x.s.data.toList
  else if x.kind = 5 then putU x.a.toNat ++ putU x.b.toNat
  else if x.kind = 6 then putU x.n.toNat ++ putU x.a.toNat
  else if x.kind = 7 then putU x.a.toNat else [])
theorem nodeB_1 {x : Nd} (h : x.kind = 1) : nodeB x = putU x.kind.toNat := by simp [nodeB, h]
theorem nodeB_2 {x : Nd} (h : x.kind = 2 ∨ x.kind = 8 ∨ x.kind = 9) : nodeB x = putU x.kind.toNat ++ putU x.n.toNat := by simp [nodeB, h]
theorem nodeB_3 {x : Nd} (h : x.kind = 3) : nodeB x = putU x.kind.toNat ++ putU (x.n + 1000000000).toNat := by simp [nodeB, h]
theorem nodeB_4 {x : Nd} (h : x.kind = 4) : nodeB x = putU x.kind.toNat ++ putT x.s.data.toList := by simp [nodeB, h]
theorem nodeB_5 {x : Nd} (h : x.kind = 5) : nodeB x = putU x.kind.toNat ++ putU x.a.toNat ++ putU x.b.toNat := by simp [nodeB, h]
theorem nodeB_6 {x : Nd} (h : x.kind = 6) : nodeB x = putU x.kind.toNat ++ putU x.n.toNat ++ putU x.a.toNat := by simp [nodeB, h]
theorem nodeB_7 {x : Nd} (h : x.kind = 7) : nodeB x = putU x.kind.toNat ++ putU x.a.toNat := by simp [nodeB, h]
structure NdOk (x : Nd) (i : Nat) : Prop where
  k1 : 1 ≤ x.kind
  k9 : x.kind ≤ 9
  n3 : -1000000000 ≤ x.n
  n9 : x.n ≤ 1000000000
  n0 : x.kind ≠ 3 → 0 ≤ x.n
  a0 : 0 ≤ x.a
  a1 : x.a ≤ i
  b0 : 0 ≤ x.b
  b1 : x.b ≤ i
  s4 : x.s.size ≤ 12
theorem okN_s0 {x : Nd} {h : Int} (ho : okN x h = true) (h4 : ¬ x.kind = 4) : x.s.size = 0 := by
  have hz : nz x.s = true := by
    unfold okN at ho
    simp only [h4, if_false] at ho
    repeat' split at ho
    all_goals (first | (simp only [Bool.and_eq_true] at ho; exact ho.2.1) | (cases ho))
  rw [nz, strEq_eq] at hz
  rw [of_decide_eq_true hz]; rfl
theorem okN_facts {x : Nd} {i : Nat} (ho : okN x i = true) : NdOk x i := by
  have hk := okN_kind ho
  have hs : x.s.size ≤ 12 := by
    by_cases h4 : x.kind = 4
    · exact nmOk_len (okN_name ho h4)
    · rw [okN_s0 ho h4]; omega
  have rest : (-1000000000 ≤ x.n ∧ x.n ≤ 1000000000) ∧ (x.kind ≠ 3 → 0 ≤ x.n) ∧ (0 ≤ x.a ∧ x.a ≤ i) ∧ (0 ≤ x.b ∧ x.b ≤ i) := by
    unfold okN at ho
    repeat' split at ho
    all_goals (try simp only [Bool.and_eq_true, wi, decide_eq_true_eq, beq_iff_eq] at ho)
    all_goals (first | (cases ho; done) | (refine ⟨⟨?_, ?_⟩, fun _ => ?_, ⟨?_, ?_⟩, ⟨?_, ?_⟩⟩ <;> omega))
  exact ⟨hk.1, hk.2, rest.1.1, rest.1.2, rest.2.1, rest.2.2.1.1, rest.2.2.1.2, rest.2.2.2.1, rest.2.2.2.2, hs⟩
noncomputable def packN (p : List Nd) : List UInt8 := putU p.length ++ p.flatMap nodeB
theorem putT_len {s : List UInt8} (h : s.length < 4611686018427387904) : (putT s).length ≤ 9 + s.length := by
  have := putU_len9 h
  simp only [putT, List.length_append]; omega
theorem nodeB_len {x : Nd} {i : Nat} (ho : okN x i = true) (hi : i ≤ 3000) : (nodeB x).length ≤ 30 := by
  obtain ⟨k1, k9, n3, n9, n0, a0, a1, b0, b1, s4⟩ := okN_facts ho
  have l1 := putU_len9 (n := x.kind.toNat) (by omega)
  have l2 := putU_len9 (n := x.n.toNat) (by omega)
  have l3 := putU_len9 (n := (x.n + 1000000000).toNat) (by omega)
  have l4 := putU_len9 (n := x.a.toNat) (by omega)
  have l5 := putU_len9 (n := x.b.toNat) (by omega)
  have e : x.s.data.toList.length = x.s.size := by rw [Array.length_toList]; rfl
  have l6 := putT_len (s := x.s.data.toList) (by omega)
  unfold nodeB
  repeat' split
  all_goals (simp only [List.length_append, List.length_nil]; omega)
theorem pack_lim {out l : List UInt8} (h : out.length + l.length ≤ 4294967296) : decide (ni (out.map eU ++ l.map eU).length ≤ LIM) = true :=
  decide_eq_true (by rw [LIM_eq]; simp only [ni, List.length_append, List.length_map]; omega)
theorem impl_pack_loop {p : List Nd} (hp : okPool p = true) : ∀ (k i : Nat) (out : List UInt8), i + k = p.length → out.length ≤ 9 + 30 * i → Limpl_packNodes_3 (p.map eN) (ni (p.map eN).length) (i : Int) (out.map eU) = some (.os (1, 0) ((out ++ (p.drop i).flatMap nodeB).map eU), [])
  | 0, i, out, hi, ho => by
    have hl := okPool_len hp
    rw [Limpl_packNodes_3_eq, List.drop_of_length_le (by omega)]
    simp (disch := first | omega | (simp only [List.length_append, List.length_cons, List.length_nil, List.length_map, mk_size, nat_cast_eq]; omega)) only [↓br_false, dec_f, List.length_map, nat_cast_eq, List.flatMap_nil, List.append_nil]
  | k + 1, i, out, hi, ho => by
    have hl := okPool_len hp
    obtain ⟨x, hx⟩ := get_of_lt (l := p) (i := i) (by omega)
    have hok := okPool_get hp hx
    have hlen := nodeB_len hok (by omega)
    obtain ⟨k1, k9, n3, n9, n0, a0, a1, b0, b1, s4⟩ := okN_facts hok
    have l1 := putU_len9 (n := x.kind.toNat) (by omega)
    have l2 := putU_len9 (n := x.n.toNat) (by omega)
    have l3 := putU_len9 (n := (x.n + 1000000000).toNat) (by omega)
    have l4 := putU_len9 (n := x.a.toNat) (by omega)
    have l5 := putU_len9 (n := x.b.toNat) (by omega)
    have e : x.s.data.toList.length = x.s.size := by rw [Array.length_toList]; rfl
    have l6 := putT_len (s := x.s.data.toList) (by omega)
    have ih := impl_pack_loop hp k (i + 1) (out ++ nodeB x) (by omega) (by simp only [List.length_append]; omega)
    have hw : IntKind.wrap IntKind.i64 ((i : Int) + 1) = ((i + 1 : Nat) : Int) := w64s (by omega)
    have ed : out ++ (p.drop i).flatMap nodeB = out ++ nodeB x ++ (p.drop (i + 1)).flatMap nodeB := by rw [drop_at hx, List.flatMap_cons, List.append_assoc]
    rw [ed, Limpl_packNodes_3_eq]
    rw [List.length_map] at ih ⊢
    have hk : x.kind = 1 ∨ x.kind = 2 ∨ x.kind = 3 ∨ x.kind = 4 ∨ x.kind = 5 ∨ x.kind = 6 ∨ x.kind = 7 ∨ x.kind = 8 ∨ x.kind = 9 := by omega
    rcases hk with h | h | h | h | h | h | h | h | h
    · rw [nodeB_1 h] at ih ⊢; simp (disch := first | omega | (simp only [List.length_append, List.length_cons, List.length_nil, List.length_map, mk_size, nat_cast_eq]; omega)) only [↓ocall_ocont, ocont_some, ↓br_true, ↓br_false, ↓grd_true, ↓unn_nil, ↓unc_cons, ↓asI_int, ↓asS_str, ↓asOs_os, ↓asAgg_agg, ↓nam_eq, ↓oget_nat, dec_t, beq_f, Bool.and_true, List.length_map, List.length_append, LIM_eq, nat_cast_eq, ↓oget_map hx, v_impl_PutNum', map_app, hw]; exact ih
    · rw [nodeB_2 (.inl h), ← List.append_assoc] at ih ⊢; simp (disch := first | omega | (simp only [List.length_append, List.length_cons, List.length_nil, List.length_map, mk_size, nat_cast_eq]; omega)) only [↓ocall_ocont, ocont_some, ↓br_true, ↓grd_true, ↓unn_nil, ↓unc_cons, ↓asI_int, ↓asS_str, ↓asOs_os, ↓asAgg_agg, ↓nam_eq, ↓oget_nat, dec_t, beq_t, Bool.and_true, List.length_map, List.length_append, LIM_eq, nat_cast_eq, ↓oget_map hx, v_impl_PutNum', map_app, hw]; exact ih
    · rw [nodeB_3 h, ← List.append_assoc] at ih ⊢; simp (disch := first | omega | (simp only [List.length_append, List.length_cons, List.length_nil, List.length_map, mk_size, nat_cast_eq]; omega)) only [↓ocall_ocont, ocont_some, ↓br_true, ↓br_false, ↓grd_true, ↓unn_nil, ↓unc_cons, ↓asI_int, ↓asS_str, ↓asOs_os, ↓asAgg_agg, ↓nam_eq, ↓oget_nat, dec_t, beq_t, beq_f, Bool.and_true, List.length_map, List.length_append, LIM_eq, wS, nat_cast_eq, ↓oget_map hx, v_impl_PutNum', map_app, hw]; exact ih
    · rw [nodeB_4 h, ← List.append_assoc] at ih ⊢; simp (disch := first | omega | (simp only [List.length_append, List.length_cons, List.length_nil, List.length_map, mk_size, nat_cast_eq]; omega)) only [↓ocall_ocont, ocont_some, ↓br_true, ↓br_false, ↓grd_true, ↓unn_nil, ↓unc_cons, ↓asI_int, ↓asS_str, ↓asOs_os, ↓asAgg_agg, ↓nam_eq, ↓oget_nat, dec_t, beq_t, beq_f, Bool.and_true, List.length_map, List.length_append, LIM_eq, nat_cast_eq, ↓oget_map hx, v_impl_PutNum', v_impl_PutText', map_app, hw]; exact ih
    · rw [nodeB_5 h, ← List.append_assoc, ← List.append_assoc] at ih ⊢; simp (disch := first | omega | (simp only [List.length_append, List.length_cons, List.length_nil, List.length_map, mk_size, nat_cast_eq]; omega)) only [↓ocall_ocont, ocont_some, ↓br_true, ↓br_false, ↓grd_true, ↓unn_nil, ↓unc_cons, ↓asI_int, ↓asS_str, ↓asOs_os, ↓asAgg_agg, ↓nam_eq, ↓oget_nat, dec_t, beq_t, beq_f, Bool.and_true, List.length_map, List.length_append, LIM_eq, nat_cast_eq, ↓oget_map hx, v_impl_PutNum', map_app, hw]; exact ih
    · rw [nodeB_6 h, ← List.append_assoc, ← List.append_assoc] at ih ⊢; simp (disch := first | omega | (simp only [List.length_append, List.length_cons, List.length_nil, List.length_map, mk_size, nat_cast_eq]; omega)) only [↓ocall_ocont, ocont_some, ↓br_true, ↓br_false, ↓grd_true, ↓unn_nil, ↓unc_cons, ↓asI_int, ↓asS_str, ↓asOs_os, ↓asAgg_agg, ↓nam_eq, ↓oget_nat, dec_t, beq_t, beq_f, Bool.and_true, List.length_map, List.length_append, LIM_eq, nat_cast_eq, ↓oget_map hx, v_impl_PutNum', map_app, hw]; exact ih
    · rw [nodeB_7 h, ← List.append_assoc] at ih ⊢; simp (disch := first | omega | (simp only [List.length_append, List.length_cons, List.length_nil, List.length_map, mk_size, nat_cast_eq]; omega)) only [↓ocall_ocont, ocont_some, ↓br_true, ↓br_false, ↓grd_true, ↓unn_nil, ↓unc_cons, ↓asI_int, ↓asS_str, ↓asOs_os, ↓asAgg_agg, ↓nam_eq, ↓oget_nat, dec_t, beq_t, beq_f, Bool.and_true, List.length_map, List.length_append, LIM_eq, nat_cast_eq, ↓oget_map hx, v_impl_PutNum', map_app, hw]; exact ih
    · rw [nodeB_2 (.inr (.inl h)), ← List.append_assoc] at ih ⊢; simp (disch := first | omega | (simp only [List.length_append, List.length_cons, List.length_nil, List.length_map, mk_size, nat_cast_eq]; omega)) only [↓ocall_ocont, ocont_some, ↓br_true, ↓br_false, ↓grd_true, ↓unn_nil, ↓unc_cons, ↓asI_int, ↓asS_str, ↓asOs_os, ↓asAgg_agg, ↓nam_eq, ↓oget_nat, dec_t, beq_t, beq_f, Bool.and_true, List.length_map, List.length_append, LIM_eq, nat_cast_eq, ↓oget_map hx, v_impl_PutNum', map_app, hw]; exact ih
    · rw [nodeB_2 (.inr (.inr h)), ← List.append_assoc] at ih ⊢; simp (disch := first | omega | (simp only [List.length_append, List.length_cons, List.length_nil, List.length_map, mk_size, nat_cast_eq]; omega)) only [↓ocall_ocont, ocont_some, ↓br_true, ↓br_false, ↓grd_true, ↓unn_nil, ↓unc_cons, ↓asI_int, ↓asS_str, ↓asOs_os, ↓asAgg_agg, ↓nam_eq, ↓oget_nat, dec_t, beq_t, beq_f, Bool.and_true, List.length_map, List.length_append, LIM_eq, nat_cast_eq, ↓oget_map hx, v_impl_PutNum', map_app, hw]; exact ih
theorem spec_pack_loop {p : List Nd} (hp : okPool p = true) : ∀ (k i : Nat) (out : List UInt8), i + k = p.length → out.length ≤ 9 + 30 * i → Lspec_l8Nodes_3 (i : Int) (p.map eN) (out.map eU) = some (.os (1, 0) ((out ++ (p.drop i).flatMap nodeB).map eU), [])
  | 0, i, out, hi, ho => by
    have hl := okPool_len hp
    rw [Lspec_l8Nodes_3_eq, List.drop_of_length_le (by omega)]
    simp (disch := first | omega | (simp only [List.length_append, List.length_cons, List.length_nil, List.length_map, mk_size, nat_cast_eq]; omega)) only [↓br_false, dec_f, List.length_map, nat_cast_eq, List.flatMap_nil, List.append_nil]
  | k + 1, i, out, hi, ho => by
    have hl := okPool_len hp
    obtain ⟨x, hx⟩ := get_of_lt (l := p) (i := i) (by omega)
    have hok := okPool_get hp hx
    have hlen := nodeB_len hok (by omega)
    obtain ⟨k1, k9, n3, n9, n0, a0, a1, b0, b1, s4⟩ := okN_facts hok
    have l1 := putU_len9 (n := x.kind.toNat) (by omega)
    have l2 := putU_len9 (n := x.n.toNat) (by omega)
    have l3 := putU_len9 (n := (x.n + 1000000000).toNat) (by omega)
    have l4 := putU_len9 (n := x.a.toNat) (by omega)
    have l5 := putU_len9 (n := x.b.toNat) (by omega)
    have e : x.s.data.toList.length = x.s.size := by rw [Array.length_toList]; rfl
    have l6 := putT_len (s := x.s.data.toList) (by omega)
    have ih := spec_pack_loop hp k (i + 1) (out ++ nodeB x) (by omega) (by simp only [List.length_append]; omega)
    have hw : IntKind.wrap IntKind.i64 ((i : Int) + 1) = ((i + 1 : Nat) : Int) := w64s (by omega)
    have ed : out ++ (p.drop i).flatMap nodeB = out ++ nodeB x ++ (p.drop (i + 1)).flatMap nodeB := by rw [drop_at hx, List.flatMap_cons, List.append_assoc]
    rw [ed, Lspec_l8Nodes_3_eq]
    have hk : x.kind = 1 ∨ x.kind = 2 ∨ x.kind = 3 ∨ x.kind = 4 ∨ x.kind = 5 ∨ x.kind = 6 ∨ x.kind = 7 ∨ x.kind = 8 ∨ x.kind = 9 := by omega
    rcases hk with h | h | h | h | h | h | h | h | h
    · rw [nodeB_1 h] at ih ⊢; simp (disch := first | omega | (simp only [List.length_append, List.length_cons, List.length_nil, List.length_map, mk_size, nat_cast_eq]; omega)) only [↓ocall_ocont, ocont_some, ↓br_true, ↓br_false, ↓grd_true, ↓unn_nil, ↓unc_cons, ↓asI_int, ↓asS_str, ↓asOs_os, ↓asAgg_agg, ↓nam_eq, ↓oget_nat, dec_t, beq_f, Bool.and_true, List.length_map, List.length_append, LIM_eq, nat_cast_eq, ↓oget_map hx, v_spec_PutNum', map_app, hw]; exact ih
    · rw [nodeB_2 (.inl h), ← List.append_assoc] at ih ⊢; simp (disch := first | omega | (simp only [List.length_append, List.length_cons, List.length_nil, List.length_map, mk_size, nat_cast_eq]; omega)) only [↓ocall_ocont, ocont_some, ↓br_true, ↓grd_true, ↓unn_nil, ↓unc_cons, ↓asI_int, ↓asS_str, ↓asOs_os, ↓asAgg_agg, ↓nam_eq, ↓oget_nat, dec_t, beq_t, Bool.and_true, List.length_map, List.length_append, LIM_eq, nat_cast_eq, ↓oget_map hx, v_spec_PutNum', map_app, hw]; exact ih
    · rw [nodeB_3 h, ← List.append_assoc] at ih ⊢; simp (disch := first | omega | (simp only [List.length_append, List.length_cons, List.length_nil, List.length_map, mk_size, nat_cast_eq]; omega)) only [↓ocall_ocont, ocont_some, ↓br_true, ↓br_false, ↓grd_true, ↓unn_nil, ↓unc_cons, ↓asI_int, ↓asS_str, ↓asOs_os, ↓asAgg_agg, ↓nam_eq, ↓oget_nat, dec_t, beq_t, beq_f, Bool.and_true, List.length_map, List.length_append, LIM_eq, wS, nat_cast_eq, ↓oget_map hx, v_spec_PutNum', map_app, hw]; exact ih
    · rw [nodeB_4 h, ← List.append_assoc] at ih ⊢; simp (disch := first | omega | (simp only [List.length_append, List.length_cons, List.length_nil, List.length_map, mk_size, nat_cast_eq]; omega)) only [↓ocall_ocont, ocont_some, ↓br_true, ↓br_false, ↓grd_true, ↓unn_nil, ↓unc_cons, ↓asI_int, ↓asS_str, ↓asOs_os, ↓asAgg_agg, ↓nam_eq, ↓oget_nat, dec_t, beq_t, beq_f, Bool.and_true, List.length_map, List.length_append, LIM_eq, nat_cast_eq, ↓oget_map hx, v_spec_PutNum', v_spec_PutText', map_app, hw]; exact ih
    · rw [nodeB_5 h, ← List.append_assoc, ← List.append_assoc] at ih ⊢; simp (disch := first | omega | (simp only [List.length_append, List.length_cons, List.length_nil, List.length_map, mk_size, nat_cast_eq]; omega)) only [↓ocall_ocont, ocont_some, ↓br_true, ↓br_false, ↓grd_true, ↓unn_nil, ↓unc_cons, ↓asI_int, ↓asS_str, ↓asOs_os, ↓asAgg_agg, ↓nam_eq, ↓oget_nat, dec_t, beq_t, beq_f, Bool.and_true, List.length_map, List.length_append, LIM_eq, nat_cast_eq, ↓oget_map hx, v_spec_PutNum', map_app, hw]; exact ih
    · rw [nodeB_6 h, ← List.append_assoc, ← List.append_assoc] at ih ⊢; simp (disch := first | omega | (simp only [List.length_append, List.length_cons, List.length_nil, List.length_map, mk_size, nat_cast_eq]; omega)) only [↓ocall_ocont, ocont_some, ↓br_true, ↓br_false, ↓grd_true, ↓unn_nil, ↓unc_cons, ↓asI_int, ↓asS_str, ↓asOs_os, ↓asAgg_agg, ↓nam_eq, ↓oget_nat, dec_t, beq_t, beq_f, Bool.and_true, List.length_map, List.length_append, LIM_eq, nat_cast_eq, ↓oget_map hx, v_spec_PutNum', map_app, hw]; exact ih
    · rw [nodeB_7 h, ← List.append_assoc] at ih ⊢; simp (disch := first | omega | (simp only [List.length_append, List.length_cons, List.length_nil, List.length_map, mk_size, nat_cast_eq]; omega)) only [↓ocall_ocont, ocont_some, ↓br_true, ↓br_false, ↓grd_true, ↓unn_nil, ↓unc_cons, ↓asI_int, ↓asS_str, ↓asOs_os, ↓asAgg_agg, ↓nam_eq, ↓oget_nat, dec_t, beq_t, beq_f, Bool.and_true, List.length_map, List.length_append, LIM_eq, nat_cast_eq, ↓oget_map hx, v_spec_PutNum', map_app, hw]; exact ih
    · rw [nodeB_2 (.inr (.inl h)), ← List.append_assoc] at ih ⊢; simp (disch := first | omega | (simp only [List.length_append, List.length_cons, List.length_nil, List.length_map, mk_size, nat_cast_eq]; omega)) only [↓ocall_ocont, ocont_some, ↓br_true, ↓br_false, ↓grd_true, ↓unn_nil, ↓unc_cons, ↓asI_int, ↓asS_str, ↓asOs_os, ↓asAgg_agg, ↓nam_eq, ↓oget_nat, dec_t, beq_t, beq_f, Bool.and_true, List.length_map, List.length_append, LIM_eq, nat_cast_eq, ↓oget_map hx, v_spec_PutNum', map_app, hw]; exact ih
    · rw [nodeB_2 (.inr (.inr h)), ← List.append_assoc] at ih ⊢; simp (disch := first | omega | (simp only [List.length_append, List.length_cons, List.length_nil, List.length_map, mk_size, nat_cast_eq]; omega)) only [↓ocall_ocont, ocont_some, ↓br_true, ↓br_false, ↓grd_true, ↓unn_nil, ↓unc_cons, ↓asI_int, ↓asS_str, ↓asOs_os, ↓asAgg_agg, ↓nam_eq, ↓oget_nat, dec_t, beq_t, beq_f, Bool.and_true, List.length_map, List.length_append, LIM_eq, nat_cast_eq, ↓oget_map hx, v_spec_PutNum', map_app, hw]; exact ih
theorem flat_len {p : List Nd} (hp : okPool p = true) : (packN p).length ≤ 100000 := by
  have hl := okPool_len hp
  have h1 := putU_len9 (n := p.length) (by omega)
  have h2 : ∀ l : List Nd, (∀ x ∈ l, (nodeB x).length ≤ 30) → (l.flatMap nodeB).length ≤ 30 * l.length := by
    intro l
    induction l with
    | nil => intro _; simp
    | cons x l ih =>
      intro h
      have := ih (fun y hy => h y (by simp [hy]))
      have := h x (by simp)
      simp only [List.flatMap_cons, List.length_append, List.length_cons]; omega
  have h3 := h2 p (fun x hx => by
    obtain ⟨j, hj⟩ := List.getElem?_of_mem hx
    have := lt_of_get hj
    exact nodeB_len (okPool_get hp hj) (by omega))
  simp only [packN, List.length_append]; omega
theorem v_packNodes {p : List Nd} (hp : okPool p = true) : V 87 [eP p] = some (.os (1, 0) ((packN p).map eU), []) := by
  have hl := okPool_len hp
  have h := impl_pack_loop hp p.length 0 (putU p.length) (Nat.zero_add _) (putU_len9 (by omega))
  rw [List.length_map, List.drop_zero, Int.natCast_zero] at h
  rw [eimpl_packNodes]
  simp (disch := first | omega | (simp only [List.length_append, List.length_cons, List.length_nil, List.length_map, mk_size, nat_cast_eq]; omega)) only [↓ocall_ocont, ocont_some, ↓unn_nil, ↓asOs_os, List.length_map, nat_cast_eq, v_impl_PutNum', Int.toNat_natCast]
  exact h
theorem v_l8Nodes {p : List Nd} (hp : okPool p = true) : V 88 [eP p] = some (.os (1, 0) ((packN p).map eU), []) := by
  have hl := okPool_len hp
  have h := spec_pack_loop hp p.length 0 (putU p.length) (Nat.zero_add _) (putU_len9 (by omega))
  rw [List.drop_zero, Int.natCast_zero] at h
  rw [espec_l8Nodes]
  simp (disch := first | omega | (simp only [List.length_append, List.length_cons, List.length_nil, List.length_map, mk_size, nat_cast_eq]; omega)) only [↓ocall_ocont, ocont_some, ↓unn_nil, ↓asOs_os, List.length_map, nat_cast_eq, v_spec_PutNum', Int.toNat_natCast]
  exact h
/-- a value as bytes -/
noncomputable def packV (p : List Nd) (v : Int) : Option (List UInt8) := if okPool p = true ∧ wi v 0 ((p.length : Int) - 1) = true then some (packN (keepP (-1) p [v]).1) else none
noncomputable def packD (r : Option (List UInt8)) : D := match r with | some l => .tup [.str (mk l), .bool true] | none => .tup [.str ⟨#[]⟩, .bool false]
theorem roots_one {p : List Nd} {v : Int} (h : wi v 0 ((p.length : Int) - 1) = true) : rootsIn p [v] = true := by simp [rootsIn, h]
theorem v_impl_ValuePack {p : List Nd} (hf : Fits p) (hl : p.length < 4611686018427387904) (v : Int) : V 36 [eP p, .int .i64 v] = some (packD (packV p v), []) := by
  rw [eimpl_ValuePack]
  unfold packV
  cases hp : okPool p with
  | false => rw [if_neg (by simp)]; simp (disch := first | omega | (simp only [List.length_append, List.length_cons, List.length_nil, List.length_map, mk_size, nat_cast_eq]; omega)) only [↓ocall_ocont, ocont_some, ↓br_true, ↓unn_nil, ↓asB_bool, Bool.not_false, v_impl_PoolOk hf hl, hp]; rfl
  | true =>
    cases hv : wi v 0 ((p.length : Int) - 1) with
    | false => rw [if_neg (by simp)]; simp (disch := first | omega | (simp only [List.length_append, List.length_cons, List.length_nil, List.length_map, mk_size, nat_cast_eq]; omega)) only [↓ocall_ocont, ocont_some, ↓br_true, ↓br_false, ↓unn_nil, ↓asB_bool, Bool.not_true, Bool.not_false, v_impl_PoolOk hf hl, hp, v_isNode hl v, hv]; rfl
    | true =>
      have hk : V 56 [eP p, .rs (1, 0) [.int .i64 v]] = _ := v_keep hp (rs := [v]) (by simp) (roots_one hv)
      have ha := (keep_again hp (roots_one hv) (-1) (-1)).1
      rw [if_pos (And.intro rfl rfl)]
      simp (disch := first | omega | (simp only [List.length_append, List.length_cons, List.length_nil, List.length_map, mk_size, nat_cast_eq]; omega)) only [↓ocall_ocont, ocont_some, ↓br_false, ↓unn_nil, ↓unc_cons, ↓asB_bool, ↓asOs_os, ↓asAgg_agg, ↓asTup_tup, Bool.not_true, v_impl_PoolOk hf hl, hp, v_isNode hl v, hv, hk, v_packNodes ha, ↓obytes_map]
      rfl
theorem v_spec_ValuePack {p : List Nd} (hf : Fits p) (hl : p.length < 4611686018427387904) (v : Int) : V 37 [eP p, .int .i64 v] = some (packD (packV p v), []) := by
  rw [espec_ValuePack]
  unfold packV
  cases hp : okPool p with
  | false => rw [if_neg (by simp)]; simp (disch := first | omega | (simp only [List.length_append, List.length_cons, List.length_nil, List.length_map, mk_size, nat_cast_eq]; omega)) only [↓ocall_ocont, ocont_some, ↓br_true, ↓unn_nil, ↓asB_bool, Bool.not_false, v_spec_PoolOk hf hl, hp]; rfl
  | true =>
    cases hv : wi v 0 ((p.length : Int) - 1) with
    | false => rw [if_neg (by simp)]; simp (disch := first | omega | (simp only [List.length_append, List.length_cons, List.length_nil, List.length_map, mk_size, nat_cast_eq]; omega)) only [↓ocall_ocont, ocont_some, ↓br_true, ↓br_false, ↓unn_nil, ↓asB_bool, Bool.not_true, Bool.not_false, v_spec_PoolOk hf hl, hp, v_l2Has hl v, hv]; rfl
    | true =>
      have hk : V 58 [eP p, .rs (1, 0) [.int .i64 v]] = _ := v_l7Keep hp (rs := [v]) (by simp) (roots_one hv)
      rw [keepP_same hp (roots_one hv) 0 (-1)] at hk
      have ha := (keep_again hp (roots_one hv) (-1) (-1)).1
      rw [if_pos (And.intro rfl rfl)]
      simp (disch := first | omega | (simp only [List.length_append, List.length_cons, List.length_nil, List.length_map, mk_size, nat_cast_eq]; omega)) only [↓ocall_ocont, ocont_some, ↓br_false, ↓unn_nil, ↓unc_cons, ↓asB_bool, ↓asOs_os, ↓asAgg_agg, ↓asTup_tup, Bool.not_true, v_spec_PoolOk hf hl, hp, v_l2Has hl v, hv, hk, v_l8Nodes ha, ↓obytes_map]
      rfl
end Go.Eng
