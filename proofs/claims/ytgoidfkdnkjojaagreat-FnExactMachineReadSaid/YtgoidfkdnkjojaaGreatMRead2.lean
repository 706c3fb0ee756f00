/- a machine read of bytes, on both sides -/
import Derived.Test.YtgoidfkdnkjojaaGreatMRead
import Derived.Test.YtgoidfkdnkjojaaGreatMark2
namespace Go.Eng
open Go.Proofs Go.Proofs.Tryz
set_option maxHeartbeats 400000

attribute [local irreducible] numI numS nodesI nodesS
theorem mcOf_fits {l : List Nat} {p : List Nd} (h : Fits p) : Fits (mcOf l p).pool := by rw [mcOf_pool]; exact h
theorem impl_mr_core {c : Cd} {s : List UInt8} (r1 r2 r3 r4 r5 r6 r7 : Nat × RS) (r8 : List Nd × RS)
    (h1 : V 36 [.op [.os (1, 0) (s.map eU), .int .i64 0, .bool true]] = some (.int .i64 (r1.1 : Int), [rO s r1.2]))
    (h2 : V 36 [rO s r1.2] = some (.int .i64 (r2.1 : Int), [rO s r2.2]))
    (h3 : V 36 [rO s r2.2] = some (.int .i64 (r3.1 : Int), [rO s r3.2]))
    (h4 : V 36 [rO s r3.2] = some (.int .i64 (r4.1 : Int), [rO s r4.2]))
    (h5 : V 36 [rO s r4.2] = some (.int .i64 (r5.1 : Int), [rO s r5.2]))
    (h6 : V 36 [rO s r5.2] = some (.int .i64 (r6.1 : Int), [rO s r6.2]))
    (h7 : V 36 [rO s r6.2] = some (.int .i64 (r7.1 : Int), [rO s r7.2]))
    (h8 : V 37 [rO s r7.2] = some (oP r8.1, [rO s r8.2]))
    (hm : V 38 [eCd c, .agg [.rs (5, 0) (r8.1.map eN), .int .i64 (r1.1 : Int), .int .i64 (r4.1 : Int), .int .i64 (r5.1 : Int), .int .i64 (r6.1 : Int), .int .i64 (r2.1 : Int), .int .i64 (r3.1 : Int), .int .i64 (r7.1 : Int)]] = some (packD (packM c (mcOf [r1.1, r2.1, r3.1, r4.1, r5.1, r6.1, r7.1] r8.1)), [])) :
    V 10 [eCd c, .str (mk s)] = some (readMD (if r8.2.2 = true ∧ packM c (mcOf [r1.1, r2.1, r3.1, r4.1, r5.1, r6.1, r7.1] r8.1) = some s then some (mcOf [r1.1, r2.1, r3.1, r4.1, r5.1, r6.1, r7.1] r8.1) else none), []) := by
  rw [eimpl_MachineRead, bytesD_mk, oc_reader_num h1, oc_reader_num h2, oc_reader_num h3, oc_reader_num h4, oc_reader_num h5, oc_reader_num h6, oc_reader_num h7, oc_reader_nodes h8]
  cases e : packM c (mcOf [r1.1, r2.1, r3.1, r4.1, r5.1, r6.1, r7.1] r8.1) with
  | none =>
    rw [e, packD] at hm
    rw [oc_i_MachinePack hm, if_neg (by simp)]
    cases r8.2.2 <;> rfl
  | some q =>
    rw [e, packD] at hm
    rw [oc_i_MachinePack hm]
    cases ho : r8.2.2 with
    | false => rw [if_neg (by simp)]; rfl
    | true =>
      by_cases hq : q = s
      · subst hq
        have hs : strEq (mk q) (mk q) = true := by rw [strEq_eq]; simp
        rw [if_pos ⟨rfl, rfl⟩, Bool.not_true, br_false, br_false, hs]
        rfl
      · have hs : strEq (mk q) (mk s) = false := by rw [strEq_mk]; exact decide_eq_false hq
        rw [if_neg (fun h => hq (Option.some.inj h.2)), Bool.not_true, br_false, br_false, hs]
        rfl
theorem spec_mr_core {c : Cd} {s : List UInt8} (r1 r2 r3 r4 r5 r6 r7 : Nat × RS) (r8 : List Nd × RS)
    (h1 : V 30 [.op [.os (1, 0) (s.map eU), .int .i64 0, .bool true]] = some (.int .i64 (r1.1 : Int), [rO s r1.2]))
    (h2 : V 30 [rO s r1.2] = some (.int .i64 (r2.1 : Int), [rO s r2.2]))
    (h3 : V 30 [rO s r2.2] = some (.int .i64 (r3.1 : Int), [rO s r3.2]))
    (h4 : V 30 [rO s r3.2] = some (.int .i64 (r4.1 : Int), [rO s r4.2]))
    (h5 : V 30 [rO s r4.2] = some (.int .i64 (r5.1 : Int), [rO s r5.2]))
    (h6 : V 30 [rO s r5.2] = some (.int .i64 (r6.1 : Int), [rO s r6.2]))
    (h7 : V 30 [rO s r6.2] = some (.int .i64 (r7.1 : Int), [rO s r7.2]))
    (h8 : V 31 [rO s r7.2] = some (oP r8.1, [rO s r8.2]))
    (hm : V 32 [eCd c, .agg [.rs (5, 0) (r8.1.map eN), .int .i64 (r1.1 : Int), .int .i64 (r4.1 : Int), .int .i64 (r5.1 : Int), .int .i64 (r6.1 : Int), .int .i64 (r2.1 : Int), .int .i64 (r3.1 : Int), .int .i64 (r7.1 : Int)]] = some (packD (packM c (mcOf [r1.1, r2.1, r3.1, r4.1, r5.1, r6.1, r7.1] r8.1)), [])) :
    V 8 [eCd c, .str (mk s)] = some (readMD (if r8.2.2 = true ∧ packM c (mcOf [r1.1, r2.1, r3.1, r4.1, r5.1, r6.1, r7.1] r8.1) = some s then some (mcOf [r1.1, r2.1, r3.1, r4.1, r5.1, r6.1, r7.1] r8.1) else none), []) := by
  rw [espec_MachineRead, bytesD_mk, oc_s_l8Num h1, oc_s_l8Num h2, oc_s_l8Num h3, oc_s_l8Num h4, oc_s_l8Num h5, oc_s_l8Num h6, oc_s_l8Num h7, oc_s_l8Read h8]
  cases ho : r8.2.2 with
  | false => rw [if_neg (by simp)]; rfl
  | true =>
    cases e : packM c (mcOf [r1.1, r2.1, r3.1, r4.1, r5.1, r6.1, r7.1] r8.1) with
    | none =>
      rw [e, packD] at hm
      rw [Bool.not_true, br_false, oc_s_MachinePack hm, if_neg (by simp)]
      rfl
    | some q =>
      rw [e, packD] at hm
      rw [Bool.not_true, br_false, oc_s_MachinePack hm]
      by_cases hq : q = s
      · subst hq
        have hs : strEq (mk q) (mk q) = true := by rw [strEq_eq]; simp
        rw [if_pos ⟨rfl, rfl⟩, Bool.not_true, br_false, hs]
        rfl
      · have hs : strEq (mk q) (mk s) = false := by rw [strEq_mk]; exact decide_eq_false hq
        rw [if_neg (fun h => hq (Option.some.inj h.2)), Bool.not_true, br_false, hs]
        rfl
theorem v_impl_MachineRead {c : Cd} (hf : FitsC c) {s : List UInt8} (hb : s.length < 4294967296) : V 10 [eCd c, .str (mk s)] = some (readMD (readM c s), []) := by
  have hB : s.length < 4611686018427387904 := by omega
  have i0 : InB s (0, true) := Nat.zero_le _
  have h1 : V 36 [.op [.os (1, 0) (s.map eU), .int .i64 0, .bool true]] = some (.int .i64 ((numI s (0, true)).1 : Int), [rO s (numI s (0, true)).2]) := v_reader_num hB i0
  have i1 := numI_in i0
  have h2 := v_reader_num hB i1
  have i2 := numI_in i1
  have h3 := v_reader_num hB i2
  have i3 := numI_in i2
  have h4 := v_reader_num hB i3
  have i4 := numI_in i3
  have h5 := v_reader_num hB i4
  have i5 := numI_in i4
  have h6 := v_reader_num hB i5
  have i6 := numI_in i5
  have h7 := v_reader_num hB i6
  have i7 := numI_in i6
  have h8 := v_reader_nodes hB i7
  have hfit : ∀ t, Fits (nodesI s t).1 ∧ (nodesI s t).1.length ≤ 3002 := fun t => ⟨nodesI_fits hB t, nodesI_len s t⟩
  have hm : ∀ (l : List Nat) (t : RS), V 38 [eCd c, eMc (mcOf l (nodesI s t).1)] = some (packD (packM c (mcOf l (nodesI s t).1)), []) := fun l t => v_impl_MachinePack hf (m := mcOf l (nodesI s t).1) (mcOf_fits (hfit t).1) (by rw [mcOf_pool]; have := (hfit t).2; omega)
  have hr : readM c s = if (nodesI s (numsR (numI s) 7 (0, true)).2).2.2 = true ∧ packM c (mcOf (numsR (numI s) 7 (0, true)).1 (nodesI s (numsR (numI s) 7 (0, true)).2).1) = some s then some (mcOf (numsR (numI s) 7 (0, true)).1 (nodesI s (numsR (numI s) 7 (0, true)).2).1) else none := by unfold readM; rw [readI_2, readI_1]
  simp only [numsR] at hr
  rw [hr]
  exact impl_mr_core _ _ _ _ _ _ _ _ h1 h2 h3 h4 h5 h6 h7 h8 (hm [_, _, _, _, _, _, _] _)
theorem v_spec_MachineRead {c : Cd} (hf : FitsC c) {s : List UInt8} (hb : s.length < 4294967296) : V 8 [eCd c, .str (mk s)] = some (readMD (readM c s), []) := by
  have hB : s.length < 4611686018427387904 := by omega
  have i0 : InB s (0, true) := Nat.zero_le _
  have h1 : V 30 [.op [.os (1, 0) (s.map eU), .int .i64 0, .bool true]] = some (.int .i64 ((numS s (0, true)).1 : Int), [rO s (numS s (0, true)).2]) := v_l8Num hB i0
  have i1 := numS_in i0
  have h2 := v_l8Num hB i1
  have i2 := numS_in i1
  have h3 := v_l8Num hB i2
  have i3 := numS_in i2
  have h4 := v_l8Num hB i3
  have i4 := numS_in i3
  have h5 := v_l8Num hB i4
  have i5 := numS_in i4
  have h6 := v_l8Num hB i5
  have i6 := numS_in i5
  have h7 := v_l8Num hB i6
  have i7 := numS_in i6
  have h8 := v_l8Read hB i7
  have hfit : ∀ t, Fits (nodesS s t).1 ∧ (nodesS s t).1.length ≤ 3002 := fun t => ⟨(nodesS_fits hB t).1, Nat.le_succ_of_le (nodesS_fits hB t).2⟩
  have hm : ∀ (l : List Nat) (t : RS), V 32 [eCd c, eMc (mcOf l (nodesS s t).1)] = some (packD (packM c (mcOf l (nodesS s t).1)), []) := fun l t => v_spec_MachinePack hf (m := mcOf l (nodesS s t).1) (mcOf_fits (hfit t).1) (by rw [mcOf_pool]; have := (hfit t).2; omega)
  have hr : readM c s = if (nodesS s (numsR (numS s) 7 (0, true)).2).2.2 = true ∧ packM c (mcOf (numsR (numS s) 7 (0, true)).1 (nodesS s (numsR (numS s) 7 (0, true)).2).1) = some s then some (mcOf (numsR (numS s) 7 (0, true)).1 (nodesS s (numsR (numS s) 7 (0, true)).2).1) else none := readM_same c s
  simp only [numsR] at hr
  rw [hr]
  exact spec_mr_core _ _ _ _ _ _ _ _ h1 h2 h3 h4 h5 h6 h7 h8 (hm [_, _, _, _, _, _, _] _)
theorem readMD_is (c : Cd) {s : List UInt8} : ∃ (m : Mc) (o : Bool), readMD (readM c s) = .tup [oMc m, .bool o] ∧ m.pool.length ≤ 3002 := by
  unfold readM
  rw [readI_1]
  split
  · exact ⟨_, true, rfl, by rw [mcOf_pool]; exact nodesI_len _ _⟩
  · exact ⟨zMc', false, rfl, by simp [zMc']⟩
theorem law_FnExactMachineRead {c : Cd} (hf : FitsC c) (hc : Lim c.pool) (s : ByteArray) : V 3 [eCd c, .str s] = some (.bool true, []) := by
  obtain ⟨n, hn, h2, h3⟩ := v_szCode hf (left := 1048576) (by omega) (by omega) hc
  rw [elaws_FnExactMachineRead]
  by_cases c0 : ni s.size > 1048576
  · rw [br_of (decide_eq_true c0)]
  rw [br_not (decide_eq_false c0), oc_w_szCode hn]
  simp only [ni] at c0
  by_cases c1 : n < 0
  · rw [br_of (decide_eq_true c1)]
  have h3 := h3 (by omega)
  have q1 := v_toCode (c := c) (by omega) (by omega) (by omega)
  have k1 := v_impl_MachineRead hf (s := s.data.toList) (by rw [bytes_len]; omega)
  have k2 := v_spec_MachineRead hf (s := s.data.toList) (by rw [bytes_len]; omega)
  rw [mk_of] at k1 k2
  have e1 := v_eqCode hf
  have m1 := v_markCode (c := c) (k := 1) (by omega) (by omega) (by omega) (by omega) (by omega)
  have hn0 : 0 ≤ nCd c := by unfold nCd; omega
  obtain ⟨m, o, hp, p1⟩ := readMD_is c (s := s.data.toList)
  rw [hp] at k1 k2
  have e2 := v_eqMachine (m := m) (by omega)
  have m2 := v_markMachine (m := m) (k := 1) (by omega) (by omega) (by omega)
  have d2 := v_heldMachine' (m := m) (k := 1) (by omega) (by omega) (by omega)
  have hp0 : 0 ≤ nMc m := by unfold nMc; omega
  have hb : ∀ o : Bool, (!(o == o)) = false := fun o => by cases o <;> rfl
  have hne : ∀ z : Int, (z != z) = false := fun z => by simp
  rw [br_not (decide_eq_false c1), oc_w_toCode q1, oc_s_MachineRead k2, oc_w_toCode q1, oc_i_MachineRead k1, oc_w_eqMachine e2, Bool.not_true, br_false, br_not (hb _), oc_w_toCode q1, oc_w_eqCode e1, Bool.not_true, br_false,
    oc_w_markCode m1, br_not (decide_eq_false (by omega)), oc_w_eqMachine e2, Bool.not_true, br_false, br_not (hb _), oc_w_markMachine m2, oc_w_heldMachine d2, br_not (decide_eq_false (by omega)), br_not (hne _),
    oc_w_toCode q1, oc_i_MachineRead k1, oc_w_eqMachine e2, Bool.not_true, br_false, br_not (hb _), oc_w_heldMachine d2, br_not (decide_eq_false (by omega)), br_not (hne _)]
theorem core_FnExactMachineRead (xs : List D) (h : All2 (fun t x => ShapeV Tryz.prog t x) Tryz.f3.params.toList xs) : V 3 xs = some (.bool true, []) := by
  rw [Tryz.params3] at h
  cases h with | cons h1 h =>
  cases h with | cons h2 h =>
  cases h
  obtain ⟨c, rfl, hf, hc⟩ := arg_cd h1
  obtain ⟨s, rfl, _⟩ := h2.str Tryz.underlying9
  exact law_FnExactMachineRead hf hc s
end Go.Eng
