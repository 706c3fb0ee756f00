/- a value read of bytes: both sides come to the same -/
import Derived.Test.YtgoidfkdnkjojaaGreatWire5
namespace Go.Eng
open Go.Proofs Go.Proofs.Tryz
set_option maxHeartbeats 4000000

theorem goI_put {b : List UInt8} {p : List Nd} (hp : okPool p = true) {rest : List UInt8} {o : Bool} (ho : o = true) : ∀ (k i a : Nat), i + k = 3002 → i ≤ p.length → b.drop a = (p.drop i).flatMap nodeB ++ rest → goI b p.length k i (a, o) (p.take i) = (p, (a + ((p.drop i).flatMap nodeB).length, o))
  | 0, i, a, hi, hl, h => by have := okPool_len hp; omega
  | k + 1, i, a, hi, hl, h => by
    have hlen := okPool_len hp
    rw [goI]
    by_cases h1 : i < p.length
    · obtain ⟨x, hx⟩ := get_of_lt h1
      rw [if_pos ⟨h1, ho, by omega⟩]
      rw [drop_at hx, List.flatMap_cons, List.append_assoc] at h
      have hn := nodeR_put (b := b) (s := (a, o)) (i := i) (by omega) (okPool_get hp hx) h
      have h2 := drop_more h
      rw [hn]
      simp only
      rw [← take_at hx, goI_put hp ho k (i + 1) (a + (nodeB x).length) (by omega) (by omega) h2, drop_at hx, List.flatMap_cons, List.length_append, Nat.add_assoc]
    · rw [if_neg (fun h => h1 h.1)]
      have : i = p.length := by omega
      subst this
      rw [List.take_length, List.drop_length]; rfl
theorem nodesI_put {b rest : List UInt8} {a : Nat} {p : List Nd} (hp : okPool p = true) (h : b.drop a = packN p ++ rest) : nodesI b (a, true) = (p, (a + (packN p).length, true)) := by
  have hlen := okPool_len hp
  rw [packN, List.append_assoc] at h
  have h1 := numI_put (b := b) (s := (a, true)) (n := p.length) (by omega) h
  have h2 := drop_more h
  unfold nodesI
  rw [h1]
  have := goI_put (b := b) hp (rest := rest) (o := true) rfl 3002 0 (a + (putU p.length).length) (by omega) (Nat.zero_le _) h2
  rw [List.take_zero, List.drop_zero] at this
  simp only
  rw [this, packN, List.length_append, Nat.add_assoc]
/-- a value read of bytes -/
noncomputable def readV (s : List UInt8) : Option (List Nd) :=
  if (nodesI s (0, true)).2.2 = true ∧ packV (nodesI s (0, true)).1 ((nodesI s (0, true)).1.length - 1) = some s then some (nodesI s (0, true)).1 else none
noncomputable def readD (r : Option (List Nd)) : D := match r with | some p => .tup [oP p, .int .i64 ((p.length : Int) - 1), .bool true] | none => .tup [.agg [.os (5, 0) []], .int .i64 0, .bool false]
theorem packV_some {p : List Nd} {v : Int} {s : List UInt8} (h : packV p v = some s) : okPool p = true ∧ wi v 0 ((p.length : Int) - 1) = true ∧ s = packN (keepP (-1) p [v]).1 := by
  unfold packV at h
  split at h
  · rename_i hc
    cases h
    exact ⟨hc.1, hc.2, rfl⟩
  · cases h
theorem goI_sz {b : List UInt8} {cnt : Nat} : ∀ (k i : Nat) (s : RS) (p : List Nd), (∀ x ∈ p, x.s.size ≤ b.length) → ∀ x ∈ (goI b cnt k i s p).1, x.s.size ≤ b.length
  | 0, i, s, p, h => h
  | k + 1, i, s, p, h => by
    rw [goI]
    split
    · apply goI_sz k
      intro x hx
      rcases List.mem_append.1 hx with hx | hx
      · exact h x hx
      · simp at hx; subst hx; exact nodeR_sz (fun s => txtI_len s) _
    · exact h
theorem goI_len {b : List UInt8} {cnt : Nat} : ∀ (k i : Nat) (s : RS) (p : List Nd), (goI b cnt k i s p).1.length ≤ p.length + k
  | 0, i, s, p => Nat.le_refl _
  | k + 1, i, s, p => by
    rw [goI]
    split
    · have := goI_len (b := b) (cnt := cnt) k (i + 1) (nodeR (numI b) (txtI b) s).2 (p ++ [(nodeR (numI b) (txtI b) s).1])
      simp at this; omega
    · simp
theorem nodesI_len (b : List UInt8) (s : RS) : (nodesI b s).1.length ≤ 3002 := by
  have := goI_len (b := b) (cnt := (numI b s).1) 3002 0 (numI b s).2 []
  simpa [nodesI] using this
theorem nodesI_fits {b : List UInt8} (hb : b.length < 4611686018427387904) (s : RS) : Fits (nodesI b s).1 :=
  fits_of hb (goI_sz 3002 0 (numI b s).2 [] (fun x h => by simp at h))
theorem goS_sz {b : List UInt8} {cnt : Nat} : ∀ (k i : Nat) (s : RS) (p : List Nd), (∀ x ∈ p, x.s.size ≤ b.length) → ∀ x ∈ (goS b cnt k i s p).1, x.s.size ≤ b.length
  | 0, i, s, p, h => h
  | k + 1, i, s, p, h => by
    rw [goS]
    split
    · apply goS_sz k
      intro x hx
      rcases List.mem_append.1 hx with hx | hx
      · exact h x hx
      · simp at hx; subst hx; exact nodeR_sz (fun s => txtS_len s) _
    · exact h
theorem goS_len {b : List UInt8} {cnt : Nat} : ∀ (k i : Nat) (s : RS) (p : List Nd), (goS b cnt k i s p).1.length ≤ p.length + k
  | 0, i, s, p => Nat.le_refl _
  | k + 1, i, s, p => by
    rw [goS]
    split
    · have := goS_len (b := b) (cnt := cnt) k (i + 1) (nodeR (numS b) (txtS b) s).2 (p ++ [(nodeR (numS b) (txtS b) s).1])
      simp at this; omega
    · simp
theorem nodesS_fits {b : List UInt8} (hb : b.length < 4611686018427387904) (s : RS) : Fits (nodesS b s).1 ∧ (nodesS b s).1.length ≤ 3001 := by
  unfold nodesS
  split
  · exact ⟨fun x h => by simp [restS] at h, by simp [restS]⟩
  · refine ⟨fits_of hb (goS_sz 3001 0 (numS b s).2 [] (fun x h => by simp at h)), ?_⟩
    have := goS_len (b := b) (cnt := (numS b s).1) 3001 0 (numS b s).2 []
    simpa [restS] using this
theorem v_impl_ValueRead {s : List UInt8} (hb : s.length < 4294967296) : V 122 [.str (mk s)] = some (readD (readV s), []) := by
  have h1 : V 37 [.op [.os (1, 0) (s.map eU), .int .i64 0, .bool true]] = some (oP (nodesI s (0, true)).1, [rO s (nodesI s (0, true)).2]) := v_reader_nodes (b := s) (by omega) (s := (0, true)) (Nat.zero_le _)
  have hl := nodesI_len s (0, true)
  have hv := v_impl_ValuePack (nodesI_fits (b := s) (by omega) (0, true)) (by omega) (((nodesI s (0, true)).1.length : Int) - 1)
  rw [eimpl_ValueRead, bytesD_mk]
  unfold readV
  generalize nodesI s (0, true) = r at *
  obtain ⟨p, a, o⟩ := r
  simp only at h1 hl hv
  have hw : IntKind.wrap IntKind.i64 ((p.length : Int) - 1) = (p.length : Int) - 1 := w64 (by omega) (by omega)
  cases o with
  | false =>
    rw [if_neg (by simp)]
    cases e : packV p ((p.length : Int) - 1) with
    | none => rw [e, packD] at hv; simp (disch := first | omega | (simp only [List.length_append, List.length_cons, List.length_nil, List.length_map, mk_size, nat_cast_eq]; omega)) only [↓ocall_ocont, ocont_some, ↓br_true, ↓unn_nil, ↓unc_cons, ↓asI_int, ↓asB_bool, ↓asS_str, ↓asOs_os, ↓asAgg_agg, ↓asTup_tup, ↓asOp_op, Bool.not_false, List.length_map, nat_cast_eq, h1, hw, hv]; rfl
    | some q => rw [e, packD] at hv; simp (disch := first | omega | (simp only [List.length_append, List.length_cons, List.length_nil, List.length_map, mk_size, nat_cast_eq]; omega)) only [↓ocall_ocont, ocont_some, ↓br_true, ↓unn_nil, ↓unc_cons, ↓asI_int, ↓asB_bool, ↓asS_str, ↓asOs_os, ↓asAgg_agg, ↓asTup_tup, ↓asOp_op, Bool.not_false, List.length_map, nat_cast_eq, h1, hw, hv]; rfl
  | true =>
    cases e : packV p ((p.length : Int) - 1) with
    | none =>
      rw [e, packD] at hv
      rw [if_neg (by simp)]
      simp (disch := first | omega | (simp only [List.length_append, List.length_cons, List.length_nil, List.length_map, mk_size, nat_cast_eq]; omega)) only [↓ocall_ocont, ocont_some, ↓br_true, ↓br_false, ↓unn_nil, ↓unc_cons, ↓asI_int, ↓asB_bool, ↓asS_str, ↓asOs_os, ↓asAgg_agg, ↓asTup_tup, ↓asOp_op, Bool.not_true, Bool.not_false, List.length_map, nat_cast_eq, h1, hw, hv]; rfl
    | some q =>
      rw [e, packD] at hv
      by_cases hq : q = s
      · subst hq
        have hs : strEq (mk q) (mk q) = true := by rw [strEq_eq]; simp
        rw [if_pos ⟨rfl, rfl⟩]
        simp (disch := first | omega | (simp only [List.length_append, List.length_cons, List.length_nil, List.length_map, mk_size, nat_cast_eq]; omega)) only [↓ocall_ocont, ocont_some, ↓br_false, ↓unn_nil, ↓unc_cons, ↓asI_int, ↓asB_bool, ↓asS_str, ↓asOs_os, ↓asAgg_agg, ↓asTup_tup, ↓asOp_op, Bool.not_true, List.length_map, nat_cast_eq, h1, hw, hv, hs]; rfl
      · have hs : strEq (mk q) (mk s) = false := by rw [strEq_mk]; exact decide_eq_false hq
        rw [if_neg (fun h => hq (Option.some.inj h.2))]
        simp (disch := first | omega | (simp only [List.length_append, List.length_cons, List.length_nil, List.length_map, mk_size, nat_cast_eq]; omega)) only [↓ocall_ocont, ocont_some, ↓br_true, ↓br_false, ↓unn_nil, ↓unc_cons, ↓asI_int, ↓asB_bool, ↓asS_str, ↓asOs_os, ↓asAgg_agg, ↓asTup_tup, ↓asOp_op, Bool.not_true, Bool.not_false, List.length_map, nat_cast_eq, h1, hw, hv, hs]; rfl
/-- the two readers come to the same -/
theorem readV_same (s : List UInt8) : readV s = if (nodesS s (0, true)).2.2 = true ∧ (nodesS s (0, true)).1.length ≠ 0 ∧ packV (nodesS s (0, true)).1 ((nodesS s (0, true)).1.length - 1) = some s then some (nodesS s (0, true)).1 else none := by
  have hn := num_same s 0
  have hS : nodesS s (0, true) = if (numI s (0, true)).1 > 3000 then restS s ([], ((numI s (0, true)).2.1, false)) else restS s (goS s (numI s (0, true)).1 3001 0 (numI s (0, true)).2 []) := by
    unfold nodesS; rw [← hn]
  have hI : nodesI s (0, true) = goI s (numI s (0, true)).1 3002 0 (numI s (0, true)).2 [] := rfl
  unfold readV
  by_cases hc : (nodesI s (0, true)).2.2 = true ∧ packV (nodesI s (0, true)).1 ((nodesI s (0, true)).1.length - 1) = some s
  · rw [if_pos hc]
    obtain ⟨ho, hp⟩ := hc
    obtain ⟨p1, p2, p3⟩ := packV_some hp
    have hr : nodesI s (0, true) = ((nodesI s (0, true)).1, ((nodesI s (0, true)).2.1, true)) := Prod.ext rfl (Prod.ext rfl ho)
    have hlen := okPool_len p1
    have hwi := wi_iff.1 p2
    -- so many nodes at most
    have hcnt : (numI s (0, true)).1 ≤ 3000 := by
      by_cases hbig : 3000 < (numI s (0, true)).1
      · have := goI_long hbig 3002 0 (numI s (0, true)).2 [] rfl (by omega) rfl (by rw [← hI]; exact ho)
        rw [← hI] at this; omega
      · omega
    -- the first number was read
    have hok : (numI s (0, true)).2.2 = true := by
      cases e : (numI s (0, true)).2.2 with
      | true => rfl
      | false =>
        obtain ⟨a1, ha1⟩ : ∃ a1, (numI s (0, true)).2 = (a1, false) := ⟨_, Prod.ext rfl e⟩
        rw [hI, ha1, goI_bad] at ho; cases ho
    obtain ⟨a1, ha1⟩ : ∃ a1, (numI s (0, true)).2 = (a1, true) := ⟨_, Prod.ext rfl hok⟩
    have hsy := go_sync (b := s) hcnt 3001 0 a1 [] (by omega)
    have hII : nodesI s (0, true) = goI s (numI s (0, true)).1 3002 0 (a1, true) [] := by rw [hI, ha1]
    have he := hsy.2 (by rw [← hII]; exact ho)
    rw [← hII] at he
    -- all was read
    have ha := keep_again p1 (roots_one p2) (-1) (-1)
    have hrt := nodesI_put (b := s) (a := 0) (rest := []) ha.1 (by rw [List.drop_zero, List.append_nil]; exact p3)
    rw [← p3, Nat.zero_add] at hrt
    have hat : (nodesI s (0, true)).2.1 = s.length := by rw [hrt]
    have hS2 : nodesS s (0, true) = ((nodesI s (0, true)).1, ((nodesI s (0, true)).2.1, true)) := by
      rw [hS, if_neg (show ¬ (numI s (0, true)).1 > 3000 by omega), ha1, ← he]
      unfold restS
      rw [hat, ho, p1]; simp
    rw [hS2, if_pos ⟨rfl, (by simp only; omega), hp⟩]
  · rw [if_neg hc]
    by_cases hs : (nodesS s (0, true)).2.2 = true ∧ (nodesS s (0, true)).1.length ≠ 0 ∧ packV (nodesS s (0, true)).1 ((nodesS s (0, true)).1.length - 1) = some s
    · exfalso
      obtain ⟨s1, s2, s3⟩ := hs
      by_cases hbig : (numI s (0, true)).1 > 3000
      · rw [hS, if_pos hbig] at s1; simp [restS] at s1
      · rw [hS, if_neg hbig] at s1 s3
        have hok : (numI s (0, true)).2.2 = true := by
          cases e : (numI s (0, true)).2.2 with
          | true => rfl
          | false =>
            obtain ⟨a1, ha1⟩ : ∃ a1, (numI s (0, true)).2 = (a1, false) := ⟨_, Prod.ext rfl e⟩
            rw [ha1, goS_bad] at s1; simp [restS] at s1
        obtain ⟨a1, ha1⟩ : ∃ a1, (numI s (0, true)).2 = (a1, true) := ⟨_, Prod.ext rfl hok⟩
        have hsy := go_sync (b := s) (cnt := (numI s (0, true)).1) (by omega) 3001 0 a1 [] (by omega)
        have hII : nodesI s (0, true) = goI s (numI s (0, true)).1 3002 0 (a1, true) [] := by rw [hI, ha1]
        rw [ha1] at s1 s3
        simp only [restS, Bool.and_eq_true] at s1
        have he := hsy.2 (by rw [hsy.1]; exact s1.1)
        rw [← hII] at he
        simp only [restS] at s3
        rw [← he] at s1 s3
        exact hc ⟨s1.1, s3⟩
    · rw [if_neg hs]
theorem v_spec_ValueRead {s : List UInt8} (hb : s.length < 4294967296) : V 90 [.str (mk s)] = some (readD (readV s), []) := by
  have h1 : V 31 [.op [.os (1, 0) (s.map eU), .int .i64 0, .bool true]] = some (oP (nodesS s (0, true)).1, [rO s (nodesS s (0, true)).2]) := v_l8Read (b := s) (by omega) (s := (0, true)) (Nat.zero_le _)
  obtain ⟨hf, hl⟩ := nodesS_fits (b := s) (by omega) (0, true)
  have hv := v_spec_ValuePack hf (by omega) (((nodesS s (0, true)).1.length : Int) - 1)
  have hr := readV_same s
  rw [hr, espec_ValueRead, bytesD_mk]
  generalize hgen : nodesS s (0, true) = r at *
  obtain ⟨p, a, o⟩ := r
  simp only at h1 hl hv
  have hw : IntKind.wrap IntKind.i64 ((p.length : Int) - 1) = (p.length : Int) - 1 := w64 (by omega) (by omega)
  cases o with
  | false =>
    rw [if_neg (by simp)]
    simp (disch := first | omega | (simp only [List.length_append, List.length_cons, List.length_nil, List.length_map, mk_size, nat_cast_eq]; omega)) only [↓ocall_ocont, ocont_some, ↓br_true, ↓unn_nil, ↓unc_cons, ↓asI_int, ↓asB_bool, ↓asOs_os, ↓asAgg_agg, ↓asOp_op, Bool.not_false, h1]; rfl
  | true =>
    by_cases hz : p.length = 0
    · rw [if_neg (fun h => h.2.1 hz)]
      simp (disch := first | omega | (simp only [List.length_append, List.length_cons, List.length_nil, List.length_map, mk_size, nat_cast_eq]; omega)) only [↓ocall_ocont, ocont_some, ↓br_true, ↓br_false, ↓unn_nil, ↓unc_cons, ↓asI_int, ↓asB_bool, ↓asOs_os, ↓asAgg_agg, ↓asOp_op, beq_t, Bool.not_true, List.length_map, nat_cast_eq, h1]; rfl
    cases e : packV p ((p.length : Int) - 1) with
    | none =>
      rw [e, packD] at hv
      rw [if_neg (by simp)]
      -- the text is not the empty one
      have hs : strEq ⟨#[]⟩ (mk s) = false := by
        cases hs : strEq ⟨#[]⟩ (mk s) with
        | false => rfl
        | true =>
          exfalso
          have e0 : s = [] := by
            have : strEq (mk []) (mk s) = true := hs
            rw [strEq_mk] at this
            exact (of_decide_eq_true this).symm
          subst e0
          have : (nodesS [] (0, true)).2.2 = false := by
            unfold nodesS
            split
            · rfl
            · have e1 : (numS [] (0, true)).2 = (0, false) := rfl
              rw [e1, goS_bad]; rfl
          rw [hgen] at this
          cases this
      simp (disch := first | omega | (simp only [List.length_append, List.length_cons, List.length_nil, List.length_map, mk_size, nat_cast_eq]; omega)) only [↓ocall_ocont, ocont_some, ↓br_true, ↓br_false, ↓unn_nil, ↓unc_cons, ↓asI_int, ↓asB_bool, ↓asS_str, ↓asOs_os, ↓asAgg_agg, ↓asTup_tup, ↓asOp_op, beq_f, Bool.not_true, Bool.not_false, List.length_map, nat_cast_eq, h1, hw, hv, hs]; rfl
    | some q =>
      rw [e, packD] at hv
      by_cases hq : q = s
      · subst hq
        have hs : strEq (mk q) (mk q) = true := by rw [strEq_eq]; simp
        rw [if_pos ⟨rfl, hz, rfl⟩]
        simp (disch := first | omega | (simp only [List.length_append, List.length_cons, List.length_nil, List.length_map, mk_size, nat_cast_eq]; omega)) only [↓ocall_ocont, ocont_some, ↓br_false, ↓unn_nil, ↓unc_cons, ↓asI_int, ↓asB_bool, ↓asS_str, ↓asOs_os, ↓asAgg_agg, ↓asTup_tup, ↓asOp_op, beq_f, Bool.not_true, List.length_map, nat_cast_eq, h1, hw, hv, hs]; rfl
      · have hs : strEq (mk q) (mk s) = false := by rw [strEq_mk]; exact decide_eq_false hq
        rw [if_neg (fun h => hq (Option.some.inj h.2.2))]
        simp (disch := first | omega | (simp only [List.length_append, List.length_cons, List.length_nil, List.length_map, mk_size, nat_cast_eq]; omega)) only [↓ocall_ocont, ocont_some, ↓br_true, ↓br_false, ↓unn_nil, ↓unc_cons, ↓asI_int, ↓asB_bool, ↓asS_str, ↓asOs_os, ↓asAgg_agg, ↓asTup_tup, ↓asOp_op, beq_f, Bool.not_true, Bool.not_false, List.length_map, nat_cast_eq, h1, hw, hv, hs]; rfl
end Go.Eng
