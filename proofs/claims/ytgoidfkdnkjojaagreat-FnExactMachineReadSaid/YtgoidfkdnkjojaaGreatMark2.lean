/- marks of code, machines, processes -/
import Derived.Test.YtgoidfkdnkjojaaGreatLProc
namespace Go.Eng
open Go.Proofs Go.Proofs.Tryz
set_option maxHeartbeats 4000000

noncomputable def mkIn (k : Int) : In := ⟨k, k + 1, k + 2, mt (k + 3)⟩
theorem markInstr_loop {l : List In} {c : Int} (h0 : 0 ≤ c) (h1 : c < 1152921504606846976) (h2 : l.length < 115292150460684697) : ∀ (k i : Nat), i + k = l.length → Llaws_markInstrS_2 (c + 4 * (i : Int)) (i : Int) ((marked mkIn 4 c i ++ l.drop i).map eIn) = some (.int .i64 (c + 4 * (l.length : Int)), [.os (4, 0) ((marked mkIn 4 c l.length).map eIn)])
  | 0, i, hi => by
    have : i = l.length := by omega
    subst this
    rw [Llaws_markInstrS_2_eq, List.drop_length, List.append_nil, List.length_map, marked_length]
    simp (disch := first | omega | (simp only [List.length_append, List.length_cons, List.length_nil, List.length_map, mk_size, nat_cast_eq]; omega)) only [↓br_false, dec_f, nat_cast_eq]
  | k + 1, i, hi => by
    obtain ⟨x, hx⟩ := get_of_lt (l := l) (i := i) (by omega)
    have ih := markInstr_loop h0 h1 h2 k (i + 1) (by omega)
    have hA : ((marked mkIn 4 c i).map eIn).length = i := by rw [List.length_map, marked_length]
    have hj := mark_join eIn mkIn 4 c (l := l) (i := i)
    have hw : IntKind.wrap IntKind.i64 ((i : Int) + 1) = ((i + 1 : Nat) : Int) := w64s (by omega)
    have hl1 : ∀ y : D, ((marked mkIn 4 c i).map eIn ++ y :: (l.drop (i + 1)).map eIn).length = l.length := by
      intro y
      rw [List.length_append, hA, List.length_cons, List.length_map, List.length_drop]; omega
    have hg : (decide (0 ≤ (i : Int)) && decide ((i : Int) < ni l.length)) = true := in_idx (by omega)
    have w1 : IntKind.wrap IntKind.i64 (c + 4 * (i : Int) + 1) = c + 4 * (i : Int) + 1 := by rw [w64 (by omega) (by omega)]
    have w2 : IntKind.wrap IntKind.i64 (c + 4 * (i : Int) + 1 + 1) = c + 4 * (i : Int) + 2 := by rw [w64 (by omega) (by omega)]; omega
    have w3 : IntKind.wrap IntKind.i64 (c + 4 * (i : Int) + 2 + 1) = c + 4 * (i : Int) + 3 := by rw [w64 (by omega) (by omega)]; omega
    have w4 : IntKind.wrap IntKind.i64 (c + 4 * (i : Int) + 3 + 1) = c + 4 * ((i + 1 : Nat) : Int) := by rw [w64 (by omega) (by omega)]; omega
    have hm := v_mt (p := c + 4 * (i : Int) + 3) (by omega)
    rw [Llaws_markInstrS_2_eq, mark_split eIn (marked_length mkIn 4 c i) hx, w1, w2, w3, w4, hw, hl1, br_of (lt_idx (by omega)), grd_of hg, Int.toNat_natCast, oget_mid hA, asAgg_agg, nam_eq, set_mid' hA, hl1, grd_of hg, oget_mid hA, asAgg_agg, nam_eq, set_mid' hA, hl1, grd_of hg, oget_mid hA, asAgg_agg, nam_eq, set_mid' hA, ocall_some hm, asS_str, unn_nil, hl1, grd_of hg, oget_mid hA, asAgg_agg, nam_eq, set_mid' hA]
    refine Eq.trans ?_ ih
    rw [← hj]
    rfl
theorem v_markInstr {l : List In} {c : Int} (h0 : 0 ≤ c) (h1 : c < 1152921504606846976) (h2 : l.length < 115292150460684697) : V 43 [.os (4, 0) (l.map eIn), .int .i64 c] = some (.int .i64 (c + 4 * (l.length : Int)), [.os (4, 0) ((marked mkIn 4 c l.length).map eIn)]) := by
  have h := markInstr_loop (l := l) h0 h1 h2 l.length 0 (Nat.zero_add _)
  rw [show c + 4 * ((0 : Nat) : Int) = c by omega, Int.natCast_zero, show marked mkIn 4 c 0 = [] from rfl, List.nil_append, List.drop_zero] at h
  rw [elaws_markInstrS]
  exact h
noncomputable def mkDf (k : Int) : Df := ⟨mt k, k + 1, k + 2⟩
theorem markDef_loop {l : List Df} {c : Int} (h0 : 0 ≤ c) (h1 : c < 1152921504606846976) (h2 : l.length < 115292150460684697) : ∀ (k i : Nat), i + k = l.length → Llaws_markDefS_2 (c + 3 * (i : Int)) (i : Int) ((marked mkDf 3 c i ++ l.drop i).map eDf) = some (.int .i64 (c + 3 * (l.length : Int)), [.os (3, 0) ((marked mkDf 3 c l.length).map eDf)])
  | 0, i, hi => by
    have : i = l.length := by omega
    subst this
    rw [Llaws_markDefS_2_eq, List.drop_length, List.append_nil, List.length_map, marked_length]
    simp (disch := first | omega | (simp only [List.length_append, List.length_cons, List.length_nil, List.length_map, mk_size, nat_cast_eq]; omega)) only [↓br_false, dec_f, nat_cast_eq]
  | k + 1, i, hi => by
    obtain ⟨x, hx⟩ := get_of_lt (l := l) (i := i) (by omega)
    have ih := markDef_loop h0 h1 h2 k (i + 1) (by omega)
    have hA : ((marked mkDf 3 c i).map eDf).length = i := by rw [List.length_map, marked_length]
    have hj := mark_join eDf mkDf 3 c (l := l) (i := i)
    have hw : IntKind.wrap IntKind.i64 ((i : Int) + 1) = ((i + 1 : Nat) : Int) := w64s (by omega)
    have hl1 : ∀ y : D, ((marked mkDf 3 c i).map eDf ++ y :: (l.drop (i + 1)).map eDf).length = l.length := by
      intro y
      rw [List.length_append, hA, List.length_cons, List.length_map, List.length_drop]; omega
    have hg : (decide (0 ≤ (i : Int)) && decide ((i : Int) < ni l.length)) = true := in_idx (by omega)
    have w1 : IntKind.wrap IntKind.i64 (c + 3 * (i : Int) + 1) = c + 3 * (i : Int) + 1 := by rw [w64 (by omega) (by omega)]
    have w2 : IntKind.wrap IntKind.i64 (c + 3 * (i : Int) + 1 + 1) = c + 3 * (i : Int) + 2 := by rw [w64 (by omega) (by omega)]; omega
    have w3 : IntKind.wrap IntKind.i64 (c + 3 * (i : Int) + 2 + 1) = c + 3 * ((i + 1 : Nat) : Int) := by rw [w64 (by omega) (by omega)]; omega
    have hm := v_mt (p := c + 3 * (i : Int)) (by omega)
    rw [Llaws_markDefS_2_eq, mark_split eDf (marked_length mkDf 3 c i) hx, w1, w2, w3, hw, hl1, br_of (lt_idx (by omega)), ocall_some hm, asS_str, unn_nil, grd_of hg, Int.toNat_natCast, oget_mid hA, asAgg_agg, nam_eq, set_mid' hA, hl1, grd_of hg, oget_mid hA, asAgg_agg, nam_eq, set_mid' hA, hl1, grd_of hg, oget_mid hA, asAgg_agg, nam_eq, set_mid' hA]
    refine Eq.trans ?_ ih
    rw [← hj]
    rfl
theorem v_markDef {l : List Df} {c : Int} (h0 : 0 ≤ c) (h1 : c < 1152921504606846976) (h2 : l.length < 115292150460684697) : V 44 [.os (3, 0) (l.map eDf), .int .i64 c] = some (.int .i64 (c + 3 * (l.length : Int)), [.os (3, 0) ((marked mkDf 3 c l.length).map eDf)]) := by
  have h := markDef_loop (l := l) h0 h1 h2 l.length 0 (Nat.zero_add _)
  rw [show c + 3 * ((0 : Nat) : Int) = c by omega, Int.natCast_zero, show marked mkDf 3 c 0 = [] from rfl, List.nil_append, List.drop_zero] at h
  rw [elaws_markDefS]
  exact h
theorem markString_loop {l : List ByteArray} {c : Int} (h0 : 0 ≤ c) (h1 : c < 1152921504606846976) (h2 : l.length < 115292150460684697) : ∀ (k i : Nat), i + k = l.length → Llaws_markStringS_2 (c + 1 * (i : Int)) (i : Int) ((marked mt 1 c i ++ l.drop i).map D.str) = some (.int .i64 (c + 1 * (l.length : Int)), [.os (1, 0) ((marked mt 1 c l.length).map D.str)])
  | 0, i, hi => by
    have : i = l.length := by omega
    subst this
    rw [Llaws_markStringS_2_eq, List.drop_length, List.append_nil, List.length_map, marked_length]
    simp (disch := first | omega | (simp only [List.length_append, List.length_cons, List.length_nil, List.length_map, mk_size, nat_cast_eq]; omega)) only [↓br_false, dec_f, nat_cast_eq]
  | k + 1, i, hi => by
    obtain ⟨x, hx⟩ := get_of_lt (l := l) (i := i) (by omega)
    have ih := markString_loop h0 h1 h2 k (i + 1) (by omega)
    have hA : ((marked mt 1 c i).map D.str).length = i := by rw [List.length_map, marked_length]
    have hj := mark_join D.str mt 1 c (l := l) (i := i)
    have hw : IntKind.wrap IntKind.i64 ((i : Int) + 1) = ((i + 1 : Nat) : Int) := w64s (by omega)
    have hl1 : ∀ y : D, ((marked mt 1 c i).map D.str ++ y :: (l.drop (i + 1)).map D.str).length = l.length := by
      intro y
      rw [List.length_append, hA, List.length_cons, List.length_map, List.length_drop]; omega
    have hg : (decide (0 ≤ (i : Int)) && decide ((i : Int) < ni l.length)) = true := in_idx (by omega)
    have w1 : IntKind.wrap IntKind.i64 (c + 1 * (i : Int) + 1) = c + 1 * ((i + 1 : Nat) : Int) := by rw [w64 (by omega) (by omega)]; omega
    have hm := v_mt (p := c + 1 * (i : Int)) (by omega)
    rw [Llaws_markStringS_2_eq, mark_split D.str (marked_length mt 1 c i) hx, w1, hw, hl1, br_of (lt_idx (by omega)), ocall_some hm, asS_str, unn_nil, grd_of hg, Int.toNat_natCast, oget_mid hA, nam_eq, set_mid' hA]
    refine Eq.trans ?_ ih
    rw [← hj]
theorem v_markString {l : List ByteArray} {c : Int} (h0 : 0 ≤ c) (h1 : c < 1152921504606846976) (h2 : l.length < 115292150460684697) : V 51 [.os (1, 0) (l.map D.str), .int .i64 c] = some (.int .i64 (c + 1 * (l.length : Int)), [.os (1, 0) ((marked mt 1 c l.length).map D.str)]) := by
  have h := markString_loop (l := l) h0 h1 h2 l.length 0 (Nat.zero_add _)
  rw [show c + 1 * ((0 : Nat) : Int) = c by omega, Int.natCast_zero, show marked mt 1 c 0 = [] from rfl, List.nil_append, List.drop_zero] at h
  rw [elaws_markStringS]
  exact h
theorem heldString_loop {n : Nat} {c : Int} (h0 : 0 ≤ c) (h1 : c < 1152921504606846976) (h2 : n < 115292150460684697) : ∀ (k i : Nat), i + k = n → Llaws_heldStringS_2 ((marked mt 1 c n).map D.str) (c + 1 * (i : Int)) (i : Int) = some (.int .i64 (c + 1 * (n : Int)), [])
  | 0, i, hi => by
    have : i = n := by omega
    subst this
    rw [Llaws_heldStringS_2_eq, List.length_map, marked_length]
    simp (disch := first | omega | (simp only [List.length_append, List.length_cons, List.length_nil, List.length_map, mk_size, nat_cast_eq]; omega)) only [↓br_false, dec_f, nat_cast_eq]
  | k + 1, i, hi => by
    have hx := marked_get mt 1 c (n := n) (i := i) (by omega)
    have ih := heldString_loop h0 h1 h2 k (i + 1) (by omega)
    have hw : IntKind.wrap IntKind.i64 ((i : Int) + 1) = ((i + 1 : Nat) : Int) := w64s (by omega)
    have w1 : IntKind.wrap IntKind.i64 (c + 1 * (i : Int) + 1) = c + 1 * ((i + 1 : Nat) : Int) := by rw [w64 (by omega) (by omega)]; omega
    have hm := v_mt (p := c + 1 * (i : Int)) (by omega)
    have hs : strEq (mt (c + 1 * (i : Int))) (mt (c + 1 * (i : Int))) = true := by rw [strEq_eq]; simp
    have hl1 : ((marked mt 1 c n).map D.str).length = n := by rw [List.length_map, marked_length]
    rw [Llaws_heldStringS_2_eq, hl1]
    simp only [w1]
    simp (disch := first | omega | (simp only [List.length_append, List.length_cons, List.length_nil, List.length_map, mk_size, nat_cast_eq]; omega)) only [↓ocall_ocont, ocont_some, ↓br_true, ↓br_false, ↓grd_true, ↓unn_nil, ↓asS_str, ↓oget_nat, dec_t, Bool.and_true, Bool.not_true, nat_cast_eq, ↓oget_map hx, hm, hs, hw, ih]
theorem v_heldString {n : Nat} {c : Int} (h0 : 0 ≤ c) (h1 : c < 1152921504606846976) (h2 : n < 115292150460684697) : V 52 [.rs (1, 0) ((marked mt 1 c n).map D.str), .int .i64 c] = some (.int .i64 (c + 1 * (n : Int)), []) := by
  have h := heldString_loop (n := n) h0 h1 h2 n 0 (Nat.zero_add _)
  rw [show c + 1 * ((0 : Nat) : Int) = c by omega, Int.natCast_zero] at h
  rw [elaws_heldStringS]
  exact h

/-! ## code, machines, processes -/
noncomputable def mkCd (c : Cd) (k : Int) : Cd := ⟨marked mkNd 5 k c.pool.length, marked mkIn 4 (k + 5 * c.pool.length) c.list.length, marked mkDf 3 (k + 5 * c.pool.length + 4 * c.list.length) c.defs.length⟩
noncomputable def nCd (c : Cd) : Int := 5 * c.pool.length + 4 * c.list.length + 3 * c.defs.length
theorem v_markCode {c : Cd} (h1 : c.pool.length ≤ 4294967296) (h2 : c.list.length ≤ 4294967296) (h3 : c.defs.length ≤ 4294967296) {k : Int} (k0 : 0 ≤ k) (k1 : k < 1000000000) : V 13 [oCd c, .int .i64 k] = some (.int .i64 (k + nCd c), [oCd (mkCd c k)]) := by
  have a1 := v_markPool (l := c.pool) k0 (by omega) (by omega)
  have a2 := v_markInstr (l := c.list) (c := k + 5 * c.pool.length) (by omega) (by omega) (by omega)
  have a3 := v_markDef (l := c.defs) (c := k + 5 * c.pool.length + 4 * c.list.length) (by omega) (by omega) (by omega)
  rw [elaws_markCode]
  simp (disch := first | omega | (simp only [List.length_append, List.length_cons, List.length_nil, List.length_map, mk_size, nat_cast_eq]; omega)) only [↓ocall_ocont, ocont_some, ↓unn_nil, ↓unc_cons, ↓asI_int, ↓asOs_os, ↓asAgg_agg, a1, a2, a3]
  unfold nCd mkCd
  simp only [Int.add_assoc]
noncomputable def mkMc (m : Mc) (k : Int) : Mc := { m with pool := marked mkNd 5 k m.pool.length }
noncomputable def nMc (m : Mc) : Int := 5 * m.pool.length
theorem v_markMachine {m : Mc} (h1 : m.pool.length ≤ 4294967296) {k : Int} (k0 : 0 ≤ k) (k1 : k < 1000000000) : V 14 [oMc m, .int .i64 k] = some (.int .i64 (k + nMc m), [oMc (mkMc m k)]) := by
  have a1 := v_markPool (l := m.pool) k0 (by omega) (by omega)
  rw [elaws_markMachine]
  simp (disch := first | omega | (simp only [List.length_append, List.length_cons, List.length_nil, List.length_map, mk_size, nat_cast_eq]; omega)) only [↓ocall_ocont, ocont_some, ↓unn_nil, ↓unc_cons, ↓asI_int, ↓asOs_os, ↓asAgg_agg, a1]
  rfl
theorem v_heldMachine {m : Mc} (h1 : m.pool.length ≤ 4294967296) {k : Int} (k0 : 0 ≤ k) (k1 : k < 1000000000) : V 15 [eMc (mkMc m k), .int .i64 k] = some (.int .i64 (k + nMc m), []) := by
  have a1 := v_heldPool (n := m.pool.length) k0 (by omega) (by omega)
  rw [elaws_heldMachine]
  unfold nMc
  simp (disch := first | omega | (simp only [List.length_append, List.length_cons, List.length_nil, List.length_map, mk_size, nat_cast_eq]; omega)) only [↓ocall_ocont, ocont_some, ↓br_false, ↓unn_nil, ↓asI_int, dec_f, mkMc, a1]
noncomputable def mkPr (p : Pr) (k : Int) : Pr := ⟨p.pid, mkMc p.m k, marked mt 1 (k + nMc p.m) p.box.length, marked mt 1 (k + nMc p.m + 1 * p.box.length) p.out.length⟩
noncomputable def nPr (p : Pr) : Int := nMc p.m + 1 * p.box.length + 1 * p.out.length
theorem v_markProc {p : Pr} (h1 : p.m.pool.length ≤ 4294967296) (h2 : p.box.length ≤ 4294967296) (h3 : p.out.length ≤ 4294967296) {k : Int} (k0 : 0 ≤ k) (k1 : k < 1000000000) : V 19 [oPr p, .int .i64 k] = some (.int .i64 (k + nPr p), [oPr (mkPr p k)]) := by
  have a1 := v_markMachine (m := p.m) h1 k0 (by omega)
  have hn : nMc p.m = 5 * p.m.pool.length := rfl
  have a2 := v_markString (l := p.box) (c := k + nMc p.m) (by omega) (by omega) (by omega)
  have a3 := v_markString (l := p.out) (c := k + nMc p.m + 1 * p.box.length) (by omega) (by omega) (by omega)
  rw [elaws_markProc]
  simp (disch := first | omega | (simp only [List.length_append, List.length_cons, List.length_nil, List.length_map, mk_size, nat_cast_eq]; omega)) only [↓ocall_ocont, ocont_some, ↓unn_nil, ↓unc_cons, ↓asI_int, ↓asOs_os, ↓asAgg_agg, a1, a2, a3]
  unfold nPr mkPr mkMc
  simp only [Int.add_assoc]
theorem v_heldProc {p : Pr} (h1 : p.m.pool.length ≤ 4294967296) (h2 : p.box.length ≤ 4294967296) (h3 : p.out.length ≤ 4294967296) {k : Int} (k0 : 0 ≤ k) (k1 : k < 1000000000) : V 20 [ePr (mkPr p k), .int .i64 k] = some (.int .i64 (k + nPr p), []) := by
  have a1 := v_heldMachine (m := p.m) h1 k0 (by omega)
  have hn : nMc p.m = 5 * p.m.pool.length := rfl
  have a2 := v_heldString (n := p.box.length) (c := k + nMc p.m) (by omega) (by omega) (by omega)
  have a3 := v_heldString (n := p.out.length) (c := k + nMc p.m + 1 * p.box.length) (by omega) (by omega) (by omega)
  rw [elaws_heldProc]
  simp (disch := first | omega | (simp only [List.length_append, List.length_cons, List.length_nil, List.length_map, mk_size, nat_cast_eq]; omega)) only [↓ocall_ocont, ocont_some, ↓br_false, ↓unn_nil, ↓asI_int, dec_f, mkPr, a1, a2, a3]
  unfold nPr
  simp only [Int.add_assoc]
/-- a machine and a process, marked: what bears no mark as it was -/
noncomputable abbrev eMk (m : Mc) (k : Int) : D := .agg [.rs (5, 0) ((mkMc m k).pool.map eN), .int .i64 m.at', .int .i64 m.s, .int .i64 m.e, .int .i64 m.d, .int .i64 m.state, .int .i64 m.ask, .int .i64 m.arg]
theorem v_heldMachine' {m : Mc} (h1 : m.pool.length ≤ 4294967296) {k : Int} (k0 : 0 ≤ k) (k1 : k < 1000000000) : V 15 [eMk m k, .int .i64 k] = some (.int .i64 (k + nMc m), []) := v_heldMachine h1 k0 k1
noncomputable abbrev ePk (p : Pr) (k : Int) : D := .agg [.int .i64 p.pid, .rs (5, 0) ((mkPr p k).m.pool.map eN), .int .i64 p.m.at', .int .i64 p.m.s, .int .i64 p.m.e, .int .i64 p.m.d, .int .i64 p.m.state, .int .i64 p.m.ask, .int .i64 p.m.arg, .rs (1, 0) ((mkPr p k).box.map D.str), .rs (1, 0) ((mkPr p k).out.map D.str)]
theorem v_heldProc' {p : Pr} (h1 : p.m.pool.length ≤ 4294967296) (h2 : p.box.length ≤ 4294967296) (h3 : p.out.length ≤ 4294967296) {k : Int} (k0 : 0 ≤ k) (k1 : k < 1000000000) : V 20 [ePk p k, .int .i64 k] = some (.int .i64 (k + nPr p), []) := v_heldProc h1 h2 h3 k0 k1
end Go.Eng
