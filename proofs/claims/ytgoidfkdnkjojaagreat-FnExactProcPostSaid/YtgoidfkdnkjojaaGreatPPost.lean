/- posting to a process, and its bytes, on both sides -/
import Derived.Test.YtgoidfkdnkjojaaGreatProc
namespace Go.Eng
open Go.Proofs Go.Proofs.Tryz
set_option maxHeartbeats 4000000

noncomputable def zPr' : Pr := ⟨0, ⟨[], 0, 0, 0, 0, 0, 0, 0⟩, [], []⟩
theorem v_cloneS {l : List ByteArray} (hl : l.length ≤ 4294967296) : V 100 [.rs (1, 0) (l.map D.str)] = some (.os (1, 0) (l.map D.str), []) := by
  rw [eslices_Clone_string_string, List.nil_append, grd_of (decide_eq_true (by rw [LIM_eq, List.length_map]; simp only [ni]; omega)), nam_eq]
  exact nilb_clone _ _
theorem v_copyProc {p : Pr} (hp : FitsR p) : V 63 [ePr p] = some (oPr p, []) := by
  have h1 := v_copyMachine (m := p.m) hp.plen
  have h2 := v_cloneS (l := p.box) (by have := hp.blen; omega)
  have h3 := v_cloneS (l := p.out) (by have := hp.olen; omega)
  rw [eimpl_copyProc]
  simp (disch := first | omega | (simp only [List.length_append, List.length_cons, List.length_nil, List.length_map, mk_size, nat_cast_eq]; omega)) only [↓ocall_ocont, ocont_some, ↓unn_nil, ↓unc_cons, ↓asI_int, ↓asOs_os, ↓asAgg_agg, h1, h2, h3]
theorem v_l12Copy {p : Pr} (hp : FitsR p) : V 62 [ePr p] = some (oPr p, []) := by
  have h1 := v_l6Copy (m := p.m) hp.plen
  have h2 := hp.blen
  have h3 := hp.olen
  rw [espec_l12Copy, List.nil_append, List.nil_append]
  simp (disch := first | omega | (simp only [List.length_append, List.length_cons, List.length_nil, List.length_map, mk_size, nat_cast_eq]; omega)) only [↓ocall_ocont, ocont_some, ↓grd_true, ↓unn_nil, ↓unc_cons, ↓asI_int, ↓asOs_os, ↓asAgg_agg, ↓nam_eq, dec_t, List.length_map, LIM_eq, nat_cast_eq, h1]
noncomputable def addBox (p : Pr) (t : ByteArray) : Pr := ⟨p.pid, p.m, p.box ++ [t], p.out⟩
theorem addBox_fits {p : Pr} (hp : FitsR p) {t : ByteArray} (ht : t.size < 4294967296) (hl : p.box.length < 4294967295) : FitsR (addBox p t) := by
  refine ⟨hp.pool, hp.plen, ?_, by simp [addBox]; omega, hp.out, hp.olen⟩
  intro x hx
  rcases List.mem_append.1 hx with hx | hx
  · exact hp.box x hx
  · simp at hx; subst hx; exact ht
/-- a process that was posted to, and whether it was -/
noncomputable def postP (c : Cd) (p : Pr) (t : ByteArray) : Pr × Bool := if okPr c p = true then (if okPr c (addBox p t) = true then (addBox p t, true) else (p, false)) else (zPr', false)
noncomputable abbrev postD (r : Pr × Bool) : D := .tup [oPr r.1, .bool r.2]
noncomputable abbrev ePr1 (p : Pr) (t : ByteArray) : D := .agg [.int .i64 p.pid, .rs (5, 0) (p.m.pool.map eN), .int .i64 p.m.at', .int .i64 p.m.s, .int .i64 p.m.e, .int .i64 p.m.d, .int .i64 p.m.state, .int .i64 p.m.ask, .int .i64 p.m.arg, .rs (1, 0) ((p.box ++ [t]).map D.str), .rs (1, 0) (p.out.map D.str)]
theorem v_impl_ProcPost {c : Cd} (hf : FitsC c) {p : Pr} (hp : FitsR p) {t : ByteArray} (ht : t.size < 4294967296) (hl : p.box.length < 4294967295) : V 26 [eCd c, ePr p, .str t] = some (postD (postP c p t), []) := by
  have h1 := v_impl_ProcOk hf hp
  have h2 := v_copyProc hp
  have h3 : V 49 [eCd c, ePr1 p t] = some (.bool (okPr c (addBox p t)), []) := v_impl_ProcOk hf (addBox_fits hp ht hl)
  have hm : p.box.map D.str ++ [D.str t] = (p.box ++ [t]).map D.str := by simp
  have hlim : decide (ni ((p.box ++ [t]).map D.str).length ≤ LIM) = true := decide_eq_true (by rw [LIM_eq]; simp only [ni, List.length_map, List.length_append, List.length_cons, List.length_nil]; omega)
  rw [eimpl_ProcPost, oc_i_ProcOk h1]
  unfold postP
  cases e1 : okPr c p with
  | false => rw [if_neg (by simp)]; rfl
  | true =>
    rw [if_pos rfl, Bool.not_true, br_false, oc_i_copyProc h2, hm, grd_of hlim, nam_eq, oc_i_ProcOk h3]
    cases e2 : okPr c (addBox p t) with
    | false => rw [if_neg (by simp), Bool.not_false, br_true, oc_i_copyProc h2]
    | true => rw [if_pos rfl]; rfl
theorem v_spec_ProcPost {c : Cd} (hf : FitsC c) {p : Pr} (hp : FitsR p) {t : ByteArray} (ht : t.size < 4294967296) (hl : p.box.length < 4294967295) : V 25 [eCd c, ePr p, .str t] = some (postD (postP c p t), []) := by
  have h1 := v_spec_ProcOk hf hp
  have h2 := v_l12Copy hp
  have h3 : V 47 [eCd c, ePr1 p t] = some (.bool (okPr c (addBox p t)), []) := v_spec_ProcOk hf (addBox_fits hp ht hl)
  have hm : p.box.map D.str ++ [D.str t] = (p.box ++ [t]).map D.str := by simp
  have hlim : decide (ni ((p.box ++ [t]).map D.str).length ≤ LIM) = true := decide_eq_true (by rw [LIM_eq]; simp only [ni, List.length_map, List.length_append, List.length_cons, List.length_nil]; omega)
  rw [espec_ProcPost, oc_s_ProcOk h1]
  unfold postP
  cases e1 : okPr c p with
  | false => rw [if_neg (by simp)]; rfl
  | true =>
    rw [if_pos rfl, Bool.not_true, br_false, oc_s_l12Copy h2, hm, grd_of hlim, nam_eq, oc_s_ProcOk h3]
    cases e2 : okPr c (addBox p t) with
    | false => rw [if_neg (by simp), Bool.not_false, br_true, oc_s_l12Copy h2]
    | true => rw [if_pos rfl]; rfl

/-! ## as bytes -/
theorem valB_len {s : ByteArray} (h : valB s = true) : s.size ≤ 100000 := by
  unfold valB readV at h
  split at h
  · rename_i hc
    obtain ⟨p1, p2, p3⟩ := packV_some hc.2
    rw [← bytes_len, p3]
    exact flat_len (keep_again p1 (roots_one p2) (-1) (-1)).1
  · cases h
noncomputable def rowB (l : List ByteArray) : List UInt8 := l.flatMap fun s => putT s.data.toList
noncomputable def textsB (l : List ByteArray) : List UInt8 := putU l.length ++ rowB l
theorem rowB_len : ∀ {l : List ByteArray}, (∀ x ∈ l, x.size ≤ 100000) → (rowB l).length ≤ 100010 * l.length
  | [], _ => by simp [rowB]
  | x :: l, h => by
    have ih := rowB_len (l := l) (fun y hy => h y (by simp [hy]))
    have hx := h x (by simp)
    have := putT_len (s := x.data.toList) (by rw [bytes_len]; omega)
    rw [bytes_len] at this
    simp only [rowB, List.flatMap_cons, List.length_append, List.length_cons] at ih ⊢
    omega
theorem impl_row_loop {l : List ByteArray} (hs : ∀ x ∈ l, x.size ≤ 100000) (hl : l.length ≤ 100) (j : Int) (q : List D) : ∀ (k i : Nat) (out : List UInt8), i + k = l.length → out.length + 100010 * k ≤ 100000000 →
    Limpl_ProcPack_10 2 j (l.map D.str) (ni l.length) (i : Int) (out.map eU) q = Limpl_ProcPack_6 2 (IntKind.wrap IntKind.i64 (j + 1)) ((out ++ rowB (l.drop i)).map eU) q
  | 0, i, out, hi, ho => by
    rw [Limpl_ProcPack_10_eq, List.drop_of_length_le (by omega)]
    simp (disch := first | omega | (simp only [List.length_append, List.length_cons, List.length_nil, List.length_map, mk_size, nat_cast_eq]; omega)) only [↓br_false, dec_f, nat_cast_eq, rowB, List.flatMap_nil, List.append_nil]
  | k + 1, i, out, hi, ho => by
    obtain ⟨x, hx⟩ := get_of_lt (l := l) (i := i) (by omega)
    have hxs := hs x (List.mem_of_getElem? hx)
    have hlx := putT_len (s := x.data.toList) (by rw [bytes_len]; omega)
    rw [bytes_len] at hlx
    have ih := impl_row_loop hs hl j q k (i + 1) (out ++ putT x.data.toList) (by omega) (by simp only [List.length_append]; omega)
    have hw : IntKind.wrap IntKind.i64 ((i : Int) + 1) = ((i + 1 : Nat) : Int) := w64s (by omega)
    have en : out ++ rowB (l.drop i) = out ++ putT x.data.toList ++ rowB (l.drop (i + 1)) := by rw [drop_at hx]; simp [rowB]
    have hn := v_impl_PutText' (s := x) (by omega)
    rw [en, Limpl_ProcPack_10_eq, br_of (lt_idx (by omega)), grd_of (by rw [List.length_map]; exact in_idx (by omega)), Int.toNat_natCast, oget_map hx, asS_str, oc_i_PutText hn, grd_of (pack_lim (by omega)), nam_eq, map_app, hw]
    exact ih
theorem spec_row_loop {l : List ByteArray} (hs : ∀ x ∈ l, x.size ≤ 100000) (hl : l.length ≤ 100) : ∀ (k i : Nat) (out : List UInt8), i + k = l.length → out.length + 100010 * k ≤ 100000000 →
    Lspec_l12Texts_3 (l.map D.str) (i : Int) (out.map eU) = some (.os (1, 0) ((out ++ rowB (l.drop i)).map eU), [])
  | 0, i, out, hi, ho => by
    rw [Lspec_l12Texts_3_eq, List.drop_of_length_le (by omega)]
    simp (disch := first | omega | (simp only [List.length_append, List.length_cons, List.length_nil, List.length_map, mk_size, nat_cast_eq]; omega)) only [↓br_false, dec_f, List.length_map, nat_cast_eq, rowB, List.flatMap_nil, List.append_nil]
  | k + 1, i, out, hi, ho => by
    obtain ⟨x, hx⟩ := get_of_lt (l := l) (i := i) (by omega)
    have hxs := hs x (List.mem_of_getElem? hx)
    have hlx := putT_len (s := x.data.toList) (by rw [bytes_len]; omega)
    rw [bytes_len] at hlx
    have ih := spec_row_loop hs hl k (i + 1) (out ++ putT x.data.toList) (by omega) (by simp only [List.length_append]; omega)
    have hw : IntKind.wrap IntKind.i64 ((i : Int) + 1) = ((i + 1 : Nat) : Int) := w64s (by omega)
    have en : out ++ rowB (l.drop i) = out ++ putT x.data.toList ++ rowB (l.drop (i + 1)) := by rw [drop_at hx]; simp [rowB]
    have hn := v_spec_PutText' (s := x) (by omega)
    rw [en, Lspec_l12Texts_3_eq, br_of (by rw [List.length_map]; exact lt_idx (by omega)), grd_of (by rw [List.length_map]; exact in_idx (by omega)), Int.toNat_natCast, oget_map hx, asS_str, oc_s_PutText hn, grd_of (pack_lim (by omega)), nam_eq, map_app, hw]
    exact ih
theorem v_l12Texts {l : List ByteArray} (hs : ∀ x ∈ l, x.size ≤ 100000) (hl : l.length ≤ 100) : V 57 [.rs (1, 0) (l.map D.str)] = some (.os (1, 0) ((textsB l).map eU), []) := by
  have hn := v_spec_PutNum (n := l.length) (by omega)
  have hp := putU_len9 (n := l.length) (by omega)
  have h := spec_row_loop hs hl l.length 0 (putU l.length) (Nat.zero_add _) (by omega)
  rw [Int.natCast_zero, List.drop_zero] at h
  rw [espec_l12Texts, List.length_map, oc_s_PutNum hn]
  exact h
/-- a machine as bytes is not long -/
theorem packM_len {c : Cd} {m : Mc} {s : List UInt8} (h : packM c m = some s) : s.length ≤ 200000 := by
  unfold packM at h
  split at h
  · rename_i hok
    cases h
    have h2 := tidy_ok hok
    have hl := flat_len (okMc_roots h2).1
    have hn := okMc_nums h2
    have hle : ∀ l : List Int, SmallN l → (numsB l).length ≤ 9 * l.length := by
      intro l
      induction l with
      | nil => intro _; simp [numsB]
      | cons x l ih =>
        intro hs
        have := ih (fun y hy => hs y (by simp [hy]))
        have hx := hs x (by simp)
        have := putU_len9 (n := x.toNat) (by omega)
        simp only [numsB, List.flatMap_cons, List.length_append, List.length_cons] at *
        omega
    have := hle _ hn
    simp only [numsOf, List.length_cons, List.length_nil] at this
    simp only [List.length_append]
    simp only [numsOf] at *
    omega
  · cases h
/-- a process as bytes -/
noncomputable def packP (c : Cd) (p : Pr) : Option (List UInt8) := if okPr c p = true then
    (match packM c p.m with | some s => some (putU p.pid.toNat ++ putT s ++ textsB p.box ++ textsB p.out) | none => none) else none
theorem okPr_facts {c : Cd} {p : Pr} (h : okPr c p = true) : 1 ≤ p.pid ∧ p.pid ≤ 1000000000 ∧ okMc c p.m = true ∧ p.box.length ≤ 20 ∧ p.out.length ≤ 40 ∧ (∀ x ∈ p.box, x.size ≤ 100000) ∧ (∀ x ∈ p.out, x.size ≤ 100000) := by
  unfold okPr at h
  simp only [Bool.and_eq_true, decide_eq_true_eq, List.all_eq_true] at h
  obtain ⟨h1, h2, h3, h4, h5, h6⟩ := h
  have h1 := wi_iff.1 h1
  exact ⟨h1.1, h1.2, h2, h3, h4, fun x hx => valB_len (h5 x hx), fun x hx => by have := h6 x hx; omega⟩
theorem v_impl_ProcPack {c : Cd} (hf : FitsC c) {p : Pr} (hp : FitsR p) : V 24 [eCd c, ePr p] = some (packD (packP c p), []) := by
  have h1 := v_impl_ProcOk hf hp
  have h2 := v_impl_MachinePack hf hp.pool hp.plen
  rw [eimpl_ProcPack, oc_i_ProcOk h1]
  unfold packP
  cases e1 : okPr c p with
  | false => rw [if_neg (by simp)]; rfl
  | true =>
    obtain ⟨f1, f2, f3, f4, f5, f6, f7⟩ := okPr_facts e1
    have e2 : ∃ s, packM c p.m = some s := by unfold packM; rw [if_pos f3]; exact ⟨_, rfl⟩
    obtain ⟨s, e2⟩ := e2
    have hs := packM_len e2
    rw [e2, packD] at h2
    rw [if_pos rfl, e2]
    have n1 := v_impl_PutNum' (z := p.pid) (by omega) (by omega)
    have t1 := v_impl_PutText (s := s) (by omega)
    have l1 := putU_len9 (n := p.pid.toNat) (by omega)
    have l2 := putT_len (s := s) (by omega)
    have n2 := v_impl_PutNum (n := p.box.length) (by omega)
    have l3 := putU_len9 (n := p.box.length) (by omega)
    have n3 := v_impl_PutNum (n := p.out.length) (by omega)
    have l4 := putU_len9 (n := p.out.length) (by omega)
    have r1 := rowB_len f6
    have r2 := rowB_len f7
    have b1 := impl_row_loop f6 (by omega) 0 [D.rs (1, 0) (p.box.map D.str), D.rs (1, 0) (p.out.map D.str)] p.box.length 0 (putU p.pid.toNat ++ putT s ++ putU p.box.length) (Nat.zero_add _) (by simp only [List.length_append]; omega)
    have b2 := impl_row_loop f7 (by omega) 1 [D.rs (1, 0) (p.box.map D.str), D.rs (1, 0) (p.out.map D.str)] p.out.length 0 (putU p.pid.toNat ++ putT s ++ putU p.box.length ++ rowB p.box ++ putU p.out.length) (Nat.zero_add _) (by simp only [List.length_append]; omega)
    rw [Int.natCast_zero, List.drop_zero] at b1 b2
    have w1 : IntKind.wrap IntKind.i64 ((0 : Int) + 1) = 1 := by decide
    have w2 : IntKind.wrap IntKind.i64 ((1 : Int) + 1) = 2 := by decide
    rw [w1] at b1
    rw [w2] at b2
    have s1 : ∀ out : List UInt8, out.length ≤ 300000 → Limpl_ProcPack_6 2 0 (out.map eU) [D.rs (1, 0) (p.box.map D.str), D.rs (1, 0) (p.out.map D.str)] = Limpl_ProcPack_10 2 0 (p.box.map D.str) (ni p.box.length) 0 ((out ++ putU p.box.length).map eU) [D.rs (1, 0) (p.box.map D.str), D.rs (1, 0) (p.out.map D.str)] := by
      intro out ho
      rw [Limpl_ProcPack_6_eq, br_of (by decide), grd_of (by rfl)]
      rw [show Int.toNat (0 : Int) = 0 from rfl, oget_lit0, asRs_rs, List.length_map, oc_i_PutNum n2, grd_of (pack_lim (by omega)), nam_eq, map_app]
    have s2 : ∀ out : List UInt8, out.length ≤ 3000000 → Limpl_ProcPack_6 2 1 (out.map eU) [D.rs (1, 0) (p.box.map D.str), D.rs (1, 0) (p.out.map D.str)] = Limpl_ProcPack_10 2 1 (p.out.map D.str) (ni p.out.length) 0 ((out ++ putU p.out.length).map eU) [D.rs (1, 0) (p.box.map D.str), D.rs (1, 0) (p.out.map D.str)] := by
      intro out ho
      rw [Limpl_ProcPack_6_eq, br_of (by decide), grd_of (by rfl)]
      rw [show Int.toNat (1 : Int) = 1 from rfl, oget_lit1, asRs_rs, List.length_map, oc_i_PutNum n3, grd_of (pack_lim (by omega)), nam_eq, map_app]
    have s3 : ∀ out : List UInt8, Limpl_ProcPack_6 2 2 (out.map eU) [D.rs (1, 0) (p.box.map D.str), D.rs (1, 0) (p.out.map D.str)] = some (.tup [.str (mk out), .bool true], []) := by
      intro out
      rw [Limpl_ProcPack_6_eq, br_not (by decide), obytes_map]
    rw [Bool.not_true, br_false, oc_i_MachinePack h2, oc_i_PutNum n1, oc_i_PutText t1, grd_of (pack_lim (by omega)), nam_eq, map_app]
    have e0 : ni 2 = 2 := rfl
    rw [e0, s1 _ (by simp only [List.length_append]; omega), b1, s2 _ (by simp only [List.length_append]; omega), b2, s3, packD]
    simp only [textsB, List.append_assoc]
theorem v_spec_ProcPack {c : Cd} (hf : FitsC c) {p : Pr} (hp : FitsR p) : V 22 [eCd c, ePr p] = some (packD (packP c p), []) := by
  have h1 := v_spec_ProcOk hf hp
  have h2 := v_spec_MachinePack hf hp.pool hp.plen
  rw [espec_ProcPack, oc_s_ProcOk h1]
  unfold packP
  cases e1 : okPr c p with
  | false => rw [if_neg (by simp)]; rfl
  | true =>
    obtain ⟨f1, f2, f3, f4, f5, f6, f7⟩ := okPr_facts e1
    have e2 : ∃ s, packM c p.m = some s := by unfold packM; rw [if_pos f3]; exact ⟨_, rfl⟩
    obtain ⟨s, e2⟩ := e2
    have hs := packM_len e2
    rw [e2, packD] at h2
    rw [if_pos rfl, e2]
    have n1 := v_spec_PutNum' (z := p.pid) (by omega) (by omega)
    have t1 := v_spec_PutText (s := s) (by omega)
    have l1 := putU_len9 (n := p.pid.toNat) (by omega)
    have l2 := putT_len (s := s) (by omega)
    have l3 := putU_len9 (n := p.box.length) (by omega)
    have l4 := putU_len9 (n := p.out.length) (by omega)
    have r1 := rowB_len f6
    have r2 := rowB_len f7
    have b1 := v_l12Texts f6 (by omega)
    have b2 := v_l12Texts f7 (by omega)
    rw [Bool.not_true, br_false, oc_s_MachinePack h2, oc_s_PutNum n1, oc_s_PutText t1, grd_of (pack_lim (by omega)), nam_eq, map_app, oc_s_l12Texts b1, grd_of (pack_lim (by simp only [textsB, List.length_append]; omega)), nam_eq, map_app, oc_s_l12Texts b2, grd_of (pack_lim (by simp only [textsB, List.length_append]; omega)), nam_eq, map_app, obytes_map, packD]
end Go.Eng
