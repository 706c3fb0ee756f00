/- machines as bytes, on both sides -/
import Derived.Test.YtgoidfkdnkjojaaGreatTidy
import Derived.Test.YtgoidfkdnkjojaaGreatArgs
namespace Go.Eng
open Go.Proofs Go.Proofs.Tryz
set_option maxHeartbeats 4000000

noncomputable def numsB (l : List Int) : List UInt8 := l.flatMap fun x => putU x.toNat
noncomputable def SmallN (l : List Int) : Prop := ∀ x ∈ l, 0 ≤ x ∧ x < 4611686018427387904
theorem impl_mp_loop {p : List Nd} (hp : okPool p = true) {l : List Int} (hs : SmallN l) (hl : l.length ≤ 1000) (a b c d e f g : Int) : ∀ (k i : Nat) (out : List UInt8), i + k = l.length → out.length ≤ 9 * i →
    Limpl_MachinePack_6 (ni l.length) (i : Int) a b c d e f g (out.map eU) (l.map eI) (p.map eN) = some (.tup [.str (mk (out ++ numsB (l.drop i) ++ packN p)), .bool true], [])
  | 0, i, out, hi, ho => by
    have hpk := flat_len hp
    rw [Limpl_MachinePack_6_eq, List.drop_of_length_le (by omega)]
    simp (disch := first | omega | (simp only [List.length_append, List.length_cons, List.length_nil, List.length_map, mk_size, nat_cast_eq]; omega)) only [↓ocall_ocont, ocont_some, ↓br_false, ↓grd_true, ↓unn_nil, ↓asOs_os, ↓nam_eq, dec_t, dec_f, List.length_map, List.length_append, LIM_eq, nat_cast_eq, v_packNodes hp, map_app, ↓obytes_map, numsB, List.flatMap_nil, List.append_nil]
  | k + 1, i, out, hi, ho => by
    obtain ⟨x, hx⟩ := get_of_lt (l := l) (i := i) (by omega)
    have hxs := hs x (List.mem_of_getElem? hx)
    have hlx := putU_len9 (n := x.toNat) (by omega)
    have ih := impl_mp_loop hp hs hl a b c d e f g k (i + 1) (out ++ putU x.toNat) (by omega) (by simp only [List.length_append]; omega)
    have hw : IntKind.wrap IntKind.i64 ((i : Int) + 1) = ((i + 1 : Nat) : Int) := w64s (by omega)
    have en : out ++ numsB (l.drop i) ++ packN p = out ++ putU x.toNat ++ numsB (l.drop (i + 1)) ++ packN p := by
      rw [drop_at hx]; simp [numsB]
    have hn := v_impl_PutNum' hxs.1 hxs.2
    rw [en, Limpl_MachinePack_6_eq]
    simp (disch := first | omega | (simp only [List.length_append, List.length_cons, List.length_nil, List.length_map, mk_size, nat_cast_eq]; omega)) only [↓ocall_ocont, ocont_some, ↓br_true, ↓grd_true, ↓unn_nil, ↓asI_int, ↓asOs_os, ↓nam_eq, ↓oget_nat, dec_t, Bool.and_true, List.length_map, List.length_append, LIM_eq, nat_cast_eq, ↓oget_map hx, hn, map_app, hw]
    exact ih
theorem spec_mp_loop {p : List Nd} (hp : okPool p = true) {l : List Int} (hs : SmallN l) (hl : l.length ≤ 1000) (a b c d e f g : Int) : ∀ (k i : Nat) (out : List UInt8), i + k = l.length → out.length ≤ 9 * i →
    Lspec_MachinePack_7 (i : Int) a b c d e f g (out.map eU) (l.map eI) (p.map eN) = some (.tup [.str (mk (out ++ numsB (l.drop i) ++ packN p)), .bool true], [])
  | 0, i, out, hi, ho => by
    have hpk := flat_len hp
    rw [Lspec_MachinePack_7_eq, List.drop_of_length_le (by omega)]
    simp (disch := first | omega | (simp only [List.length_append, List.length_cons, List.length_nil, List.length_map, mk_size, nat_cast_eq]; omega)) only [↓ocall_ocont, ocont_some, ↓br_false, ↓grd_true, ↓unn_nil, ↓asOs_os, ↓nam_eq, dec_t, dec_f, List.length_map, List.length_append, LIM_eq, nat_cast_eq, v_l8Nodes hp, map_app, ↓obytes_map, numsB, List.flatMap_nil, List.append_nil]
  | k + 1, i, out, hi, ho => by
    obtain ⟨x, hx⟩ := get_of_lt (l := l) (i := i) (by omega)
    have hxs := hs x (List.mem_of_getElem? hx)
    have hlx := putU_len9 (n := x.toNat) (by omega)
    have ih := spec_mp_loop hp hs hl a b c d e f g k (i + 1) (out ++ putU x.toNat) (by omega) (by simp only [List.length_append]; omega)
    have hw : IntKind.wrap IntKind.i64 ((i : Int) + 1) = ((i + 1 : Nat) : Int) := w64s (by omega)
    have en : out ++ numsB (l.drop i) ++ packN p = out ++ putU x.toNat ++ numsB (l.drop (i + 1)) ++ packN p := by
      rw [drop_at hx]; simp [numsB]
    have hn := v_spec_PutNum' hxs.1 hxs.2
    rw [en, Lspec_MachinePack_7_eq]
    simp (disch := first | omega | (simp only [List.length_append, List.length_cons, List.length_nil, List.length_map, mk_size, nat_cast_eq]; omega)) only [↓ocall_ocont, ocont_some, ↓br_true, ↓grd_true, ↓unn_nil, ↓asI_int, ↓asOs_os, ↓nam_eq, ↓oget_nat, dec_t, Bool.and_true, List.length_map, List.length_append, LIM_eq, nat_cast_eq, ↓oget_map hx, hn, map_app, hw]
    exact ih
noncomputable def numsOf (m : Mc) : List Int := [m.at', m.state, m.ask, m.s, m.e, m.d, m.arg]
/-- a machine as bytes -/
noncomputable def packM (c : Cd) (m : Mc) : Option (List UInt8) := if okMc c m = true then some (numsB (numsOf (tidyM m)) ++ packN (tidyM m).pool) else none
theorem okMc_nums {c : Cd} {m : Mc} (h : okMc c m = true) : SmallN (numsOf m) := by
  obtain ⟨hp, hr, h1, h2, h3, h4, h5, h6, h7, h8⟩ := okMc_roots h
  have hlen := okPool_len hp
  have hs : wi m.s 0 ((m.pool.length : Int) - 1) = true ∧ wi m.e 0 ((m.pool.length : Int) - 1) = true ∧ wi m.d 0 ((m.pool.length : Int) - 1) = true := by
    unfold okMc hasP at h
    simp only [Bool.and_eq_true] at h
    exact ⟨h.2.2.1, h.2.2.2.1, h.2.2.2.2.1⟩
  have w1 := wi_iff.1 hs.1
  have w2 := wi_iff.1 hs.2.1
  have w3 := wi_iff.1 hs.2.2
  intro x hx
  simp only [numsOf, List.mem_cons, List.not_mem_nil, or_false] at hx
  omega
theorem v_impl_MachinePack {c : Cd} (hf : FitsC c) {m : Mc} (hm : Fits m.pool) (hl : m.pool.length ≤ 4294967296) : V 38 [eCd c, eMc m] = some (packD (packM c m), []) := by
  have hok := v_impl_MachineOk hf hm (by omega)
  have ht := v_impl_Tidy hm hl
  rw [eimpl_MachinePack]
  unfold packM
  cases h : okMc c m with
  | false => rw [h] at hok; simp (disch := first | omega | (simp only [List.length_append, List.length_cons, List.length_nil, List.length_map, mk_size, nat_cast_eq]; omega)) only [↓ocall_ocont, ocont_some, ↓br_true, ↓unn_nil, ↓asB_bool, Bool.not_false, hok]; rfl
  | true =>
    rw [h] at hok
    have h2 := tidy_ok h
    have hlp := impl_mp_loop (okMc_roots h2).1 (okMc_nums h2) (by simp [numsOf]) (tidyM m).at' (tidyM m).s (tidyM m).e (tidyM m).d (tidyM m).state (tidyM m).ask (tidyM m).arg 7 0 [] rfl (by simp)
    rw [List.drop_zero, List.nil_append] at hlp
    simp (disch := first | omega | (simp only [List.length_append, List.length_cons, List.length_nil, List.length_map, mk_size, nat_cast_eq]; omega)) only [↓ocall_ocont, ocont_some, ↓br_false, ↓unn_nil, ↓unc_cons, ↓asI_int, ↓asB_bool, ↓asOs_os, ↓asAgg_agg, Bool.not_true, nat_cast_eq, hok, ht]
    exact hlp
theorem v_spec_MachinePack {c : Cd} (hf : FitsC c) {m : Mc} (hm : Fits m.pool) (hl : m.pool.length ≤ 4294967296) : V 32 [eCd c, eMc m] = some (packD (packM c m), []) := by
  have hok := v_spec_MachineOk hf hm (by omega)
  have ht := v_spec_Tidy hm hl
  rw [espec_MachinePack]
  unfold packM
  cases h : okMc c m with
  | false => rw [h] at hok; simp (disch := first | omega | (simp only [List.length_append, List.length_cons, List.length_nil, List.length_map, mk_size, nat_cast_eq]; omega)) only [↓ocall_ocont, ocont_some, ↓br_true, ↓unn_nil, ↓asB_bool, Bool.not_false, hok]; rfl
  | true =>
    rw [h] at hok
    have h2 := tidy_ok h
    have hlp := spec_mp_loop (okMc_roots h2).1 (okMc_nums h2) (by simp [numsOf]) (tidyM m).at' (tidyM m).s (tidyM m).e (tidyM m).d (tidyM m).state (tidyM m).ask (tidyM m).arg 7 0 [] rfl (by simp)
    rw [List.drop_zero, List.nil_append] at hlp
    simp (disch := first | omega | (simp only [List.length_append, List.length_cons, List.length_nil, List.length_map, mk_size, nat_cast_eq]; omega)) only [↓ocall_ocont, ocont_some, ↓br_false, ↓unn_nil, ↓unc_cons, ↓asI_int, ↓asB_bool, ↓asOs_os, ↓asAgg_agg, Bool.not_true, hok, ht]
    exact hlp
end Go.Eng
