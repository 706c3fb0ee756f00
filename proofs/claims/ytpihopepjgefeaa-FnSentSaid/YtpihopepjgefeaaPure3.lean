/- what the functions on links come to, third part -/
import Derived.Test.YtpihopepjgefeaaPure2
namespace Go.Eng
open Go.Proofs Go.Proofs.Try

def showFrom (l : Lk) : Nat → Nat → List Pc
  | _, 0 => []
  | i, k + 1 => (match l.queue[i]? with | some s => [⟨IntKind.wrap .i64 (l.acked + (i : Int)), s⟩] | none => []) ++ showFrom l (i + 1) k
theorem showFrom_length (l : Lk) : ∀ k i, (showFrom l i k).length ≤ k
  | 0, _ => by simp [showFrom]
  | k + 1, i => by
    have := showFrom_length l k (i + 1)
    simp only [showFrom]; split <;> simp <;> omega
def showK (l : Lk) : List Pc := if okK l then showFrom l 0 (min 4 l.queue.length) else []
theorem showK_length (l : Lk) : (showK l).length ≤ 4 := by
  unfold showK; split
  · have := showFrom_length l (min 4 l.queue.length) 0; omega
  · simp

theorem impl_show_loop {l : Lk} {m : Nat} (hm : m = min 4 l.queue.length) : ∀ (k i : Nat), i + k = m → ∀ acc : List Pc, acc.length ≤ i → Limpl_LinkShow_5 ((l.queue.take m).map .str) (m : Int) (i : Int) l.sent l.acked (l.queue.map .str) l.got (l.held.map eP) (acc.map eP) = some (.os (2, 0) ((acc ++ showFrom l i k).map eP), [])
  | 0, i, hi, acc, ha => by
    rw [Limpl_LinkShow_5_eq, br_not (decide_eq_false (by omega))]; simp [showFrom]
  | k + 1, i, hi, acc, ha => by
    obtain ⟨x, hx⟩ := get_of_lt (l := l.queue) (i := i) (by omega)
    have hlen : (l.queue.take m).length = m := by rw [List.length_take]; omega
    have hx' : (l.queue.take m)[i]? = some x := by rw [List.getElem?_take_of_lt (by omega)]; exact hx
    rw [Limpl_LinkShow_5_eq, br_of (decide_eq_true (by omega)), grd_of (by rw [List.length_map, hlen]; exact in_idx (by omega)), Int.toNat_natCast, oget_map hx', asS_str, grd_of (decide_eq_true (by simp only [ni, LIM, List.length_append, List.length_map, List.length_cons, List.length_nil]; omega)), nam_eq, w64s (by omega)]
    have ih := impl_show_loop hm k (i + 1) (by omega) (acc ++ [⟨IntKind.wrap .i64 (l.acked + (i : Int)), x⟩]) (by simp; omega)
    simp only [showFrom, hx]
    simp only [List.map_append, List.map_cons, List.map_nil, List.append_assoc, List.cons_append, List.nil_append, eP] at ih ⊢
    exact ih
theorem v_impl_show {l : Lk} (hq : l.queue.length < 4611686018427387904) (hl : l.held.length < 4611686018427387904) : V 20 [eK l] = some (.os (2, 0) ((showK l).map eP), []) := by
  have hs := v_impl_okK hq hl
  unfold eK at hs ⊢
  rw [eimpl_LinkShow, ocall_some hs, asB_bool, unn_nil]
  unfold showK
  cases okK l with
  | false => rfl
  | true =>
    have hm : mnI 4 (ni (l.queue.map D.str).length) = ((min 4 l.queue.length : Nat) : Int) := by
      simp only [ni, List.length_map, mnI]; split <;> omega
    rw [Bool.not_true, br_false, hm, grd_of (by simp [cutOk]; omega)]
    have := impl_show_loop (l := l) rfl (min 4 l.queue.length) 0 (by omega) [] (by simp)
    simp only [cutH, Int.toNat_natCast, ← List.map_take]
    have hlen : (l.queue.take (min 4 l.queue.length)).length = min 4 l.queue.length := by rw [List.length_take]; omega
    simp only [ni, List.length_map, hlen]
    simpa using this

theorem spec_show_loop {l : Lk} (hq : l.queue.length < 4611686018427387904) (hl : l.held.length < 4611686018427387904) (hok : okK l = true) : ∀ (k i : Nat), i + k = min 4 l.queue.length → ∀ acc : List Pc, acc.length ≤ i → Lspec_LinkShow_3 (i : Int) l.sent l.acked (l.queue.map .str) l.got (l.held.map eP) (acc.map eP) = some (.os (2, 0) ((acc ++ showFrom l i k).map eP), [])
  | 0, i, hi, acc, ha => by
    rw [Lspec_LinkShow_3_eq]
    simp only [showFrom, List.append_nil]
    by_cases h : i < l.queue.length
    · rw [br_of (by rw [List.length_map]; exact lt_idx h), br_not (decide_eq_false (by omega))]
    · rw [br_not (by rw [List.length_map]; exact ge_idx (by omega))]
  | k + 1, i, hi, acc, ha => by
    obtain ⟨x, hx⟩ := get_of_lt (l := l.queue) (i := i) (by omega)
    have hs := v_spec_okK hq hl
    rw [hok] at hs
    unfold eK at hs
    rw [Lspec_LinkShow_3_eq, br_of (by rw [List.length_map]; exact lt_idx (by omega)), br_of (decide_eq_true (by omega)), ocall_some hs, asB_bool, unn_nil, br_true, grd_of (by rw [List.length_map]; exact in_idx (by omega)), Int.toNat_natCast, oget_map hx, asS_str, grd_of (decide_eq_true (by simp only [ni, LIM, List.length_append, List.length_map, List.length_cons, List.length_nil]; omega)), nam_eq, w64s (by omega)]
    have ih := spec_show_loop hq hl hok k (i + 1) (by omega) (acc ++ [⟨IntKind.wrap .i64 (l.acked + (i : Int)), x⟩]) (by simp; omega)
    simp only [showFrom, hx]
    simp only [List.map_append, List.map_cons, List.map_nil, List.append_assoc, List.cons_append, List.nil_append, eP] at ih ⊢
    exact ih
theorem v_spec_show {l : Lk} (hq : l.queue.length < 4611686018427387904) (hl : l.held.length < 4611686018427387904) : V 21 [eK l] = some (.os (2, 0) ((showK l).map eP), []) := by
  have e : V 21 [eK l] = _ := espec_LinkShow l.sent l.acked (l.queue.map .str) l.got (l.held.map eP)
  rw [e]
  unfold showK
  cases hok : okK l with
  | true =>
    have := spec_show_loop hq hl hok (min 4 l.queue.length) 0 (by omega) [] (by simp)
    simpa using this
  | false =>
    have hs := v_spec_okK hq hl
    rw [hok] at hs
    unfold eK at hs
    rw [Lspec_LinkShow_3_eq]
    by_cases h : 0 < l.queue.length
    · rw [br_of (by simpa [ni] using h), br_of (by decide), ocall_some hs]; rfl
    · rw [br_not (by simpa [ni] using h)]; rfl

theorem v_markK {l : Lk} (h1 : l.queue.length < 1048577) (h2 : l.held.length < 1048577) : V 30 [oK l, .int .i64 1] = some (.int .i64 ((1 + l.queue.length + 2 * l.held.length : Nat) : Int), [oK ⟨l.sent, l.acked, markedS 1 l.queue.length, l.got, markedP (1 + l.queue.length) l.held.length⟩]) := by
  unfold oK
  have m1 := v_markS (l := l.queue) (by omega) (c := 1) (by omega)
  have m2 := v_markP (l := l.held) (by omega) (c := 1 + l.queue.length) (by omega)
  rw [elaws_markLink, show (1 : Int) = ((1 : Nat) : Int) from rfl, ocall_some m1, asI_int, unc_cons, asOs_os, unn_nil, ocall_some m2, asI_int, unc_cons, asOs_os, unn_nil]
theorem v_heldK {l : Lk} (n m : Nat) (h1 : n < 1048577) (h2 : m < 1048577) : V 36 [eK ⟨l.sent, l.acked, markedS 1 n, l.got, markedP (1 + n) m⟩, .int .i64 1] = some (.int .i64 ((1 + n + 2 * m : Nat) : Int), []) := by
  unfold eK
  have m1 := v_heldS (n := n) (by omega) (c := 1) (by omega)
  have m2 := v_heldP (n := m) (by omega) (c := 1 + n) (by omega)
  rw [elaws_heldLink, show (1 : Int) = ((1 : Nat) : Int) from rfl, ocall_some m1, asI_int, unn_nil, br_not (decide_eq_false (by omega)), ocall_some m2, asI_int, unn_nil, br_not (decide_eq_false (by omega))]

theorem pure_LinkShow {l : Lk} (hf : l.Fits) : V 7 [eK l] = some (.bool true, []) := by
  obtain ⟨m, h1, h2, h3⟩ := v_sz hf (n := 1048576) (by omega) (by omega)
  have e : V 7 [eK l] = _ := elaws_FnExactLinkShow l.sent l.acked (l.queue.map .str) l.got (l.held.map eP)
  rw [e]
  have hek : D.agg [.int .i64 l.sent, .int .i64 l.acked, .rs (1, 0) (l.queue.map .str), .int .i64 l.got, .rs (2, 0) (l.held.map eP)] = eK l := rfl
  have hok : D.agg [.int .i64 l.sent, .int .i64 l.acked, .os (1, 0) (l.queue.map .str), .int .i64 l.got, .os (2, 0) (l.held.map eP)] = oK l := rfl
  rw [hek, ocall_some h1, asI_int, unn_nil]
  by_cases h : m < 0
  · rw [br_of (decide_eq_true h)]
  rw [br_not (decide_eq_false h)]
  obtain ⟨h5, h6⟩ := h3 (by omega)
  have hk := v_toK (l := l) (by omega) (by omega)
  have hs := v_spec_show (l := l) (by omega) (by omega)
  have hi := v_impl_show (l := l) (by omega) (by omega)
  have he := v_eqK (l := l) (by omega) (by omega)
  have hsl := showK_length l
  have hep := v_eqP (l := showK l) (by omega)
  have hm := v_markK (l := l) (by omega) (by omega)
  have hmp := v_markP (l := showK l) (by omega) (c := 1) (by omega)
  have hhp := v_heldP (n := (showK l).length) (by omega) (c := 1) (by omega)
  rw [show ((1 : Nat) : Int) = 1 from rfl] at hmp hhp
  unfold oK at hk hm
  rw [ocall_some hk, asAgg_agg, unc_cons, asI_int, unc_cons, asI_int, unc_cons, asOs_os, unc_cons, asI_int, unc_cons, asOs_os, unn_nil, unn_nil]
  rw [hek, ocall_some hs, asOs_os, unn_nil]
  rw [ocall_some hk, asAgg_agg, unc_cons, asI_int, unc_cons, asI_int, unc_cons, asOs_os, unc_cons, asI_int, unc_cons, asOs_os, unn_nil, unn_nil]
  rw [hek, ocall_some hi, asOs_os, unn_nil, ocall_some hep, asB_bool, unn_nil, br_not (by rfl)]
  rw [ocall_some hk, asAgg_agg, unc_cons, asI_int, unc_cons, asI_int, unc_cons, asOs_os, unc_cons, asI_int, unc_cons, asOs_os, unn_nil, unn_nil]
  rw [hek, ocall_some he, asB_bool, unn_nil, br_not (by rfl)]
  rw [ocall_some hm, asI_int, unc_cons, asAgg_agg, unc_cons, asI_int, unc_cons, asI_int, unc_cons, asOs_os, unc_cons, asI_int, unc_cons, asOs_os, unn_nil, unn_nil, br_not (decide_eq_false (by omega))]
  rw [ocall_some hep, asB_bool, unn_nil, br_not (by rfl)]
  rw [ocall_some hmp, asI_int, unc_cons, asOs_os, unn_nil, ocall_some hhp, asI_int, unn_nil, br_not (decide_eq_false (by omega)), br_not (by simp)]
  rw [ocall_some hk, asAgg_agg, unc_cons, asI_int, unc_cons, asI_int, unc_cons, asOs_os, unc_cons, asI_int, unc_cons, asOs_os, unn_nil, unn_nil]
  rw [hek, ocall_some hi, asOs_os, unn_nil, ocall_some hep, asB_bool, unn_nil, br_not (by rfl)]
  rw [ocall_some hhp, asI_int, unn_nil, br_not (decide_eq_false (by omega)), br_not (by simp)]
theorem core_FnExactLinkShow (xs : List D) (h : All2 (fun t x => ShapeV Try.prog t x) Try.f7.params.toList xs) : V 7 xs = some (.bool true, []) := by
  rw [Try.params7] at h
  cases h with | cons h1 h =>
  cases h
  obtain ⟨l, rfl, hl⟩ := arg_link h1
  exact pure_LinkShow hl
end Go.Eng
