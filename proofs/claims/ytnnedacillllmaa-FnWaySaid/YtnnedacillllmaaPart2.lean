/- the program and the reference on plain data, part 2 -/
import Derived.Test.YtnnedacillllmaaPart1
import Derived.Test.YtnnedacillllmaaEngC
/-! a link and its other end, over a net: what stays so -/
namespace Go.Eng
open Go.Proofs Go.Proofs.Try

/-- what was given, what came up: a good link of ours -/
structure Way (l : Lk) (gave took : List ByteArray) : Prop where
  ok : okK l = true
  sent : l.sent = gave.length
  queue : l.queue = gave.drop l.acked.toNat
  held : ∀ q ∈ l.held, gave[q.no.toNat]? = some q.text
  took : took = gave.take l.got.toNat
noncomputable def InAir (gave : List ByteArray) (air : List Pc) : Prop := ∀ q ∈ air, 0 ≤ q.no ∧ gave[q.no.toNat]? = some q.text
theorem Way.nums {l : Lk} {gave took : List ByteArray} (h : Way l gave took) : 0 ≤ l.acked ∧ l.acked ≤ l.got ∧ l.got ≤ l.sent ∧ l.sent = gave.length ∧ (l.queue.length : Int) = l.sent - l.acked ∧ l.queue.length ≤ 30 ∧ l.held.length ≤ 3 ∧ (took.length : Int) = l.got := by
  have hf := okK_facts h.ok
  have := (held_facts h.ok).2.2
  have h1 := h.sent
  have h2 : took.length = min l.got.toNat gave.length := by rw [h.took, List.length_take]
  omega
theorem way_zero : Way ⟨0, 0, [], 0, []⟩ [] [] := ⟨by decide, rfl, rfl, by simp, rfl⟩
theorem way_send {l : Lk} {gave took : List ByteArray} (h : Way l gave took) {s : ByteArray} (hs : (sendF s l).2 = true) : Way (sendF s l).1 (gave ++ [s]) took := by
  have hn := h.nums
  unfold sendF at hs ⊢
  rw [if_pos h.ok] at hs ⊢
  split at hs
  · rename_i hok
    rw [if_pos hok]
    have hf := okK_facts h.ok
    refine ⟨hok, ?_, ?_, fun q hq => ?_, ?_⟩
    · simp only [sendL, List.length_append, List.length_cons, List.length_nil]
      rw [w64 (by omega) (by omega)]; omega
    · simp only [sendL]
      rw [h.queue, List.drop_append_of_le_length (by omega)]
    · have := h.held q hq
      rw [List.getElem?_append_left (lt_of_get this)]; exact this
    · simp only [sendL]
      rw [List.take_append_of_le_length (by omega)]; exact h.took
  · cases hs
theorem way_show {l : Lk} {gave took : List ByteArray} (h : Way l gave took) : (showK l).length = min 4 l.queue.length ∧ ∀ (j : Nat) (q : Pc), (showK l)[j]? = some q → q.no = l.acked + j ∧ gave[q.no.toNat]? = some q.text := by
  have hn := h.nums
  have hf := okK_facts h.ok
  unfold showK
  rw [if_pos h.ok]
  have hlen : (showFrom l 0 (min 4 l.queue.length)).length = min 4 l.queue.length := by
    have h1 := showFrom_length l (min 4 l.queue.length) 0
    rcases Nat.lt_or_ge (showFrom l 0 (min 4 l.queue.length)).length (min 4 l.queue.length) with hlt | hge
    · obtain ⟨s, _, h3⟩ := showFrom_get l (min 4 l.queue.length) 0 (showFrom l 0 (min 4 l.queue.length)).length (by omega) hlt
      have := lt_of_get h3
      omega
    · omega
  refine ⟨hlen, fun j q hj => ?_⟩
  obtain ⟨s, h1, h2⟩ := showFrom_get l (min 4 l.queue.length) 0 j (by omega) (by have := lt_of_get hj; omega)
  rw [hj] at h2
  cases h2
  rw [Nat.zero_add] at h1
  have hw : IntKind.wrap .i64 (l.acked + ((0 + j : Nat) : Int)) = l.acked + j := by
    have := lt_of_get hj
    rw [w64 (by omega) (by omega)]; omega
  refine ⟨hw, ?_⟩
  show gave[(IntKind.wrap .i64 (l.acked + ((0 + j : Nat) : Int))).toNat]? = some s
  rw [hw]
  rw [h.queue, List.getElem?_drop] at h1
  rw [show (l.acked + (j : Int)).toNat = l.acked.toNat + j by omega]
  exact h1
theorem air_show {l : Lk} {gave took : List ByteArray} (h : Way l gave took) : InAir gave (showK l) := fun q hq => by
  obtain ⟨j, hj⟩ := List.getElem?_of_mem hq
  have h1 := (way_show h).2 j q hj
  have hn := h.nums
  exact ⟨by omega, h1.2⟩
theorem popF_told {gave : List ByteArray} : ∀ {l : List Pc} {g : Int}, 0 ≤ g → (∀ q ∈ l, gave[q.no.toNat]? = some q.text) → (popF g l).1 = (gave.drop g.toNat).take ((popF g l).2.1 - g).toNat ∧ ∀ q ∈ (popF g l).2.2, q ∈ l
  | [], g, hg, h => by simp [popF]
  | q :: r, g, hg, h => by
    simp only [popF]
    split
    · rename_i e
      have h0 := h q (by simp)
      obtain ⟨h1, h2⟩ := popF_told (gave := gave) (l := r) (g := g + 1) (by omega) (fun x hx => h x (by simp [hx]))
      have hp := popF_facts r (g + 1)
      rw [e] at h0
      refine ⟨?_, fun x hx => by simp [h2 x hx]⟩
      show q.text :: (popF (g + 1) r).1 = _
      rw [drop_at h0, h1, show (g + 1).toNat = g.toNat + 1 by omega, show ((popF (g + 1) r).2.1 - g).toNat = ((popF (g + 1) r).2.1 - (g + 1)).toNat + 1 by omega, List.take_succ_cons]
    · exact ⟨by simp, fun x hx => hx⟩
theorem way_take {l : Lk} {gave took : List ByteArray} (h : Way l gave took) {p : Pc} (hp : 0 ≤ p.no ∧ gave[p.no.toNat]? = some p.text) : Way (takeF l p).1 gave (took ++ (takeF l p).2) ∧ (takeF l p).1.acked = l.acked ∧ (takeF l p).1.sent = l.sent ∧ l.got ≤ (takeF l p).1.got ∧ (p.no = l.got → l.got + 1 ≤ (takeF l p).1.got) := by
  have hn := h.nums
  obtain ⟨g1, g2, g3⟩ := takeF_good h.ok p
  have hfacts : (takeF l p).1.acked = l.acked ∧ (takeF l p).1.sent = l.sent ∧ (takeF l p).1.queue = l.queue ∧ (∀ q ∈ (takeF l p).1.held, gave[q.no.toNat]? = some q.text) ∧ (takeF l p).2 = (gave.drop l.got.toNat).take ((takeF l p).1.got - l.got).toNat ∧ (p.no = l.got → l.got + 1 ≤ (takeF l p).1.got) := by
    have hm := mnI_le (l.got + 4) l.sent
    have hpl := lt_of_get hp.2
    unfold takeF
    rw [if_pos h.ok]
    split
    · rename_i hin
      simp only [wi, Bool.and_eq_true, decide_eq_true_eq] at hin
      split
      · rename_i hgt
        refine ⟨rfl, rfl, rfl, fun q hq => ?_, by simp, fun e => by omega⟩
        rcases (holdF_asc p (asc_of (held_facts h.ok).1)).2 q hq with rfl | hq'
        · exact hp.2
        · exact h.held q hq'
      · rename_i hle
        have hf := popF_facts l.held (l.got + 1)
        obtain ⟨p1, p2⟩ := popF_told (gave := gave) (l := l.held) (g := l.got + 1) (by omega) h.held
        have hpg : p.no = l.got := by omega
        refine ⟨rfl, rfl, rfl, fun q hq => h.held q (p2 q hq), ?_, fun e => by simp only [upL]; omega⟩
        have h0 := hp.2
        rw [hpg] at h0
        simp only [upL]
        rw [p1, drop_at h0, show (l.got + 1).toNat = l.got.toNat + 1 by omega, show ((popF (l.got + 1) l.held).2.1 - l.got).toNat = ((popF (l.got + 1) l.held).2.1 - (l.got + 1)).toNat + 1 by omega, List.take_succ_cons]
    · rename_i hout
      refine ⟨rfl, rfl, rfl, h.held, by simp, fun e => ?_⟩
      simp only [wi, Bool.and_eq_true, decide_eq_true_eq] at hout
      omega
  obtain ⟨f1, f2, f3, f4, f5, f6⟩ := hfacts
  have hgot : l.got ≤ (takeF l p).1.got := by omega
  refine ⟨⟨g1, by rw [f2]; exact h.sent, by rw [f3, f1]; exact h.queue, f4, ?_⟩, f1, f2, hgot, f6⟩
  rw [f5, h.took]
  have hle : (takeF l p).1.got.toNat = l.got.toNat + ((takeF l p).1.got - l.got).toNat := by omega
  rw [hle, List.take_add]
theorem way_ack {l : Lk} {gave took : List ByteArray} (h : Way l gave took) (n : Int) : Way (ackF n l).1 gave took ∧ (ackF n l).1.sent = l.sent ∧ (ackF n l).1.got = l.got ∧ (ackF n l).1.acked = (if wi n (l.acked + 1) l.got then n else l.acked) := by
  have hn := h.nums
  have hf := okK_facts h.ok
  unfold ackF
  rw [if_pos h.ok]
  split
  · rename_i hin
    have hin' := hin
    simp only [wi, Bool.and_eq_true, decide_eq_true_eq] at hin'
    refine ⟨⟨okK_of (l := ackL n l) (by simp only [ackL]; omega) (by simp only [ackL]; omega) (by simp only [ackL]; omega) (by simp only [ackL]; omega) (by simp only [ackL, List.length_drop]; omega) (by simp only [ackL, List.length_drop]; omega) (asc_of (held_facts h.ok).1) (fun q hq => by have := held_facts2 h.ok q hq; simp only [ackL]; exact this), h.sent, ?_, h.held, h.took⟩, rfl, rfl, rfl⟩
    simp only [ackL]
    rw [h.queue, List.drop_drop, show l.acked.toNat + (n - l.acked).toNat = n.toNat by omega]
  · exact ⟨h, rfl, rfl, rfl⟩
theorem way_done {l : Lk} {gave took : List ByteArray} (h : Way l gave took) (ha : l.acked = l.sent) : took = gave ∧ l.queue = [] ∧ l.got = gave.length := by
  have hn := h.nums
  refine ⟨?_, ?_, by omega⟩
  · rw [h.took]; exact List.take_of_length_le (by omega)
  · rw [h.queue]; exact List.drop_of_length_le (by omega)
end Go.Eng
/-! bytes, texts, digits: plain facts -/
namespace Go.Eng

noncomputable def mk (l : List UInt8) : ByteArray := ⟨l.toArray⟩
theorem mk_size (l : List UInt8) : (mk l).size = l.length := by simp [mk, ByteArray.size]
theorem mk_append (a b : List UInt8) : mk a ++ mk b = mk (a ++ b) := by
  apply ByteArray.ext
  simp [mk]
/-- a byte, as data -/
noncomputable abbrev eU (b : UInt8) : D := .int .u8 (b.toNat : Int)
theorem obytes_map {R : Type} (l : List UInt8) (K : ByteArray → Option R) : obytes (l.map eU) K = K (mk l) := by
  have hm : ∀ (f : D → Option UInt8), (∀ x : UInt8, f (eU x) = some x) → ∀ l : List UInt8, (l.map eU).mapM f = some l := by
    intro f hf l
    induction l with
    | nil => rfl
    | cons x l ih => rw [List.map_cons, List.mapM_cons, hf, ih]; rfl
  unfold obytes
  rw [hm _ (fun x => by simp [])]; rfl
theorem wrap_u8 {n : Int} (h0 : 0 ≤ n) (h1 : n < 256) : IntKind.wrap .u8 n = n := by
  simp [IntKind.wrap, IntKind.bits, IntKind.signed]; omega

/-! ## decimal digits -/
noncomputable def digU (n : Nat) : List UInt8 := if n < 10 then [UInt8.ofNat (48 + n)] else digU (n / 10) ++ [UInt8.ofNat (48 + n % 10)]
termination_by n
theorem digU_small {n : Nat} (h : n < 10) : digU n = [UInt8.ofNat (48 + n)] := by rw [digU, if_pos h]
theorem digU_big {n : Nat} (h : ¬ n < 10) : digU n = digU (n / 10) ++ [UInt8.ofNat (48 + n % 10)] := by rw [digU, if_neg h]
theorem digU_len : ∀ (k n : Nat), n < 10 ^ (k + 1) → (digU n).length ≤ k + 1
  | 0, n, h => by rw [digU_small (by simpa using h)]; simp
  | k + 1, n, h => by
    by_cases h10 : n < 10
    · rw [digU_small h10]; simp
    · rw [digU_big h10]
      have := digU_len k (n / 10) (by rw [Nat.pow_succ] at h; omega)
      simp; omega
end Go.Eng
/-! decimal digits, on both sides -/
namespace Go.Eng
open Go.Proofs Go.Proofs.Try

theorem tdiv10 (n : Nat) : Int.tdiv (n : Int) 10 = ((n / 10 : Nat) : Int) := by
  rw [Int.tdiv_eq_ediv_of_nonneg (by omega)]; omega
theorem tmod10 (n : Nat) : Int.tmod (n : Int) 10 = ((n % 10 : Nat) : Int) := by
  rw [Int.tmod_eq_emod_of_nonneg (by omega)]; omega
theorem lim_dig {a b : List UInt8} (ha : a.length ≤ 1000) (hb : b.length ≤ 1000) : decide (ni ((mk a).size + (mk b).size) ≤ LIM) = true :=
  decide_eq_true (by rw [LIM_eq, mk_size, mk_size]; simp only [ni]; omega)
theorem digU_len20 {n : Nat} (h : n < 1000000000000000000) : (digU n).length ≤ 20 := by
  have := digU_len 18 n (by omega)
  omega
theorem u8_digit {d : Nat} (h : d < 10) : IntKind.wrap .u8 (IntKind.wrap .i64 (48 + (d : Int))) = 48 + (d : Int) := by
  rw [w64 (by omega) (by omega), wrap_u8 (by omega) (by omega)]
end Go.Eng
/-! a draw's bytes, for the laws that look at them -/
namespace Go.Eng
open Go.Proofs Go.Proofs.Try
set_option maxHeartbeats 4000000

set_option maxRecDepth 100000 in
/-- a draw's code, with what its bytes are -/
theorem arg_codeB {x : D} (h : ShapeV prog 22 x) : ∃ b : List Int, x = .rs (1, 0) (b.map eB) ∧ b.length < 4611686018427387904 ∧ ∀ n ∈ b, 0 ≤ n ∧ n ≤ 255 := by
  obtain ⟨ys, hs, rfl⟩ := h
  obtain ⟨bs, rfl, h1, h2⟩ := hs.slice Try.underlying22 (show zOf prog 5 = some (1, 0) by kernel_rfl)
  obtain ⟨l, rfl, hl⟩ := listOf_all (enc := eB) (p := fun n : Int => 0 ≤ n ∧ n ≤ 255) (ys := bs) (fun x hx => by
    obtain ⟨ps, hs, rfl⟩ := h2 x hx
    obtain ⟨n, rfl, hw⟩ := hs.int Try.underlying5
    exact ⟨n, elemOf_int Try.underlying5, wf8 hw⟩)
  have hby : prog.bytesOf 5 = 1 := by kernel_rfl
  have hr : reachBytes = 140737488351232 := rfl
  rw [hby, List.length_map] at h1
  exact ⟨l, by rw [elemOf_slice Try.underlying22], by omega, hl⟩
theorem v_atB {b : List Int} (hb : b.length < 4611686018427387000) (h8 : ∀ n ∈ b, 0 ≤ n ∧ n ≤ 255) {i : Int} (h0 : 0 ≤ i) (h1 : i < 1000) : ∃ v : Int, V 8 [.rs (1, 0) (b.map eB), .int .i64 i] = some (.int .i64 v, []) ∧ 0 ≤ v ∧ v ≤ 255 := by
  rw [elaws_at, List.length_map]
  by_cases h : i < (b.length : Int)
  · obtain ⟨x, hx⟩ := get_of_lt (l := b) (i := i.toNat) (by omega)
    obtain ⟨x0, x1⟩ := h8 x (List.mem_of_getElem? hx)
    refine ⟨x, ?_, x0, x1⟩
    rw [br_of (decide_eq_true h), grd_of (by simp only [ni, Bool.and_eq_true, decide_eq_true_eq]; omega), oget_map hx]
    show (asI .u8 (D.int .u8 x) fun n1 => some (D.int .i64 (IntKind.wrap .i64 n1), ([] : List D))) = _
    rw [asI_int, w64 (by omega) (by omega)]
  · refine ⟨Int.tmod (IntKind.wrap .i64 (IntKind.wrap .i64 (i * 7) + ni b.length)) 256, ?_, ?_⟩
    · rw [br_not (decide_eq_false h), grd_of (by decide)]
    · rw [w64 (n := i * 7) (by omega) (by omega), w64 (n := i * 7 + ni b.length) (by simp only [ni]; omega) (by simp only [ni]; omega)]
      have : 0 ≤ i * 7 + ni b.length := by simp only [ni]; omega
      rw [Int.tmod_eq_emod_of_nonneg this]
      omega
end Go.Eng
/-! over a net: the law's two loops -/
namespace Go.Eng
open Go.Proofs Go.Proofs.Try

theorem wofNat {n : Nat} (h : n < 256) : (UInt8.ofNat n).toNat = n := by simp [UInt8.toNat_ofNat']; omega
theorem wob_digit {d : Nat} (h : d < 10) (K : ByteArray → Option Ret) : obytes [D.int .u8 (IntKind.wrap .u8 (IntKind.wrap .i64 (48 + (d : Int))))] K = K (mk [UInt8.ofNat (48 + d)]) := by
  have e : [D.int .u8 (IntKind.wrap .u8 (IntKind.wrap .i64 (48 + (d : Int))))] = [UInt8.ofNat (48 + d)].map eU := by
    rw [u8_digit h]
    simp only [List.map_cons, List.map_nil, eU, wofNat (show 48 + d < 256 by omega)]
    simp
  rw [e, obytes_map]
theorem wdig_nat : ∀ (n : Nat), n < 1000000000000000000 → V 9 [.int .i64 (n : Int)] = some (.str (mk (digU n)), []) := by
  intro n
  induction n using Nat.strongRecOn with
  | _ n ih =>
    intro hn
    rw [elaws_digits, br_not (decide_eq_false (by omega))]
    by_cases h : n < 10
    · rw [br_of (decide_eq_true (by omega)), wob_digit h, digU_small h]
    · rw [br_not (decide_eq_false (by omega)), grd_of (by decide), tdiv10, w64 (by omega) (by omega), oc_w_digits (ih (n / 10) (by omega) (by omega)), grd_of (by decide), tmod10, wob_digit (by omega), grd_of (lim_dig (by have := digU_len20 (n := n / 10) (by omega); omega) (by simp)), mk_append, digU_big h]

/-! ## the last rounds -/
noncomputable def W1 (i : Nat) : Prop := ∀ (l : Lk) (gave took : List ByteArray), Way l gave took → gave.length ≤ 40 → min (4 * (i : Int)) l.sent ≤ l.acked →
  Llaws_FnWay_31v1 (i : Int) l.sent l.acked l.got (gave.map .str) (took.map .str) (l.queue.map .str) (l.held.map eP) = some (.bool true, [])
noncomputable def W0 (i : Nat) : Prop := ∀ (l : Lk) (gave took : List ByteArray), Way l gave took → l.queue = [] → l.held = [] → gave.length ≤ 40 → min (4 * (i : Int)) l.sent ≤ l.acked →
  Llaws_FnWay_31 (i : Int) l.sent l.acked l.got (gave.map .str) (took.map .str) = some (.bool true, [])
theorem way_list1 {i : Nat} (hi : i < 20) (ih : W1 (i + 1)) {list : List Pc} {a0 : Int} (hlist : ∀ (j : Nat) (q : Pc), list[j]? = some q → q.no = a0 + j) : ∀ (k j : Nat), j + k = list.length → ∀ (l : Lk) (gave took : List ByteArray), Way l gave took → gave.length ≤ 40 → InAir gave list →
    l.acked = a0 → a0 + j ≤ l.got → min (4 * (i : Int)) l.sent ≤ a0 → min (a0 + 4) l.sent ≤ a0 + list.length → list.length ≤ 4 →
    Llaws_FnWay_35v1 (i : Int) (j : Int) l.sent l.acked l.got (gave.map .str) (took.map .str) (list.map eP) (l.queue.map .str) (l.held.map eP) = some (.bool true, [])
  | 0, j, hj, l, gave, took, h, hg, ha, h1, h2, h3, h4, h5 => by
    have hn := h.nums
    have hack := v_impl_ack (l := l) (by omega) (by omega) l.got
    unfold eK oK at hack
    obtain ⟨g1, g2, g3, g4⟩ := way_ack h l.got
    rw [Llaws_FnWay_35v1_eq, br_not (by rw [List.length_map]; exact ge_idx (by omega)), oc_i_LinkAck hack, w64s (by omega)]
    refine ih _ _ _ g1 hg ?_
    rw [g2, g4]
    by_cases hw : wi l.got (l.acked + 1) l.got = true
    · rw [if_pos hw]; omega
    · rw [if_neg hw]
      simp only [wi, Bool.and_eq_true, decide_eq_true_eq] at hw
      omega
  | k + 1, j, hj, l, gave, took, h, hg, ha, h1, h2, h3, h4, h5 => by
    have hn := h.nums
    obtain ⟨p, hp⟩ := get_of_lt (l := list) (i := j) (by omega)
    have hno := hlist j p hp
    have hap := ha p (List.mem_of_getElem? hp)
    have htake := v_impl_take (l := l) (by omega) (by omega) p
    unfold eK oK at htake
    obtain ⟨g1, g2, g3, g4, g5⟩ := way_take h hap
    have hn1 := g1.nums
    rw [Llaws_FnWay_35v1_eq, br_of (by rw [List.length_map]; exact lt_idx (by omega)), grd_of (by rw [List.length_map]; exact in_idx (by omega)), Int.toNat_natCast, oget_map hp, eP_mk p, asAgg_agg, unc_cons, asI_int, unc_cons, asS_str, unn_nil, oc_i_LinkTake htake]
    rw [← List.map_append, grd_of (decide_eq_true (by simp only [ni, LIM_eq, List.length_map]; omega)), nam_eq, w64s (by omega)]
    refine way_list1 hi ih hlist k (j + 1) (by omega) _ _ _ g1 hg ha (by omega) ?_ (by omega) (by omega) h5
    by_cases e : p.no = l.got
    · have := g5 e; omega
    · omega
theorem way_list0 {i : Nat} (hi : i < 20) (ih : W1 (i + 1)) (l : Lk) (gave took : List ByteArray) (h : Way l gave took) (hq : l.queue = []) (hh : l.held = []) (hg : gave.length ≤ 40) (_ : min (4 * (i : Int)) l.sent ≤ l.acked) :
    Llaws_FnWay_35 (i : Int) (0 : Int) l.sent l.acked l.got (gave.map .str) (took.map .str) [] = some (.bool true, []) := by
  have hn := h.nums
  have hack := v_impl_ack (l := l) (by omega) (by omega) l.got
  unfold eK oK at hack
  obtain ⟨g1, g2, g3, g4⟩ := way_ack h l.got
  rw [hq, hh, List.map_nil, List.map_nil] at hack
  rw [Llaws_FnWay_35_eq, br_not (by rfl), oc_i_LinkAck hack, w64s (by omega)]
  refine ih _ _ _ g1 hg ?_
  rw [g2, g4]
  by_cases hw : wi l.got (l.acked + 1) l.got = true
  · rw [if_pos hw]; rw [hq] at hn; simp only [List.length_nil] at hn; omega
  · rw [if_neg hw]; rw [hq] at hn; simp only [List.length_nil] at hn; omega
theorem way_rounds : ∀ (k i : Nat), i + k = 20 → W1 i
  | 0, i, hi => fun l gave took h hg ha => by
    have hn := h.nums
    obtain ⟨d1, d2, d3⟩ := way_done h (by omega)
    have hsm := v_same (l := gave) (by omega)
    rw [Llaws_FnWay_31v1_eq, br_not (decide_eq_false (by omega)), d1, oc_w_sameTexts hsm, br_true, br_of (by rw [d2]; rfl)]
    simp only [ni, List.length_map, d3, beq_self_eq_true]
  | k + 1, i, hi => fun l gave took h hg ha => by
    have hn := h.nums
    have hsh := v_impl_show (l := l) (by omega) (by omega)
    unfold eK at hsh
    obtain ⟨s1, s2⟩ := way_show h
    have ih := way_rounds k (i + 1) (by omega)
    rw [Llaws_FnWay_31v1_eq, br_of (decide_eq_true (by omega)), oc_i_LinkShow hsh]
    exact way_list1 (by omega) ih (fun j q hj => (s2 j q hj).1) (showK l).length 0 (by omega) l gave took h hg (air_show h) rfl (by omega) ha (by omega) (by omega)
theorem way_rounds0 : W0 0 := fun l gave took h hq hh hg ha => by
  have hn := h.nums
  have hsh := v_impl_show (l := l) (by omega) (by omega)
  unfold eK at hsh
  have s1 := (way_show h).1
  rw [hq] at s1
  have s3 : showK l = [] := List.length_eq_zero_iff.1 (by rw [s1]; rfl)
  rw [hq, hh, s3, List.map_nil, List.map_nil] at hsh
  rw [show ((0 : Nat) : Int) = 0 from rfl, Llaws_FnWay_31_eq, br_of (by rfl), oc_i_LinkShow hsh]
  exact way_list0 (by omega) (way_rounds 19 1 rfl) l gave took h hq hh hg ha
end Go.Eng
/-! over a net: the forty rounds -/
namespace Go.Eng
open Go.Proofs Go.Proofs.Try

theorem way_air_app {gave : List ByteArray} {s : ByteArray} {air : List Pc} (h : InAir gave air) : InAir (gave ++ [s]) air := fun q hq => by
  have := h q hq
  exact ⟨this.1, by rw [List.getElem?_append_left (lt_of_get this.2)]; exact this.2⟩
theorem way_air_two {gave : List ByteArray} {a b : List Pc} (h : InAir gave a) (h2 : InAir gave b) : InAir gave (a ++ b) := fun q hq => by
  rcases List.mem_append.1 hq with h' | h'
  · exact h q h'
  · exact h2 q h'
/-- what is so ahead of a round -/
structure Rnd (i : Nat) (l : Lk) (gave took : List ByteArray) (air : List Pc) : Prop where
  way : Way l gave took
  net : InAir gave air
  len : gave.length ≤ i
  alen : air.length ≤ 4 * i
  le : i ≤ 40
noncomputable def S0 (b : List Int) (i : Nat) : Prop := ∀ (l : Lk) (gave took : List ByteArray) (air : List Pc), Rnd i l gave took air → l.queue = [] → l.held = [] →
  Llaws_FnWay_10 (b.map eB) (i : Int) l.sent l.acked l.got (gave.map .str) (took.map .str) (air.map eP) = some (.bool true, [])
noncomputable def S1 (b : List Int) (i : Nat) : Prop := ∀ (l : Lk) (gave took : List ByteArray) (air : List Pc), Rnd i l gave took air →
  Llaws_FnWay_10v1 (b.map eB) (i : Int) l.sent l.acked l.got (gave.map .str) (took.map .str) (air.map eP) (l.queue.map .str) (l.held.map eP) = some (.bool true, [])
noncomputable def S2 (b : List Int) (i : Nat) : Prop := ∀ (l : Lk) (gave took : List ByteArray) (arr : List Pc) (o m : Nat), Rnd i l gave took ((arr.drop o).take m) → o + m ≤ arr.length → arr.length ≤ 200 →
  Llaws_FnWay_10v2 (b.map eB) o m (i : Int) l.sent l.acked l.got (gave.map .str) (took.map .str) (arr.map eP) (l.queue.map .str) (l.held.map eP) = some (.bool true, [])
theorem part_took {l : Lk} {gave took : List ByteArray} (h : Way l gave took) : part (gave.map D.str) (some (0, Int.toNat (ni (took.map D.str).length))) = took.map D.str := by
  have hn := h.nums
  have : took = gave.take took.length := by
    have h1 := h.took
    have h2 : took.length = l.got.toNat := by omega
    rw [h2]; exact h1
  simp only [part, ni, List.length_map, Int.toNat_natCast, List.drop_zero, ← List.map_take]
  rw [← this]
theorem cut_took {l : Lk} {gave took : List ByteArray} (h : Way l gave took) : cutOk (gave.map D.str).length none (some (ni (took.map D.str).length)) = true := by
  have hn := h.nums
  simp only [cutOk, ni, List.length_map, Bool.and_eq_true, decide_eq_true_eq]
  omega
theorem way_end1 {b : List Int} : S1 b 40 := fun l gave took air h => by
  have hn := h.way.nums
  have hl := h.len
  have hsm := v_same (l := took) (by omega)
  rw [Llaws_FnWay_10v1_eq, br_not (by rfl), br_not (by simp only [ni, List.length_map]; exact decide_eq_false (by omega)), grd_of (cut_took h.way), part_took h.way, oc_w_sameTexts hsm, br_not (by rfl)]
  exact way_rounds 20 0 rfl l gave took h.way (by omega) (by omega)
theorem way_end2 {b : List Int} : S2 b 40 := fun l gave took arr o m h ho ha => by
  have hn := h.way.nums
  have hl := h.len
  have hsm := v_same (l := took) (by omega)
  rw [Llaws_FnWay_10v2_eq, br_not (by rfl), br_not (by simp only [ni, List.length_map]; exact decide_eq_false (by omega)), grd_of (cut_took h.way), part_took h.way, oc_w_sameTexts hsm, br_not (by rfl)]
  exact way_rounds 20 0 rfl l gave took h.way (by omega) (by omega)
theorem way_end0 {b : List Int} : S0 b 40 := fun l gave took air h hq hh => by
  have hn := h.way.nums
  have hl := h.len
  have hsm := v_same (l := took) (by omega)
  rw [Llaws_FnWay_10_eq, br_not (by rfl), br_not (by simp only [ni, List.length_map]; exact decide_eq_false (by omega)), grd_of (cut_took h.way), part_took h.way, oc_w_sameTexts hsm, br_not (by rfl)]
  exact way_rounds0 l gave took h.way hq hh (by omega) (by omega)
theorem tmod_two {x : Int} (h : 0 ≤ x) : 0 ≤ Int.tmod x 2 ∧ Int.tmod x 2 ≤ 1 := by rw [Int.tmod_eq_emod_of_nonneg h]; omega
theorem way_step1 {b : List Int} (hb : b.length < 4611686018427387000) (h8 : ∀ n ∈ b, 0 ≤ n ∧ n ≤ 255) {i : Nat} (hi : i < 40) (ih1 : S1 b (i + 1)) (ih2 : S2 b (i + 1)) : S1 b i := fun l gave took air h => by
  have hn := h.way.nums
  have hl := h.len
  have hal := h.alen
  obtain ⟨x, hx, x0, x1⟩ := v_atB hb h8 (i := (i : Int)) (by omega) (by omega)
  have hdg := wdig_nat i (by omega)
  have same : Rnd (i + 1) l gave took air := ⟨h.way, h.net, by omega, by omega, by omega⟩
  rw [Llaws_FnWay_10v1_eq, br_of (decide_eq_true (by omega)), oc_w_at hx]
  by_cases c1 : x < 60
  · have hsend := v_impl_send (l := l) (by omega) (by omega) (mk (digU i))
    unfold eK oK at hsend
    rw [br_of (decide_eq_true c1), oc_w_digits hdg, oc_i_LinkSend hsend]
    cases hs : (sendF (mk (digU i)) l).2 with
    | false => rw [br_false, w64s (by omega)]; exact ih1 _ _ _ _ same
    | true =>
      have hw := way_send h.way hs
      rw [br_true, oc_w_digits hdg, grd_of (decide_eq_true (by simp only [ni, LIM_eq, List.length_append, List.length_map, List.length_cons, List.length_nil]; omega)), nam_eq, w64s (by omega)]
      have := ih1 _ _ _ _ ⟨hw, way_air_app h.net, by simp; omega, by omega, by omega⟩
      simpa only [List.map_append, List.map_cons, List.map_nil] using this
  rw [br_not (decide_eq_false c1)]
  by_cases c2 : x < 120
  · have hsh := v_impl_show (l := l) (by omega) (by omega)
    unfold eK at hsh
    have s1 := (way_show h.way).1
    rw [br_of (decide_eq_true c2), oc_i_LinkShow hsh, ← List.map_append, grd_of (decide_eq_true (by simp only [ni, LIM_eq, List.length_append, List.length_map]; omega)), nam_eq, w64s (by omega)]
    exact ih1 _ _ _ _ ⟨h.way, way_air_two h.net (air_show h.way), by omega, by rw [List.length_append]; omega, by omega⟩
  rw [br_not (decide_eq_false c2)]
  have hack := fun n => v_impl_ack (l := l) (by omega) (by omega) n
  have ack : ∀ (h0 : 0 < air.length), (grd (!decide ((2 : Int) = 0)) (ocall V 12 [(.agg [(.int .i64 l.sent), (.int .i64 l.acked), (.rs (1, 0) (l.queue.map .str)), (.int .i64 l.got), (.rs (2, 0) (l.held.map eP))]), (.int .i64 (IntKind.wrap IntKind.i64 (l.got - Int.tmod x (2))))] fun x220 l221 =>
 asTup x220 fun l222 => unc l222 fun x223 l224 => asAgg x223 fun l225 => unc l225 fun x226 l227 => asI .i64 x226 fun n228 => unc l227 fun x229 l230 => asI .i64 x229 fun n231 => unc l230 fun x232 l233 => asOs (1, 0) x232 fun l234 => unc l233 fun x235 l236 => asI .i64 x235 fun n237 => unc l236 fun x238 l239 => asOs (2, 0) x238 fun l240 => unn l239 (unc l224 fun x241 l242 => asB x241 fun b243 => unn l242 (unn l221 (grd (cutOk (List.length (air.map eP)) (some (1)) none) (Llaws_FnWay_10v2 (b.map eB) (Int.toNat (1)) (List.length (air.map eP) - Int.toNat (1)) (IntKind.wrap IntKind.i64 ((i : Int) + 1)) n228 n231 n237 (gave.map .str) (took.map .str) (air.map eP) l234 l240)))))) = some (.bool true, []) := by
    intro h0
    have ht := tmod_two x0
    have hk := hack (l.got - Int.tmod x 2)
    unfold eK oK at hk
    obtain ⟨g1, g2, g3, g4⟩ := way_ack h.way (l.got - Int.tmod x 2)
    have hcut : cutOk (air.map eP).length (some 1) none = true := by simp [cutOk]; omega
    rw [grd_of (by decide), w64 (n := l.got - Int.tmod x 2) (by omega) (by omega), oc_i_LinkAck hk, grd_of hcut, w64s (by omega), List.length_map]
    have e1 : (air.drop (Int.toNat 1)).take (air.length - Int.toNat 1) = air.drop 1 := List.take_of_length_le (by simp)
    refine ih2 _ _ _ _ _ _ ⟨g1, ?_, by omega, ?_, by omega⟩ (by show 1 + (air.length - 1) ≤ _; omega) (by omega)
    · rw [e1]; exact fun q hq => h.net q (List.mem_of_mem_drop hq)
    · rw [e1, List.length_drop]; omega
  by_cases c4 : 0 < air.length
  · have h0 : decide (ni (air.map eP).length > 0) = true := decide_eq_true (by simp only [ni, List.length_map]; omega)
    by_cases c3 : x < 230
    · have ht : 0 ≤ Int.tmod x (ni (air.map eP).length) ∧ Int.tmod x (ni (air.map eP).length) < air.length := by
        rw [Int.tmod_eq_emod_of_nonneg x0]
        simp only [ni, List.length_map]
        exact ⟨Int.emod_nonneg _ (by omega), Int.emod_lt_of_pos _ (by omega)⟩
      obtain ⟨t, ht2⟩ : ∃ t : Nat, Int.tmod x (ni (air.map eP).length) = t := ⟨_, (Int.toNat_of_nonneg ht.1).symm⟩
      rw [ht2] at ht
      obtain ⟨p, hp⟩ := get_of_lt (l := air) (i := t) (by omega)
      have hap := h.net p (List.mem_of_getElem? hp)
      have htake := v_impl_take (l := l) (by omega) (by omega) p
      unfold eK oK at htake
      obtain ⟨g1, g2, g3, g4, g5⟩ := way_take h.way hap
      have hn1 := g1.nums
      rw [br_of (decide_eq_true c3), br_of h0, grd_of (by simp only [ni, List.length_map, Bool.not_eq_true', decide_eq_false_iff_not]; omega), ht2, grd_of (by rw [List.length_map]; exact in_idx (by omega)), Int.toNat_natCast, oget_map hp, eP_mk p, asAgg_agg, unc_cons, asI_int, unc_cons, asS_str, unn_nil, oc_i_LinkTake htake]
      rw [← List.map_append, grd_of (decide_eq_true (by simp only [ni, LIM_eq, List.length_map]; omega)), nam_eq, w64s (by omega)]
      exact ih1 _ _ _ _ ⟨g1, h.net, by omega, by omega, by omega⟩
    · rw [br_not (decide_eq_false c3), br_of h0]
      exact ack c4
  · have h0 : decide (ni (air.map eP).length > 0) = false := decide_eq_false (by simp only [ni, List.length_map]; omega)
    by_cases c3 : x < 230
    · rw [br_of (decide_eq_true c3), br_not h0, br_not h0, w64s (by omega)]
      exact ih1 _ _ _ _ same
    · rw [br_not (decide_eq_false c3), br_not h0, w64s (by omega)]
      exact ih1 _ _ _ _ same
theorem way_step0 {b : List Int} (hb : b.length < 4611686018427387000) (h8 : ∀ n ∈ b, 0 ≤ n ∧ n ≤ 255) {i : Nat} (hi : i < 40) (ih0 : S0 b (i + 1)) (ih1 : S1 b (i + 1)) (ih2 : S2 b (i + 1)) : S0 b i := fun l gave took air h hq hh => by
  have hn := h.way.nums
  have hl := h.len
  have hal := h.alen
  obtain ⟨x, hx, x0, x1⟩ := v_atB hb h8 (i := (i : Int)) (by omega) (by omega)
  have hdg := wdig_nat i (by omega)
  have same : Rnd (i + 1) l gave took air := ⟨h.way, h.net, by omega, by omega, by omega⟩
  rw [Llaws_FnWay_10_eq, br_of (decide_eq_true (by omega)), oc_w_at hx]
  by_cases c1 : x < 60
  · have hsend := v_impl_send (l := l) (by omega) (by omega) (mk (digU i))
    unfold eK oK at hsend
    rw [hq, hh, List.map_nil, List.map_nil] at hsend
    rw [br_of (decide_eq_true c1), oc_w_digits hdg, oc_i_LinkSend hsend]
    cases hs : (sendF (mk (digU i)) l).2 with
    | false => rw [br_false, w64s (by omega)]; exact ih0 _ _ _ _ same hq hh
    | true =>
      have hw := way_send h.way hs
      rw [br_true, oc_w_digits hdg, grd_of (decide_eq_true (by simp only [ni, LIM_eq, List.length_append, List.length_map, List.length_cons, List.length_nil]; omega)), nam_eq, w64s (by omega)]
      have := ih1 _ _ _ _ ⟨hw, way_air_app h.net, by simp; omega, by omega, by omega⟩
      simpa only [List.map_append, List.map_cons, List.map_nil] using this
  rw [br_not (decide_eq_false c1)]
  by_cases c2 : x < 120
  · have hsh := v_impl_show (l := l) (by omega) (by omega)
    unfold eK at hsh
    rw [hq, hh, List.map_nil, List.map_nil] at hsh
    have s1 := (way_show h.way).1
    rw [br_of (decide_eq_true c2), oc_i_LinkShow hsh, ← List.map_append, grd_of (decide_eq_true (by simp only [ni, LIM_eq, List.length_append, List.length_map]; omega)), nam_eq, w64s (by omega)]
    exact ih0 _ _ _ _ ⟨h.way, way_air_two h.net (air_show h.way), by omega, by rw [List.length_append]; omega, by omega⟩ hq hh
  rw [br_not (decide_eq_false c2)]
  have hack := fun n => v_impl_ack (l := l) (by omega) (by omega) n
  have ack : ∀ (h0 : 0 < air.length), (grd (!decide ((2 : Int) = 0)) (ocall V 12 [(.agg [(.int .i64 l.sent), (.int .i64 l.acked), (.rs (1, 0) []), (.int .i64 l.got), (.rs (2, 0) [])]), (.int .i64 (IntKind.wrap IntKind.i64 (l.got - Int.tmod x (2))))] fun x220 l221 =>
 asTup x220 fun l222 => unc l222 fun x223 l224 => asAgg x223 fun l225 => unc l225 fun x226 l227 => asI .i64 x226 fun n228 => unc l227 fun x229 l230 => asI .i64 x229 fun n231 => unc l230 fun x232 l233 => asOs (1, 0) x232 fun l234 => unc l233 fun x235 l236 => asI .i64 x235 fun n237 => unc l236 fun x238 l239 => asOs (2, 0) x238 fun l240 => unn l239 (unc l224 fun x241 l242 => asB x241 fun b243 => unn l242 (unn l221 (grd (cutOk (List.length (air.map eP)) (some (1)) none) (Llaws_FnWay_10v2 (b.map eB) (Int.toNat (1)) (List.length (air.map eP) - Int.toNat (1)) (IntKind.wrap IntKind.i64 ((i : Int) + 1)) n228 n231 n237 (gave.map .str) (took.map .str) (air.map eP) l234 l240)))))) = some (.bool true, []) := by
    intro h0
    have ht := tmod_two x0
    have hk := hack (l.got - Int.tmod x 2)
    unfold eK oK at hk
    rw [hq, hh, List.map_nil, List.map_nil] at hk
    obtain ⟨g1, g2, g3, g4⟩ := way_ack h.way (l.got - Int.tmod x 2)
    have hcut : cutOk (air.map eP).length (some 1) none = true := by simp [cutOk]; omega
    rw [grd_of (by decide), w64 (n := l.got - Int.tmod x 2) (by omega) (by omega), oc_i_LinkAck hk, grd_of hcut, w64s (by omega), List.length_map]
    have e1 : (air.drop (Int.toNat 1)).take (air.length - Int.toNat 1) = air.drop 1 := List.take_of_length_le (by simp)
    refine ih2 _ _ _ _ _ _ ⟨g1, ?_, by omega, ?_, by omega⟩ (by show 1 + (air.length - 1) ≤ _; omega) (by omega)
    · rw [e1]; exact fun q hq => h.net q (List.mem_of_mem_drop hq)
    · rw [e1, List.length_drop]; omega
  by_cases c4 : 0 < air.length
  · have h0 : decide (ni (air.map eP).length > 0) = true := decide_eq_true (by simp only [ni, List.length_map]; omega)
    by_cases c3 : x < 230
    · have ht : 0 ≤ Int.tmod x (ni (air.map eP).length) ∧ Int.tmod x (ni (air.map eP).length) < air.length := by
        rw [Int.tmod_eq_emod_of_nonneg x0]
        simp only [ni, List.length_map]
        exact ⟨Int.emod_nonneg _ (by omega), Int.emod_lt_of_pos _ (by omega)⟩
      obtain ⟨t, ht2⟩ : ∃ t : Nat, Int.tmod x (ni (air.map eP).length) = t := ⟨_, (Int.toNat_of_nonneg ht.1).symm⟩
      rw [ht2] at ht
      obtain ⟨p, hp⟩ := get_of_lt (l := air) (i := t) (by omega)
      have hap := h.net p (List.mem_of_getElem? hp)
      have htake := v_impl_take (l := l) (by omega) (by omega) p
      unfold eK oK at htake
      rw [hq, hh, List.map_nil, List.map_nil] at htake
      obtain ⟨g1, g2, g3, g4, g5⟩ := way_take h.way hap
      have hn1 := g1.nums
      rw [br_of (decide_eq_true c3), br_of h0, grd_of (by simp only [ni, List.length_map, Bool.not_eq_true', decide_eq_false_iff_not]; omega), ht2, grd_of (by rw [List.length_map]; exact in_idx (by omega)), Int.toNat_natCast, oget_map hp, eP_mk p, asAgg_agg, unc_cons, asI_int, unc_cons, asS_str, unn_nil, oc_i_LinkTake htake]
      rw [← List.map_append, grd_of (decide_eq_true (by simp only [ni, LIM_eq, List.length_map]; omega)), nam_eq, w64s (by omega)]
      exact ih1 _ _ _ _ ⟨g1, h.net, by omega, by omega, by omega⟩
    · rw [br_not (decide_eq_false c3), br_of h0]
      exact ack c4
  · have h0 : decide (ni (air.map eP).length > 0) = false := decide_eq_false (by simp only [ni, List.length_map]; omega)
    by_cases c3 : x < 230
    · rw [br_of (decide_eq_true c3), br_not h0, br_not h0, w64s (by omega)]
      exact ih0 _ _ _ _ same hq hh
    · rw [br_not (decide_eq_false c3), br_not h0, w64s (by omega)]
      exact ih0 _ _ _ _ same hq hh
theorem way_step2 {b : List Int} (hb : b.length < 4611686018427387000) (h8 : ∀ n ∈ b, 0 ≤ n ∧ n ≤ 255) {i : Nat} (hi : i < 40) (ih1 : S1 b (i + 1)) (ih2 : S2 b (i + 1)) : S2 b i := fun l gave took arr o m h ho har => by
  obtain ⟨air, hair⟩ : ∃ air, air = (arr.drop o).take m := ⟨_, rfl⟩
  rw [← hair] at h
  have ham : air.length = m := by rw [hair, List.length_take, List.length_drop]; omega
  have hpart : part (arr.map eP) (some (o, m)) = air.map eP := by simp only [part, ← List.map_drop, ← List.map_take, ← hair]
  have hn := h.way.nums
  have hl := h.len
  have hal := h.alen
  obtain ⟨x, hx, x0, x1⟩ := v_atB hb h8 (i := (i : Int)) (by omega) (by omega)
  have hdg := wdig_nat i (by omega)
  have same : Rnd (i + 1) l gave took air := ⟨h.way, h.net, by omega, by omega, by omega⟩
  rw [Llaws_FnWay_10v2_eq, br_of (decide_eq_true (by omega)), oc_w_at hx]
  by_cases c1 : x < 60
  · have hsend := v_impl_send (l := l) (by omega) (by omega) (mk (digU i))
    unfold eK oK at hsend
    rw [br_of (decide_eq_true c1), oc_w_digits hdg, oc_i_LinkSend hsend]
    cases hs : (sendF (mk (digU i)) l).2 with
    | false => rw [br_false, w64s (by omega)]; exact ih2 _ _ _ _ _ _ (hair ▸ same) ho har
    | true =>
      have hw := way_send h.way hs
      rw [br_true, oc_w_digits hdg, grd_of (decide_eq_true (by simp only [ni, LIM_eq, List.length_append, List.length_map, List.length_cons, List.length_nil]; omega)), nam_eq, w64s (by omega)]
      have := ih2 (sendF (mk (digU i)) l).1 (gave ++ [mk (digU i)]) took arr o m ⟨hw, hair ▸ way_air_app h.net, by simp; omega, by rw [← hair]; omega, by omega⟩ ho har
      simpa only [List.map_append, List.map_cons, List.map_nil] using this
  rw [br_not (decide_eq_false c1)]
  by_cases c2 : x < 120
  · have hsh := v_impl_show (l := l) (by omega) (by omega)
    unfold eK at hsh
    have s1 := (way_show h.way).1
    rw [br_of (decide_eq_true c2), oc_i_LinkShow hsh, hpart, ← List.map_append, grd_of (decide_eq_true (by simp only [ni, LIM_eq, List.length_append, List.length_map]; omega)), nam_eq, w64s (by omega)]
    exact ih1 _ _ _ _ ⟨h.way, way_air_two h.net (air_show h.way), by omega, by rw [List.length_append]; omega, by omega⟩
  rw [br_not (decide_eq_false c2)]
  have hack := fun n => v_impl_ack (l := l) (by omega) (by omega) n
  have ack : ∀ (h0 : 0 < air.length), (grd (!decide ((2 : Int) = 0)) (ocall V 12 [(.agg [(.int .i64 l.sent), (.int .i64 l.acked), (.rs (1, 0) (l.queue.map .str)), (.int .i64 l.got), (.rs (2, 0) (l.held.map eP))]), (.int .i64 (IntKind.wrap IntKind.i64 (l.got - Int.tmod x (2))))] fun x220 l221 =>
 asTup x220 fun l222 => unc l222 fun x223 l224 => asAgg x223 fun l225 => unc l225 fun x226 l227 => asI .i64 x226 fun n228 => unc l227 fun x229 l230 => asI .i64 x229 fun n231 => unc l230 fun x232 l233 => asOs (1, 0) x232 fun l234 => unc l233 fun x235 l236 => asI .i64 x235 fun n237 => unc l236 fun x238 l239 => asOs (2, 0) x238 fun l240 => unn l239 (unc l224 fun x241 l242 => asB x241 fun b243 => unn l242 (unn l221 (grd (cutOkX m (List.length (arr.map eP) - o) (some (1)) none) (Llaws_FnWay_10v2 (b.map eB) (o + Int.toNat (1)) (m - Int.toNat (1)) (IntKind.wrap IntKind.i64 ((i : Int) + 1)) n228 n231 n237 (gave.map .str) (took.map .str) (arr.map eP) l234 l240)))))) = some (.bool true, []) := by
    intro h0
    have ht := tmod_two x0
    have hk := hack (l.got - Int.tmod x 2)
    unfold eK oK at hk
    obtain ⟨g1, g2, g3, g4⟩ := way_ack h.way (l.got - Int.tmod x 2)
    have hcut : cutOkX m ((arr.map eP).length - o) (some 1) none = true := by simp [cutOkX]; omega
    rw [grd_of (by decide), w64 (n := l.got - Int.tmod x 2) (by omega) (by omega), oc_i_LinkAck hk, grd_of hcut, w64s (by omega)]
    have e1 : (arr.drop (o + Int.toNat 1)).take (m - Int.toNat 1) = air.drop 1 := by rw [hair, List.drop_take, List.drop_drop]; rfl
    refine ih2 _ _ _ _ _ _ ⟨g1, ?_, by omega, ?_, by omega⟩ (by show o + 1 + (m - 1) ≤ _; omega) har
    · rw [e1]; exact fun q hq => h.net q (List.mem_of_mem_drop hq)
    · rw [e1, List.length_drop]; omega
  by_cases c4 : 0 < air.length
  · have h0 : decide (ni m > 0) = true := decide_eq_true (by simp only [ni]; omega)
    by_cases c3 : x < 230
    · have ht : 0 ≤ Int.tmod x (ni m) ∧ Int.tmod x (ni m) < air.length := by
        rw [Int.tmod_eq_emod_of_nonneg x0]
        simp only [ni, ham]
        exact ⟨Int.emod_nonneg _ (by omega), Int.emod_lt_of_pos _ (by omega)⟩
      obtain ⟨t, ht2⟩ : ∃ t : Nat, Int.tmod x (ni m) = t := ⟨_, (Int.toNat_of_nonneg ht.1).symm⟩
      rw [ht2] at ht
      obtain ⟨p, hp⟩ := get_of_lt (l := air) (i := t) (by omega)
      have hap := h.net p (List.mem_of_getElem? hp)
      have hp' : arr[o + t]? = some p := by
        have h3 := hp
        rw [hair, List.getElem?_take_of_lt (by omega), List.getElem?_drop] at h3
        exact h3
      have htake := v_impl_take (l := l) (by omega) (by omega) p
      unfold eK oK at htake
      obtain ⟨g1, g2, g3, g4, g5⟩ := way_take h.way hap
      have hn1 := g1.nums
      rw [br_of (decide_eq_true c3), br_of h0, grd_of (by simp only [ni, Bool.not_eq_true', decide_eq_false_iff_not]; omega), ht2, grd_of (by simp only [ni, List.length_map, Bool.and_eq_true, decide_eq_true_eq]; omega), Int.toNat_natCast, oget_map hp', eP_mk p, asAgg_agg, unc_cons, asI_int, unc_cons, asS_str, unn_nil, oc_i_LinkTake htake]
      rw [← List.map_append, grd_of (decide_eq_true (by simp only [ni, LIM_eq, List.length_map]; omega)), nam_eq, w64s (by omega)]
      exact ih2 _ _ _ _ _ _ ⟨g1, hair ▸ h.net, by omega, by rw [← hair]; omega, by omega⟩ ho har
    · rw [br_not (decide_eq_false c3), br_of h0]
      exact ack c4
  · have h0 : decide (ni m > 0) = false := decide_eq_false (by simp only [ni]; omega)
    by_cases c3 : x < 230
    · rw [br_of (decide_eq_true c3), br_not h0, br_not h0, w64s (by omega)]
      exact ih2 _ _ _ _ _ _ (hair ▸ same) ho har
    · rw [br_not (decide_eq_false c3), br_not h0, w64s (by omega)]
      exact ih2 _ _ _ _ _ _ (hair ▸ same) ho har
theorem way_all {b : List Int} (hb : b.length < 4611686018427387000) (h8 : ∀ n ∈ b, 0 ≤ n ∧ n ≤ 255) : ∀ (k i : Nat), i + k = 40 → S0 b i ∧ S1 b i ∧ S2 b i
  | 0, i, hi => by
    obtain rfl : i = 40 := by omega
    exact ⟨way_end0, way_end1, way_end2⟩
  | k + 1, i, hi => by
    obtain ⟨h0, h1, h2⟩ := way_all hb h8 k (i + 1) (by omega)
    exact ⟨way_step0 hb h8 (by omega) h0 h1 h2, way_step1 hb h8 (by omega) h1 h2, way_step2 hb h8 (by omega) h1 h2⟩
theorem law_FnWay {b : List Int} (hb : b.length < 4611686018427387904) (h8 : ∀ n ∈ b, 0 ≤ n ∧ n ≤ 255) : V 3 [.rs (1, 0) (b.map eB)] = some (.bool true, []) := by
  rw [elaws_FnWay, oc_w_big (v_big b)]
  by_cases hbig : (b.length : Int) > 1048576
  · rw [br_of (decide_eq_true hbig)]
  rw [br_not (decide_eq_false hbig)]
  have hs := v_impl_send (l := ⟨0, 0, [], 0, []⟩) (by decide) (by decide) ⟨#[120]⟩
  have h2 : (sendF ⟨#[120]⟩ ⟨0, 0, [], 0, []⟩).2 = true := by decide
  rw [h2] at hs
  unfold eK oK at hs
  rw [List.map_nil, List.map_nil] at hs
  rw [oc_i_LinkSend hs, br_not (by rfl)]
  exact (way_all (by omega) h8 40 0 rfl).1 ⟨0, 0, [], 0, []⟩ [] [] [] ⟨way_zero, fun q hq => by simp at hq, Nat.le_refl _, Nat.le_refl _, by omega⟩ rfl rfl
theorem core_FnWay (xs : List D) (h : All2 (fun t x => ShapeV Try.prog t x) Try.f3.params.toList xs) : V 3 xs = some (.bool true, []) := by
  rw [Try.params3] at h
  cases h with | cons h1 h =>
  cases h
  obtain ⟨b, rfl, hb, h8⟩ := arg_codeB h1
  exact law_FnWay hb h8
end Go.Eng
