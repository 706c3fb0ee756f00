/- what is drawn -/
import Derived.Test.YtnibbejbclmanaaZFn2
import Derived.Test.YtnibbejbclmanaaZPure4
namespace Go.Eng
open Go.Proofs Go.Proofs.Try

def eB (x : Int) : D := .int .u8 x
def CurOk (b : List Int) (d : D) : Prop := ∃ i h : Int, d = .op [.rs (1, 0) (b.map eB), .int .i64 i, .int .i64 h] ∧ 0 ≤ i ∧ i ≤ b.length

theorem cmk {b : List Int} {i g : Int} (g' : Int) (a : 0 ≤ i ∧ i ≤ b.length) (e : g = g') : CurOk b (.op [.rs (1, 0) (b.map eB), .int .i64 i, .int .i64 g]) := ⟨_, _, rfl, a⟩

theorem and255 (x : Int) : 0 ≤ IntKind.wrap IntKind.i64 (ni (BitVec.toNat (BitVec.ofInt (IntKind.bits IntKind.i64) x &&& BitVec.ofInt (IntKind.bits IntKind.i64) 255))) ∧ IntKind.wrap IntKind.i64 (ni (BitVec.toNat (BitVec.ofInt (IntKind.bits IntKind.i64) x &&& BitVec.ofInt (IntKind.bits IntKind.i64) 255))) ≤ 255 := by
  have h : BitVec.toNat (BitVec.ofInt (IntKind.bits IntKind.i64) x &&& BitVec.ofInt (IntKind.bits IntKind.i64) 255) ≤ 255 := by
    rw [BitVec.toNat_and]
    exact Nat.le_trans Nat.and_le_right (by decide)
  rw [w64 (by simp only [ni]; omega) (by simp only [ni]; omega)]
  simp only [ni]; omega

section
variable {b : List Int} {d : D}
theorem cur_byte (hb : b.length < 4611686018427387904) (h : CurOk b d) : ∃ v d', V 53 [d] = some (.int .i64 v, [d']) ∧ CurOk b d' ∧ 0 ≤ v ∧ v ≤ 255 := by
  obtain ⟨i, g, rfl, h1, h2⟩ := h
  rw [espec_l1Byte]
  by_cases hi : i < b.length
  · obtain ⟨k, rfl⟩ := Int.eq_ofNat_of_zero_le h1
    obtain ⟨x, hx⟩ := get_of_lt (l := b) (i := k) (by omega)
    rw [br_of (by rw [List.length_map]; exact lt_idx (by omega)), grd_of (by rw [List.length_map]; exact in_idx (by omega)), Int.toNat_natCast, oget_map hx]
    unfold eB
    rw [asI_int]
    refine ⟨_, _, rfl, ⟨_, _, rfl, ?_, ?_⟩, (and255 _).1, (and255 _).2⟩
    · rw [w64 (by omega) (by omega)]; omega
    · rw [w64 (by omega) (by omega)]; omega
  · rw [br_not (decide_eq_false (by simp only [ni, List.length_map]; omega))]
    exact ⟨_, _, rfl, ⟨_, _, rfl, h1, h2⟩, (and255 _).1, (and255 _).2⟩

theorem cur_below (hb : b.length < 4611686018427387904) (h : CurOk b d) (n : Int) : ∃ v d', V 48 [d, .int .i64 n] = some (.int .i64 v, [d']) ∧ CurOk b d' ∧ 0 ≤ v ∧ (0 < n → v < n) := by
  have hh := h
  obtain ⟨i, g, rfl, h1, h2⟩ := h
  rw [espec_l1Below]
  by_cases hn : n ≤ 0
  · rw [br_of (by simpa using hn)]
    exact ⟨_, _, rfl, hh, by omega, by omega⟩
  rw [br_not (by simpa using hn)]
  by_cases h256 : n ≤ 256
  · rw [br_of (by simpa using h256)]
    obtain ⟨v, d1, hv, ⟨i1, g1, rfl, h3, h4⟩, hv1, hv2⟩ := cur_byte hb hh
    rw [ocall_some hv]
    simp only [asOp_op, unc_cons, unn_nil, asRs_rs, asI_int]
    rw [grd_of (by simp; omega)]
    exact ⟨_, _, rfl, ⟨_, _, rfl, h3, h4⟩, Int.tmod_nonneg _ hv1, fun _ => Int.tmod_lt_of_pos _ (by omega)⟩
  · rw [br_not (by simpa using h256)]
    obtain ⟨v1, d1, hv1, ⟨i1, g1, rfl, a1⟩, b1⟩ := cur_byte hb hh
    obtain ⟨v2, d2, hv2, ⟨i2, g2, rfl, a2⟩, b2⟩ := cur_byte hb (cmk g1 a1 rfl)
    obtain ⟨v3, d3, hv3, ⟨i3, g3, rfl, a3⟩, b3⟩ := cur_byte hb (cmk g2 a2 rfl)
    obtain ⟨v4, d4, hv4, ⟨i4, g4, rfl, a4⟩, b4⟩ := cur_byte hb (cmk g3 a3 rfl)
    simp only [ocall_some hv1, ocall_some hv2, ocall_some hv3, ocall_some hv4, asOp_op, unc_cons, unn_nil, asRs_rs, asI_int]
    rw [grd_of (by simp; omega)]
    refine ⟨_, _, rfl, ⟨_, _, rfl, a4⟩, Int.tmod_nonneg _ ?_, fun _ => Int.tmod_lt_of_pos _ (by omega)⟩
    rw [w64 (n := v1 * 16777216) (by omega) (by omega), w64 (n := v2 * 65536) (by omega) (by omega), w64 (n := v3 * 256) (by omega) (by omega)]
    rw [w64 (n := v1 * 16777216 + v2 * 65536) (by omega) (by omega), w64 (n := v1 * 16777216 + v2 * 65536 + v3 * 256) (by omega) (by omega), w64 (by omega) (by omega)]
    omega

theorem cur_once (hb : b.length < 4611686018427387904) (h : CurOk b d) (n : Int) : ∃ v d', V 50 [d, .int .i64 n] = some (.bool v, [d']) ∧ CurOk b d' := by
  obtain ⟨v, d1, hv, ⟨i1, g1, rfl, a1⟩, b1⟩ := cur_below hb h n
  obtain ⟨i, g, rfl, h1, h2⟩ := h
  rw [espec_l1Once, ocall_some hv]
  simp only [asOp_op, unc_cons, unn_nil, asRs_rs, asI_int]
  exact ⟨_, _, rfl, _, _, rfl, a1⟩

theorem cur_pickInt (hb : b.length < 4611686018427387904) (h : CurOk b d) {l : List Int} (hl : 0 < l.length) : ∃ v d', V 54 [d, .rs (1, 0) (l.map (D.int .i64))] = some (.int .i64 v, [d']) ∧ CurOk b d' ∧ v ∈ l := by
  obtain ⟨v, d1, hv, ⟨i1, g1, rfl, a1⟩, b1, b2⟩ := cur_below hb h (ni (l.map (D.int .i64)).length)
  obtain ⟨i, g, rfl, h1, h2⟩ := h
  rw [espec_l1PickInt, ocall_some hv]
  simp only [asOp_op, unc_cons, unn_nil, asRs_rs, asI_int]
  simp only [ni, List.length_map] at b2
  obtain ⟨k, rfl⟩ := Int.eq_ofNat_of_zero_le b1
  have hk : k < l.length := by have := b2 (by omega); omega
  obtain ⟨x, hx⟩ := get_of_lt hk
  rw [grd_of (by rw [List.length_map]; exact in_idx hk), Int.toNat_natCast, oget_map hx, asI_int]
  exact ⟨_, _, rfl, ⟨_, _, rfl, a1⟩, List.mem_of_getElem? hx⟩

theorem cur_now (hb : b.length < 4611686018427387904) (h : CurOk b d) : ∃ v d', V 49 [d] = some (.int .i64 v, [d']) ∧ CurOk b d' := by
  obtain ⟨v, d1, hv, h2⟩ := cur_once hb h 12
  obtain ⟨i, g, rfl, _⟩ := h
  rw [espec_l11DrawNow, ocall_some hv]
  have h3 := h2
  obtain ⟨i1, g1, rfl, _⟩ := h2
  simp only [asOp_op, unc_cons, unn_nil, asRs_rs, asI_int, asB_bool]
  cases v with
  | true =>
    obtain ⟨w, d2, hw, ⟨i2, g2, rfl, h4⟩, _⟩ := cur_pickInt hb h3 (l := [-1, 1000000000, 999999980, 1000000001]) (by simp)
    simp only [List.map_cons, List.map_nil] at hw
    rw [br_true, ocall_some hw]
    simp only [asOp_op, unc_cons, unn_nil, asRs_rs, asI_int]
    exact ⟨_, _, rfl, _, _, rfl, h4⟩
  | false =>
    obtain ⟨w, d2, hw, ⟨i2, g2, rfl, h4⟩, _⟩ := cur_below hb h3 70
    rw [br_false, ocall_some hw]
    simp only [asOp_op, unc_cons, unn_nil, asRs_rs, asI_int]
    exact ⟨_, _, rfl, _, _, rfl, h4⟩

theorem new_loop (hb : b.length < 4611686018427387904) : ∀ (k i : Nat) (h : Int), i + k = b.length → ∃ h', Lspec_l1New_3 (b.map eB) h (i : Int) = some (.op [.rs (1, 0) (b.map eB), .int .i64 0, .int .i64 h'], [])
  | 0, i, h, hi => by
    rw [Lspec_l1New_3_eq, br_not (by rw [List.length_map]; exact ge_idx (by omega))]
    exact ⟨_, rfl⟩
  | k + 1, i, h, hi => by
    obtain ⟨x, hx⟩ := get_of_lt (l := b) (i := i) (by omega)
    rw [Lspec_l1New_3_eq, br_of (by rw [List.length_map]; exact lt_idx (by omega)), grd_of (by rw [List.length_map]; exact in_idx (by omega)), Int.toNat_natCast, oget_map hx]
    cases h4 : decide ((i : Int) < 4000) with
    | false => exact ⟨_, rfl⟩
    | true =>
      unfold eB
      rw [br_true, asI_int, w64s (by omega)]
      exact new_loop hb k (i + 1) _ (by omega)
theorem cur_new (hb : b.length < 4611686018427387904) : ∃ d, V 46 [.rs (1, 0) (b.map eB)] = some (d, []) ∧ CurOk b d := by
  rw [espec_l1New]
  obtain ⟨h', he⟩ := new_loop hb b.length 0 (IntKind.wrap IntKind.i64 (17000 + ni (List.length (b.map eB)))) (by omega)
  exact ⟨_, he, _, _, rfl, by omega, by omega⟩

theorem leases_loop (hb : b.length < 4611686018427387904) (n : Nat) (hn : n ≤ 60) : ∀ (k i : Nat) (d : D) (l : List Ls), i + k = n → CurOk b d → l.length ≤ i → ∀ (i' g' : Int), d = .op [.rs (1, 0) (b.map eB), .int .i64 i', .int .i64 g'] → ∃ (l' : List Ls) (d' : D), Lspec_l11Draw_6 (n : Int) (i : Int) (b.map eB) i' g' (l.map eL) = some (.os (3, 0) (l'.map eL), [d']) ∧ CurOk b d' ∧ l'.length ≤ 61
  | 0, i, d, l, hi, h, hl, i', g', hd => by
    subst hd
    rw [Lspec_l11Draw_6_eq, br_not (by simp; omega)]
    obtain ⟨v, d1, hv, ⟨i1, g1, rfl, a1⟩⟩ := cur_once hb h 12
    rw [ocall_some hv]
    simp only [asOp_op, unc_cons, unn_nil, asRs_rs, asI_int, asB_bool]
    cases v with
    | false => exact ⟨_, _, rfl, ⟨_, _, rfl, a1⟩, by omega⟩
    | true =>
      rw [br_true]
      obtain ⟨v2, d2, hv2, ⟨i2, g2, rfl, a2⟩, _⟩ := cur_below hb (cmk g1 a1 rfl) 3
      obtain ⟨v3, d3, hv3, ⟨i3, g3, rfl, a3⟩, _⟩ := cur_below hb (cmk g2 a2 rfl) 12
      obtain ⟨v4, d4, hv4, ⟨i4, g4, rfl, a4⟩, _⟩ := cur_below hb (cmk g3 a3 rfl) 40
      simp only [ocall_some hv2, ocall_some hv3, ocall_some hv4, asOp_op, unc_cons, unn_nil, asRs_rs, asI_int, nam_eq]
      rw [grd_of (by simp [ni, LIM]; omega)]
      refine ⟨l ++ [⟨v2, IntKind.wrap .i64 (v3 - 1), IntKind.wrap .i64 (v4 - 1)⟩], .op [.rs (1, 0) (b.map eB), .int .i64 i4, .int .i64 g4], ?_, ⟨_, _, rfl, a4⟩, by simp; omega⟩
      simp [eL]
  | k + 1, i, d, l, hi, h, hl, i', g', hd => by
    subst hd
    rw [Lspec_l11Draw_6_eq, br_of (by simp; omega)]
    obtain ⟨v2, d2, hv2, ⟨i2, g2, rfl, a2⟩, _⟩ := cur_below hb h 4
    obtain ⟨v3, d3, hv3, ⟨i3, g3, rfl, a3⟩, _⟩ := cur_below hb (cmk g2 a2 rfl) 10
    obtain ⟨v4, d4, hv4, ⟨i4, g4, rfl, a4⟩, _⟩ := cur_below hb (cmk g3 a3 rfl) 40
    have hask := v_spec_ask (l := l) (by omega) (IntKind.wrap .i64 (1 + v2)) v3 v4
    have hlen := askF_length (IntKind.wrap .i64 (1 + v2)) v3 v4 l
    simp only [ocall_some hv2, ocall_some hv3, ocall_some hv4, ocall_some hask, askD, asOp_op, asOs_os, asTup_tup, asAgg_agg, asB_bool, unc_cons, unn_nil, asRs_rs, asI_int, nam_eq, w64s (show i < 4611686018427387904 by omega)]
    cases (askF (IntKind.wrap .i64 (1 + v2)) v3 v4 l).2.2.2 with
    | true => exact leases_loop hb n hn k (i + 1) _ _ (by omega) ⟨_, _, rfl, a4⟩ (by omega) _ _ rfl
    | false => exact leases_loop hb n hn k (i + 1) _ _ (by omega) ⟨_, _, rfl, a4⟩ (by omega) _ _ rfl

theorem cur_leases (hb : b.length < 4611686018427387904) (h : CurOk b d) : ∃ (l : List Ls) (d' : D), V 47 [d] = some (.os (3, 0) (l.map eL), [d']) ∧ CurOk b d' ∧ l.length ≤ 61 := by
  obtain ⟨v1, d1, hv1, h1, p1, p2⟩ := cur_below hb h 7
  obtain ⟨v2, d2, hv2, h2⟩ := cur_once hb h1 30
  obtain ⟨i, g, rfl, _⟩ := h
  obtain ⟨i1, g1, rfl, _⟩ := h1
  rw [espec_l11Draw]
  have h2' := h2
  obtain ⟨i2, g2, rfl, _⟩ := h2'
  simp only [ocall_some hv1, ocall_some hv2, asOp_op, asB_bool, unc_cons, unn_nil, asRs_rs, asI_int]
  cases v2 with
  | true => exact leases_loop hb 60 (by omega) 60 0 _ [] (by omega) h2 (by simp) _ _ rfl
  | false =>
    obtain ⟨k, rfl⟩ := Int.eq_ofNat_of_zero_le p1
    exact leases_loop hb k (by have := p2 (by omega); omega) k 0 _ [] (by omega) h2 (by simp) _ _ rfl
end
end Go.Eng
