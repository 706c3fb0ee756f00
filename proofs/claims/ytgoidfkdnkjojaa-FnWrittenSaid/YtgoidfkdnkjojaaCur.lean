/- what is drawn: the cursor -/
import Derived.Test.YtgoidfkdnkjojaaEngC
import Derived.Test.YtgoidfkdnkjojaaFnAll
namespace Go.Eng
open Go.Proofs Go.Proofs.Try

noncomputable def eB (x : Int) : D := .int .u8 x
noncomputable abbrev eC (b : List Int) (c : Int × Int) : D := .op [.rs (1, 0) (b.map eB), .int .i64 c.1, .int .i64 c.2]
noncomputable def CurOk (b : List Int) (c : Int × Int) : Prop := 0 ≤ c.1 ∧ c.1 ≤ b.length
/-- a draw: it answers, and the cursor goes on -/
noncomputable def Drawn (f : Nat) (b : List Int) (c : Int × Int) (rest : List D) (p : D → Prop) : Prop := ∃ v c', V f (eC b c :: rest) = some (v, [eC b c']) ∧ CurOk b c' ∧ p v

theorem and255 (x : Int) : 0 ≤ IntKind.wrap IntKind.i64 (ni (BitVec.toNat (BitVec.ofInt (IntKind.bits IntKind.i64) x &&& BitVec.ofInt (IntKind.bits IntKind.i64) 255))) ∧ IntKind.wrap IntKind.i64 (ni (BitVec.toNat (BitVec.ofInt (IntKind.bits IntKind.i64) x &&& BitVec.ofInt (IntKind.bits IntKind.i64) 255))) ≤ 255 := by
  have h : BitVec.toNat (BitVec.ofInt (IntKind.bits IntKind.i64) x &&& BitVec.ofInt (IntKind.bits IntKind.i64) 255) ≤ 255 := by
    rw [BitVec.toNat_and]
    exact Nat.le_trans Nat.and_le_right (by decide)
  rw [w64 (by simp only [ni]; omega) (by simp only [ni]; omega)]
  simp only [ni]; omega

section
variable {b : List Int} {c : Int × Int}
theorem cur_byte (hb : b.length < 4611686018427387904) (h : CurOk b c) : ∃ v c', V 145 [eC b c] = some (.int .i64 v, [eC b c']) ∧ CurOk b c' ∧ 0 ≤ v ∧ v ≤ 255 := by
  obtain ⟨h1, h2⟩ := h
  rw [espec_l1Byte, grd_of (by decide), grd_of (by decide)]
  by_cases hi : c.1 < b.length
  · obtain ⟨k, hk⟩ := Int.eq_ofNat_of_zero_le h1
    obtain ⟨x, hx⟩ := get_of_lt (l := b) (i := k) (by omega)
    rw [hk]
    rw [br_of (by rw [List.length_map]; exact lt_idx (by omega)), grd_of (by rw [List.length_map]; exact in_idx (by omega)), Int.toNat_natCast, oget_map hx]
    unfold eB
    rw [asI_int]
    refine ⟨_, (_, _), rfl, ⟨?_, ?_⟩, (and255 _).1, (and255 _).2⟩
    · show 0 ≤ IntKind.wrap IntKind.i64 ((k : Int) + 1)
      rw [w64 (by omega) (by omega)]; omega
    · show IntKind.wrap IntKind.i64 ((k : Int) + 1) ≤ _
      rw [w64 (by omega) (by omega)]; omega
  · rw [br_not (decide_eq_false (by simp only [ni, List.length_map]; omega))]
    exact ⟨_, (c.1, IntKind.wrap .i64 (IntKind.wrap .i64 (c.2 * 6364136223846793005) + 1442695040888963407)), rfl, ⟨h1, h2⟩, (and255 _).1, (and255 _).2⟩

theorem cur_below (hb : b.length < 4611686018427387904) (h : CurOk b c) (n : Int) : ∃ v c', V 85 [eC b c, .int .i64 n] = some (.int .i64 v, [eC b c']) ∧ CurOk b c' ∧ 0 ≤ v ∧ (0 < n → v < n) := by
  rw [espec_l1Below]
  by_cases hn : n ≤ 0
  · rw [br_of (by simpa using hn)]
    exact ⟨_, c, rfl, h, by omega, by omega⟩
  rw [br_not (by simpa using hn)]
  by_cases h256 : n ≤ 256
  · rw [br_of (by simpa using h256)]
    obtain ⟨v, c1, hv, h1, hv1, hv2⟩ := cur_byte hb h
    rw [ocall_some hv]
    simp only [asI_int, asRs_rs, asOp_op, unc_cons, unn_nil]
    rw [grd_of (by simp; omega)]
    exact ⟨_, c1, rfl, h1, Int.tmod_nonneg _ hv1, fun _ => Int.tmod_lt_of_pos _ (by omega)⟩
  · rw [br_not (by simpa using h256)]
    obtain ⟨v1, c1, hv1, a1, b1⟩ := cur_byte hb h
    obtain ⟨v2, c2, hv2, a2, b2⟩ := cur_byte hb a1
    obtain ⟨v3, c3, hv3, a3, b3⟩ := cur_byte hb a2
    obtain ⟨v4, c4, hv4, a4, b4⟩ := cur_byte hb a3
    simp only [ocall_some hv1, ocall_some hv2, ocall_some hv3, ocall_some hv4, asI_int, asRs_rs, asOp_op, unc_cons, unn_nil]
    rw [grd_of (by simp; omega)]
    refine ⟨_, c4, rfl, a4, Int.tmod_nonneg _ ?_, fun _ => Int.tmod_lt_of_pos _ (by omega)⟩
    rw [w64 (n := v1 * 16777216) (by omega) (by omega), w64 (n := v2 * 65536) (by omega) (by omega), w64 (n := v3 * 256) (by omega) (by omega)]
    rw [w64 (n := v1 * 16777216 + v2 * 65536) (by omega) (by omega), w64 (n := v1 * 16777216 + v2 * 65536 + v3 * 256) (by omega) (by omega), w64 (by omega) (by omega)]
    omega

theorem cur_pickInt (hb : b.length < 4611686018427387904) (h : CurOk b c) {l : List Int} (hl : 0 < l.length) : ∃ v c', V 123 [eC b c, .rs (1, 0) (l.map (D.int .i64))] = some (.int .i64 v, [eC b c']) ∧ CurOk b c' ∧ v ∈ l := by
  obtain ⟨v, c1, hv, a1, b1, b2⟩ := cur_below hb h (ni (l.map (D.int .i64)).length)
  rw [espec_l1PickInt, ocall_some hv]
  simp only [asI_int, asRs_rs, asOp_op, unc_cons, unn_nil]
  simp only [ni, List.length_map] at b2
  obtain ⟨k, rfl⟩ := Int.eq_ofNat_of_zero_le b1
  have hk : k < l.length := by have := b2 (by omega); omega
  obtain ⟨x, hx⟩ := get_of_lt hk
  rw [grd_of (by rw [List.length_map]; exact in_idx hk), Int.toNat_natCast, oget_map hx, asI_int]
  exact ⟨_, c1, rfl, a1, List.mem_of_getElem? hx⟩

theorem cur_pick (hb : b.length < 4611686018427387904) (h : CurOk b c) {l : List ByteArray} (hl : 0 < l.length) : ∃ v c', V 122 [eC b c, .rs (1, 0) (l.map D.str)] = some (.str v, [eC b c']) ∧ CurOk b c' ∧ v ∈ l := by
  obtain ⟨v, c1, hv, a1, b1, b2⟩ := cur_below hb h (ni (l.map D.str).length)
  rw [espec_l1Pick, ocall_some hv]
  simp only [asI_int, asRs_rs, asOp_op, unc_cons, unn_nil]
  simp only [ni, List.length_map] at b2
  obtain ⟨k, rfl⟩ := Int.eq_ofNat_of_zero_le b1
  have hk : k < l.length := by have := b2 (by omega); omega
  obtain ⟨x, hx⟩ := get_of_lt hk
  rw [grd_of (by rw [List.length_map]; exact in_idx hk), Int.toNat_natCast, oget_map hx, asS_str]
  exact ⟨_, c1, rfl, a1, List.mem_of_getElem? hx⟩

theorem new_loop (hb : b.length < 4611686018427387904) : ∀ (k i : Nat) (h : Int), i + k = b.length → ∃ h', Lspec_l1New_3 (b.map eB) h (i : Int) = some (eC b (0, h'), [])
  | 0, i, h, hi => by
    rw [Lspec_l1New_3_eq, br_not (by rw [List.length_map]; exact ge_idx (by omega))]
    exact ⟨_, rfl⟩
  | k + 1, i, h, hi => by
    obtain ⟨x, hx⟩ := get_of_lt (l := b) (i := i) (by omega)
    rw [Lspec_l1New_3_eq, br_of (by rw [List.length_map]; exact lt_idx (by omega)), grd_of (by rw [List.length_map]; exact in_idx (by omega)), Int.toNat_natCast, oget_map hx]
    cases h4 : decide ((i : Int) < 4000) with
    | false => exact ⟨_, rfl⟩
    | true =>
      unfold eB
      rw [br_true, asI_int, w64s (by omega)]
      exact new_loop hb k (i + 1) _ (by omega)
theorem cur_new (hb : b.length < 4611686018427387904) : ∃ c, V 52 [.rs (1, 0) (b.map eB)] = some (eC b c, []) ∧ CurOk b c := by
  rw [espec_l1New]
  obtain ⟨h', he⟩ := new_loop hb b.length 0 (IntKind.wrap IntKind.i64 (17000 + ni (List.length (b.map eB)))) (by omega)
  exact ⟨(0, h'), he, Int.le_refl _, Int.natCast_nonneg _⟩
end
theorem v_big (b : List Int) : V 11 [.rs (1, 0) (b.map eB)] = some (.bool (decide ((b.length : Int) > 1048576)), []) := by
  rw [elaws_big, List.length_map]
set_option maxRecDepth 100000 in
/-- a draw's code -/
theorem arg_code {x : D} (h : ShapeV prog 22 x) : ∃ b : List Int, x = .rs (1, 0) (b.map eB) ∧ b.length < 4611686018427387904 := by
  obtain ⟨ys, hs, rfl⟩ := h
  obtain ⟨bs, rfl, h1, h2⟩ := hs.slice Try.underlying22 (show zOf prog 5 = some (1, 0) by kernel_rfl)
  obtain ⟨l, rfl, -⟩ := listOf_all (enc := eB) (p := fun _ => True) (ys := bs) (fun x hx => by
    obtain ⟨ps, hs, rfl⟩ := h2 x hx
    obtain ⟨n, rfl, _⟩ := hs.int Try.underlying5
    exact ⟨n, elemOf_int Try.underlying5, trivial⟩)
  have hby : prog.bytesOf 5 = 1 := by kernel_rfl
  have hr : reachBytes = 140737488351232 := rfl
  rw [hby, List.length_map] at h1
  exact ⟨l, by rw [elemOf_slice Try.underlying22], by omega⟩
end Go.Eng
