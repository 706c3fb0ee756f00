/- draws: what is drawn fits, and the cursor goes on -/
import Derived.Test.YtgoidfkdnkjojaaCur
import Derived.Test.YtgoidfkdnkjojaaKeep2
import Derived.Test.YtgoidfkdnkjojaaEngC
namespace Go.Eng
open Go.Proofs Go.Proofs.Try

/-- an answer that fits -/
noncomputable def Got (P : D → List D → Prop) (r : Option Ret) : Prop := ∃ v l, r = some (v, l) ∧ P v l
theorem got_congr {r s : Option Ret} (h : r = s) (P : D → List D → Prop) : Got P r = Got P s := by rw [h]
attribute [congr] got_congr
section
variable {P Q : D → List D → Prop}
theorem got_some {v : D} {l : List D} (h : P v l) : Got P (some (v, l)) := ⟨v, l, rfl, h⟩
theorem got_br {b : Bool} {x y : Option Ret} (h1 : b = true → Got P x) (h2 : b = false → Got P y) : Got P (br b x y) := by
  cases b with
  | true => exact h1 rfl
  | false => exact h2 rfl
theorem got_grd {b : Bool} {x : Option Ret} (h : b = true) (h1 : Got P x) : Got P (grd b x) := by rw [grd_of h]; exact h1
theorem got_call {f : Nat} {ds : List D} {K : D → List D → Option Ret} (h : Got Q (V f ds)) (h2 : ∀ v l, Q v l → Got P (K v l)) : Got P (ocall V f ds K) := by
  obtain ⟨v, l, e, hq⟩ := h
  rw [ocall_some e]; exact h2 v l hq
theorem got_val {v : D} {l : List D} {f : Nat} {ds : List D} {K : D → List D → Option Ret} (h : V f ds = some (v, l)) (h2 : Got P (K v l)) : Got P (ocall V f ds K) := by
  rw [ocall_some h]; exact h2
end
noncomputable abbrev Drew (b : List Int) (Q : D → Prop) : Option Ret → Prop := Got (fun v l => ∃ c', l = [eC b c'] ∧ CurOk b c' ∧ Q v)
section
variable {b : List Int} {Q : D → Prop} {P : D → List D → Prop}
theorem drew_call {f : Nat} {ds : List D} {K : D → List D → Option Ret} (h : Drew b Q (V f ds)) (h2 : ∀ v c', CurOk b c' → Q v → Got P (K v [eC b c'])) : Got P (ocall V f ds K) := by
  obtain ⟨v, l, e, c', rfl, hc, hq⟩ := h
  rw [ocall_some e]; exact h2 v c' hc hq
theorem drew_some {v : D} {c' : Int × Int} (h : CurOk b c') (hq : Q v) : Drew b Q (some (v, [eC b c'])) := ⟨v, _, rfl, c', rfl, h, hq⟩
theorem drew_mono {Q' : D → Prop} {r : Option Ret} (h : Drew b Q r) (h2 : ∀ v, Q v → Q' v) : Drew b Q' r := by
  obtain ⟨v, l, e, c', e2, hc, hq⟩ := h
  exact ⟨v, l, e, c', e2, hc, h2 v hq⟩
end
theorem nil_size : (⟨#[]⟩ : ByteArray).size ≤ 100 := by decide
noncomputable def IsNat (n : Int) (v : D) : Prop := ∃ m : Int, v = .int .i64 m ∧ 0 ≤ m ∧ (0 < n → m < n)
noncomputable def IsB (v : D) : Prop := ∃ m : Bool, v = .bool m
section
variable {b : List Int} {c : Int × Int}
theorem dr_below (hb : b.length < 4611686018427387904) (h : CurOk b c) (n : Int) : Drew b (IsNat n) (V 85 [eC b c, .int .i64 n]) := by
  obtain ⟨v, c', e, h1, h2, h3⟩ := cur_below hb h n
  exact ⟨_, _, e, c', rfl, h1, v, rfl, h2, h3⟩
theorem dr_once (hb : b.length < 4611686018427387904) (h : CurOk b c) (n : Int) : Drew b IsB (V 63 [eC b c, .int .i64 n]) := by
  rw [espec_l1Once]
  refine drew_call (dr_below hb h n) fun v c1 a1 ⟨m, e, _⟩ => ?_
  subst e
  simp (disch := first | omega | (simp only [List.length_append, List.length_cons, List.length_nil, List.length_map, mk_size, nat_cast_eq]; omega)) only [↓unn_nil, ↓unc_cons, ↓asI_int, ↓asRs_rs, ↓asOp_op]
  exact drew_some a1 ⟨_, rfl⟩
theorem dr_pickInt (hb : b.length < 4611686018427387904) (h : CurOk b c) (l : List Int) (hl : 0 < l.length) : Drew b (fun v => ∃ m : Int, v = .int .i64 m ∧ m ∈ l) (V 123 [eC b c, .rs (1, 0) (l.map (D.int .i64))]) := by
  obtain ⟨v, c', e, h1, h2⟩ := cur_pickInt hb h hl
  exact ⟨_, _, e, c', rfl, h1, v, rfl, h2⟩
theorem dr_pick (hb : b.length < 4611686018427387904) (h : CurOk b c) (l : List ByteArray) (hl : 0 < l.length) : Drew b (fun v => ∃ m : ByteArray, v = .str m ∧ m ∈ l) (V 122 [eC b c, .rs (1, 0) (l.map D.str)]) := by
  obtain ⟨v, c', e, h1, h2⟩ := cur_pick hb h hl
  exact ⟨_, _, e, c', rfl, h1, v, rfl, h2⟩

/-! ## nodes and pools -/
noncomputable def IsNd (v : D) : Prop := ∃ x : Nd, v = eN x ∧ x.s.size ≤ 100
theorem dr_atom (hb : b.length < 4611686018427387904) (h : CurOk b c) : Drew b IsNd (V 170 [eC b c]) := by
  rw [espec_l2DrawAtom]
  refine drew_call (dr_below hb h _) fun v c1 a1 ⟨m, e, m0, m1⟩ => ?_
  subst e
  simp (disch := first | omega | (simp only [List.length_append, List.length_cons, List.length_nil, List.length_map, mk_size, nat_cast_eq]; omega)) only [↓unn_nil, ↓unc_cons, ↓asI_int, ↓asRs_rs, ↓asOp_op]
  refine got_br (fun _ => drew_some a1 ⟨⟨_, _, _, _, _⟩, rfl, nil_size⟩) fun _ => got_br (fun _ => ?_) fun _ => got_br (fun _ => ?_) fun _ => got_br (fun _ => ?_) fun _ => got_br (fun _ => ?_) fun _ => ?_
  · refine drew_call (dr_below hb a1 _) fun v c2 a2 ⟨m, e, m0, m1⟩ => ?_
    subst e
    simp (disch := first | omega | (simp only [List.length_append, List.length_cons, List.length_nil, List.length_map, mk_size, nat_cast_eq]; omega)) only [↓unn_nil, ↓unc_cons, ↓asI_int, ↓asRs_rs, ↓asOp_op]
    exact drew_some a2 ⟨⟨_, _, _, _, _⟩, rfl, nil_size⟩
  · refine drew_call (dr_pick hb a1 [⟨#[97]⟩, ⟨#[98, 99]⟩, ⟨#[120]⟩, ⟨#[102]⟩, ⟨#[43]⟩, ⟨#[108, 105, 115, 116]⟩] (by simp)) fun v c2 a2 ⟨m, e, hm⟩ => ?_
    subst e
    simp (disch := first | omega | (simp only [List.length_append, List.length_cons, List.length_nil, List.length_map, mk_size, nat_cast_eq]; omega)) only [↓unn_nil, ↓unc_cons, ↓asI_int, ↓asS_str, ↓asRs_rs, ↓asOp_op]
    refine drew_some a2 ⟨⟨_, _, m, _, _⟩, rfl, ?_⟩
    simp only [List.mem_cons, List.not_mem_nil, or_false] at hm
    rcases hm with rfl | rfl | rfl | rfl | rfl | rfl <;> decide
  all_goals
    refine drew_call (dr_below hb a1 _) fun v c2 a2 ⟨m, e, m0, m1⟩ => ?_
    subst e
    simp (disch := first | omega | (simp only [List.length_append, List.length_cons, List.length_nil, List.length_map, mk_size, nat_cast_eq]; omega)) only [↓unn_nil, ↓unc_cons, ↓asI_int, ↓asRs_rs, ↓asOp_op]
    exact drew_some a2 ⟨⟨_, _, _, _, _⟩, rfl, nil_size⟩
theorem dr_node (hb : b.length < 4611686018427387904) (h : CurOk b c) (n : Int) : Drew b IsNd (V 148 [eC b c, .int .i64 n]) := by
  have hat : ∀ {c : Int × Int}, CurOk b c → Drew b IsNd (V 170 [eC b c]) := fun h => dr_atom hb h
  rw [espec_l2DrawNode]
  refine got_br (fun _ => ?_) fun _ => ?_
  · refine drew_call (hat h) fun v c1 a1 ⟨x, e, hx⟩ => ?_
    subst e
    simp (disch := first | omega | (simp only [List.length_append, List.length_cons, List.length_nil, List.length_map, mk_size, nat_cast_eq]; omega)) only [↓unn_nil, ↓unc_cons, ↓asI_int, ↓asS_str, ↓asRs_rs, ↓asAgg_agg, ↓asOp_op]
    exact drew_some a1 ⟨x, rfl, hx⟩
  refine drew_call (dr_once hb h 2) fun v c1 a1 ⟨o, e⟩ => ?_
  subst e
  simp (disch := first | omega | (simp only [List.length_append, List.length_cons, List.length_nil, List.length_map, mk_size, nat_cast_eq]; omega)) only [↓unn_nil, ↓unc_cons, ↓asI_int, ↓asB_bool, ↓asRs_rs, ↓asOp_op]
  refine got_br (fun _ => ?_) fun _ => ?_
  · refine drew_call (hat a1) fun v c1 a1 ⟨x, e, hx⟩ => ?_
    subst e
    simp (disch := first | omega | (simp only [List.length_append, List.length_cons, List.length_nil, List.length_map, mk_size, nat_cast_eq]; omega)) only [↓unn_nil, ↓unc_cons, ↓asI_int, ↓asS_str, ↓asRs_rs, ↓asAgg_agg, ↓asOp_op]
    exact drew_some a1 ⟨x, rfl, hx⟩
  refine got_val (v_l1Min _ _) ?_
  simp (disch := first | omega | (simp only [List.length_append, List.length_cons, List.length_nil, List.length_map, mk_size, nat_cast_eq]; omega)) only [↓unn_nil, ↓asI_int]
  refine drew_call (dr_below hb a1 _) fun v c2 a2 ⟨m, e, m0, m1⟩ => ?_
  subst e
  simp (disch := first | omega | (simp only [List.length_append, List.length_cons, List.length_nil, List.length_map, mk_size, nat_cast_eq]; omega)) only [↓unn_nil, ↓unc_cons, ↓asI_int, ↓asRs_rs, ↓asOp_op]
  refine drew_call (dr_below hb a2 _) fun v c3 a3 ⟨m3, e, _, _⟩ => ?_
  subst e
  simp (disch := first | omega | (simp only [List.length_append, List.length_cons, List.length_nil, List.length_map, mk_size, nat_cast_eq]; omega)) only [↓unn_nil, ↓unc_cons, ↓asI_int, ↓asRs_rs, ↓asOp_op]
  refine got_br (fun _ => ?_) fun _ => got_br (fun _ => drew_some a3 ⟨⟨_, _, _, _, _⟩, rfl, nil_size⟩) fun _ => ?_
  · refine drew_call (dr_below hb a3 _) fun v c4 a4 ⟨m4, e, _, _⟩ => ?_
    subst e
    simp (disch := first | omega | (simp only [List.length_append, List.length_cons, List.length_nil, List.length_map, mk_size, nat_cast_eq]; omega)) only [↓unn_nil, ↓unc_cons, ↓asI_int, ↓asRs_rs, ↓asOp_op]
    exact drew_some a4 ⟨⟨_, _, _, _, _⟩, rfl, nil_size⟩
  refine got_val (v_l1Min _ _) ?_
  simp (disch := first | omega | (simp only [List.length_append, List.length_cons, List.length_nil, List.length_map, mk_size, nat_cast_eq]; omega)) only [↓unn_nil, ↓asI_int]
  refine drew_call (dr_below hb a3 _) fun v c4 a4 ⟨m4, e, _, _⟩ => ?_
  subst e
  simp (disch := first | omega | (simp only [List.length_append, List.length_cons, List.length_nil, List.length_map, mk_size, nat_cast_eq]; omega)) only [↓unn_nil, ↓unc_cons, ↓asI_int, ↓asRs_rs, ↓asOp_op]
  exact drew_some a4 ⟨⟨_, _, _, _, _⟩, rfl, nil_size⟩
noncomputable def Shrt (p : List Nd) : Prop := ∀ x ∈ p, x.s.size ≤ 100
theorem shrt_fits {p : List Nd} (h : Shrt p) : Fits p := fun x hx => by have := h x hx; omega
noncomputable def IsPool (v : D) : Prop := ∃ p : List Nd, v = oP p ∧ Shrt p ∧ (p.length ≤ 15 ∨ (p.length ≤ 3001 ∧ ∀ x ∈ p, x.kind = 1))
theorem dr_right_loop (hb : b.length < 4611686018427387904) {n : Int} (hn : n < 16) : ∀ (k i : Nat) (c : Int × Int) (p : List Nd), (i : Int) + k = n → CurOk b c → Shrt p → p.length ≤ i → 0 < i → Drew b (fun v => ∃ p : List Nd, v = oP p ∧ Shrt p ∧ p.length ≤ 15) (Lspec_l2DrawRight_4v1 n (i : Int) (b.map eB) c.1 c.2 (p.map eN))
  | 0, i, c, p, hi, hc, hp, hl, h0 => by
    rw [Lspec_l2DrawRight_4v1_eq]
    simp (disch := first | omega | (simp only [List.length_append, List.length_cons, List.length_nil, List.length_map, mk_size, nat_cast_eq]; omega)) only [↓br_false, dec_f]
    exact drew_some hc ⟨p, rfl, hp, by omega⟩
  | k + 1, i, c, p, hi, hc, hp, hl, h0 => by
    rw [Lspec_l2DrawRight_4v1_eq, br_of (decide_eq_true (by omega))]
    refine drew_call (dr_node hb hc _) fun v c1 a1 ⟨x, e, hx⟩ => ?_
    subst e
    simp (disch := first | omega | (simp only [List.length_append, List.length_cons, List.length_nil, List.length_map, mk_size, nat_cast_eq]; omega)) only [↓ocall_ocont, ocont_some, ↓unn_nil, ↓unc_cons, ↓asI_int, ↓asS_str, ↓asOs_os, ↓asRs_rs, ↓asAgg_agg, ↓asOp_op, wS, v_l2Add (p := p) (by omega) x]
    refine dr_right_loop hb hn k (i + 1) c1 (p ++ [x]) (by omega) a1 ?_ (by simp; omega) (by omega)
    intro y hy
    rcases List.mem_append.1 hy with hy | hy
    · exact hp y hy
    · simp at hy; subst hy; exact hx
theorem dr_right (hb : b.length < 4611686018427387904) (h : CurOk b c) : Drew b (fun v => ∃ p : List Nd, v = oP p ∧ Shrt p ∧ p.length ≤ 15) (V 89 [eC b c]) := by
  rw [espec_l2DrawRight]
  refine drew_call (dr_below hb h _) fun v c1 a1 ⟨m, e, m0, m1⟩ => ?_
  subst e
  have := m1 (by omega)
  simp (disch := first | omega | (simp only [List.length_append, List.length_cons, List.length_nil, List.length_map, mk_size, nat_cast_eq]; omega)) only [↓unn_nil, ↓unc_cons, ↓asI_int, ↓asRs_rs, ↓asOp_op]
  rw [Lspec_l2DrawRight_4_eq]
  refine got_br (fun h0 => ?_) fun _ => drew_some a1 ⟨[], rfl, fun x hx => by simp at hx, by simp⟩
  have h0 := of_decide_eq_true h0
  refine drew_call (dr_node hb a1 _) fun v c2 a2 ⟨x, e, hx⟩ => ?_
  subst e
  have ha : V 75 [.op [.os (5, 0) []], eN x] = some (.int .i64 0, [rP [x]]) := v_l2Add (p := []) (by simp) x
  simp (disch := first | omega | (simp only [List.length_append, List.length_cons, List.length_nil, List.length_map, mk_size, nat_cast_eq]; omega)) only [↓ocall_ocont, ocont_some, ↓unn_nil, ↓unc_cons, ↓asI_int, ↓asS_str, ↓asOs_os, ↓asRs_rs, ↓asAgg_agg, ↓asOp_op, Int.reduceAdd, wS, ha]
  obtain ⟨k, hk⟩ := Int.eq_ofNat_of_zero_le (show 0 ≤ m - 1 by omega)
  exact dr_right_loop hb (by omega) k 1 c2 [x] (by simp; omega) a2 (by simpa [Shrt] using hx) (by simp) (by omega)
theorem dr_spoil (hb : b.length < 4611686018427387904) (h : CurOk b c) {x : Nd} (hx : x.s.size ≤ 100) : Drew b IsNd (V 112 [eC b c, eN x]) := by
  rw [espec_l2Spoil]
  refine drew_call (dr_below hb h _) fun v c1 a1 ⟨m, e, m0, m1⟩ => ?_
  subst e
  simp (disch := first | omega | (simp only [List.length_append, List.length_cons, List.length_nil, List.length_map, mk_size, nat_cast_eq]; omega)) only [↓unn_nil, ↓unc_cons, ↓asI_int, ↓asRs_rs, ↓asOp_op]
  refine got_br (fun _ => ?_) fun _ => got_br (fun _ => ?_) fun _ => got_br (fun _ => ?_) fun _ => got_br (fun _ => ?_) fun _ => got_br (fun _ => ?_) fun _ => drew_some a1 ⟨x, rfl, hx⟩
  · refine drew_call (dr_below hb a1 _) fun v c2 a2 ⟨m2, e, _, _⟩ => ?_
    subst e
    simp (disch := first | omega | (simp only [List.length_append, List.length_cons, List.length_nil, List.length_map, mk_size, nat_cast_eq]; omega)) only [↓unn_nil, ↓unc_cons, ↓asI_int, ↓asRs_rs, ↓asOp_op]
    exact drew_some a2 ⟨⟨m2, x.n, x.s, x.a, x.b⟩, rfl, hx⟩
  · refine drew_call (dr_below hb a1 _) fun v c2 a2 ⟨m2, e, _, h2⟩ => ?_
    subst e
    have := h2 (by omega)
    simp (disch := first | omega | (simp only [List.length_append, List.length_cons, List.length_nil, List.length_map, mk_size, nat_cast_eq]; omega)) only [↓unn_nil, ↓unc_cons, ↓asI_int, ↓asRs_rs, ↓asOp_op]
    exact drew_some a2 ⟨⟨x.kind, x.n, x.s, IntKind.wrap IntKind.i64 (m2 - 1), x.b⟩, rfl, hx⟩
  · refine drew_call (dr_below hb a1 _) fun v c2 a2 ⟨m2, e, _, h2⟩ => ?_
    subst e
    have := h2 (by omega)
    simp (disch := first | omega | (simp only [List.length_append, List.length_cons, List.length_nil, List.length_map, mk_size, nat_cast_eq]; omega)) only [↓unn_nil, ↓unc_cons, ↓asI_int, ↓asRs_rs, ↓asOp_op]
    exact drew_some a2 ⟨⟨x.kind, x.n, x.s, x.a, IntKind.wrap IntKind.i64 (m2 - 1)⟩, rfl, hx⟩
  · refine drew_call (dr_pickInt hb a1 [-1, 2, 99, 100, 1000000000, 1000000001, -1000000000, -1000000001] (by simp)) fun v c2 a2 ⟨m2, e, _⟩ => ?_
    subst e
    simp (disch := first | omega | (simp only [List.length_append, List.length_cons, List.length_nil, List.length_map, mk_size, nat_cast_eq]; omega)) only [↓unn_nil, ↓unc_cons, ↓asI_int, ↓asRs_rs, ↓asOp_op]
    exact drew_some a2 ⟨⟨x.kind, m2, x.s, x.a, x.b⟩, rfl, hx⟩
  · refine drew_call (dr_pick hb a1 [⟨#[]⟩, ⟨#[97]⟩, ⟨#[65, 98]⟩, ⟨#[97, 98, 99, 100, 101, 102, 103, 104, 105, 106, 107, 108]⟩, ⟨#[97, 98, 99, 100, 101, 102, 103, 104, 105, 106, 107, 108, 109]⟩, ⟨#[97, 49]⟩] (by simp)) fun v c2 a2 ⟨m2, e, hm⟩ => ?_
    subst e
    simp (disch := first | omega | (simp only [List.length_append, List.length_cons, List.length_nil, List.length_map, mk_size, nat_cast_eq]; omega)) only [↓unn_nil, ↓unc_cons, ↓asI_int, ↓asS_str, ↓asRs_rs, ↓asOp_op]
    refine drew_some a2 ⟨⟨x.kind, x.n, m2, x.a, x.b⟩, rfl, ?_⟩
    show m2.size ≤ 100
    simp only [List.mem_cons, List.not_mem_nil, or_false] at hm
    rcases hm with rfl | rfl | rfl | rfl | rfl | rfl <;> decide
theorem dr_fill (hb : b.length < 4611686018427387904) (h : CurOk b c) {N : Nat} (hN : N ≤ 3001) : ∀ (k i : Nat) (q : List Nd), i + k = N → q.length = N → Shrt q → (∀ (j : Nat) (x : Nd), j < i → q[j]? = some x → x.kind = 1) → Drew b IsPool (Lspec_l2Draw_8 (i : Int) (b.map eB) c.1 c.2 (q.map eN))
  | 0, i, q, hi, hq, hs, hk => by
    rw [Lspec_l2Draw_8_eq]
    simp (disch := first | omega | (simp only [List.length_append, List.length_cons, List.length_nil, List.length_map, mk_size, nat_cast_eq]; omega)) only [↓br_false, dec_f, List.length_map, nat_cast_eq]
    refine drew_some h ⟨q, rfl, hs, .inr ⟨by omega, fun x hx => ?_⟩⟩
    obtain ⟨j, hj⟩ := List.getElem?_of_mem hx
    exact hk j x (by have := lt_of_get hj; omega) hj
  | k + 1, i, q, hi, hq, hs, hk => by
    obtain ⟨x, hx⟩ := get_of_lt (l := q) (i := i) (by omega)
    have e : (D.agg (List.take 0 [D.int .i64 x.kind, .int .i64 x.n, .str x.s, .int .i64 x.a, .int .i64 x.b] ++ [D.int .i64 1] ++ List.drop 1 [D.int .i64 x.kind, .int .i64 x.n, .str x.s, .int .i64 x.a, .int .i64 x.b])) = eN ⟨1, x.n, x.s, x.a, x.b⟩ := rfl
    rw [Lspec_l2Draw_8_eq, br_of (decide_eq_true (by rw [List.length_map]; simp only [ni]; omega)), grd_of (by rw [List.length_map]; exact in_idx (by omega)), Int.toNat_natCast, oget_map hx, asAgg_agg, nam_eq, w64s (by omega), e, ← List.map_set]
    refine dr_fill hb h hN k (i + 1) _ (by omega) (by simp; omega) ?_ ?_
    · intro y hy
      rcases List.mem_or_eq_of_mem_set hy with hy | hy
      · exact hs y hy
      · rw [hy]; exact hs x (List.mem_of_getElem? hx)
    · intro j y hj hy
      by_cases e : i = j
      · subst e
        rw [List.getElem?_set_self (by omega)] at hy
        cases hy; rfl
      · rw [List.getElem?_set_ne e] at hy
        exact hk j y (by omega) hy
theorem dr_draw (hb : b.length < 4611686018427387904) (h : CurOk b c) : Drew b IsPool (V 53 [eC b c]) := by
  have fin : ∀ {c : Int × Int} {k : Nat}, CurOk b c → k < 2 → Drew b IsPool (grd (decide (0 ≤ IntKind.wrap IntKind.i64 (3000 + (k : Int))) && decide (IntKind.wrap IntKind.i64 (3000 + (k : Int)) ≤ LIM)) (Lspec_l2Draw_8 0 (b.map eB) c.1 c.2 (List.replicate (Int.toNat (IntKind.wrap IntKind.i64 (3000 + (k : Int)))) (D.agg [D.int .i64 0, D.int .i64 0, D.str ⟨#[]⟩, D.int .i64 0, D.int .i64 0])))) := by
    intro c k h hk
    rw [w64 (by omega) (by omega), grd_of (by rw [LIM_eq]; simp only [Bool.and_eq_true, decide_eq_true_eq]; omega)]
    have e2 : (3000 + (k : Int)).toNat = 3000 + k := by omega
    have e3 : List.replicate (3000 + k) (D.agg [D.int .i64 0, D.int .i64 0, D.str ⟨#[]⟩, D.int .i64 0, D.int .i64 0]) = (List.replicate (3000 + k) (⟨0, 0, ⟨#[]⟩, 0, 0⟩ : Nd)).map eN := by rw [List.map_replicate]
    rw [e2, e3]
    refine dr_fill hb h (N := 3000 + k) (by omega) (3000 + k) 0 _ (by omega) (by simp) ?_ (fun j x h _ => by omega)
    intro x hx
    rw [(List.mem_replicate.1 hx).2]
    exact nil_size
  rw [espec_l2Draw]
  refine drew_call (dr_right hb h) fun v c1 a1 ⟨p, e, hp, hl⟩ => ?_
  subst e
  simp (disch := first | omega | (simp only [List.length_append, List.length_cons, List.length_nil, List.length_map, mk_size, nat_cast_eq]; omega)) only [↓unn_nil, ↓unc_cons, ↓asI_int, ↓asOs_os, ↓asRs_rs, ↓asAgg_agg, ↓asOp_op, ↓nam_eq]
  refine got_br (fun h0 => ?_) fun _ => ?_
  · have h0 := of_decide_eq_true h0
    rw [List.length_map] at h0
    refine drew_call (dr_once hb a1 12) fun v c2 a2 ⟨o, e⟩ => ?_
    subst e
    simp (disch := first | omega | (simp only [List.length_append, List.length_cons, List.length_nil, List.length_map, mk_size, nat_cast_eq]; omega)) only [↓unn_nil, ↓unc_cons, ↓asI_int, ↓asB_bool, ↓asRs_rs, ↓asOp_op]
    refine got_br (fun _ => ?_) fun _ => ?_
    · refine drew_call (dr_below hb a2 _) fun v c3 a3 ⟨m, e, m0, m1⟩ => ?_
      subst e
      have hm := m1 (by rw [List.length_map]; exact h0)
      rw [List.length_map] at hm
      obtain ⟨k, hk⟩ := Int.eq_ofNat_of_zero_le m0
      subst hk
      obtain ⟨x, hx⟩ := get_of_lt (l := p) (i := k) (by simp only [ni] at hm; omega)
      simp (disch := first | omega | (simp only [List.length_append, List.length_cons, List.length_nil, List.length_map, mk_size, nat_cast_eq]; omega)) only [↓unn_nil, ↓unc_cons, ↓asI_int, ↓asRs_rs, ↓asOp_op]
      rw [grd_of (by rw [List.length_map]; exact in_idx (by simp only [ni] at hm; omega)), Int.toNat_natCast, oget_map hx, nd_all]
      refine drew_call (dr_spoil hb a3 (hp x (List.mem_of_getElem? hx))) fun v c4 a4 ⟨y, e, hy⟩ => ?_
      subst e
      simp (disch := first | omega | (simp only [List.length_append, List.length_cons, List.length_nil, List.length_map, mk_size, nat_cast_eq]; omega)) only [↓unn_nil, ↓unc_cons, ↓asI_int, ↓asS_str, ↓asRs_rs, ↓asAgg_agg, ↓asOp_op]
      rw [grd_of (by rw [List.length_map]; exact in_idx (by simp only [ni] at hm; omega)), oget_map hx]
      have e : List.set (p.map eN) k (D.agg [.int .i64 y.kind, .int .i64 y.n, .str y.s, .int .i64 y.a, .int .i64 y.b]) = (p.set k y).map eN := by rw [List.map_set]
      rw [e]
      refine drew_call (dr_once hb a4 60) fun v c5 a5 ⟨o, e⟩ => ?_
      subst e
      simp (disch := first | omega | (simp only [List.length_append, List.length_cons, List.length_nil, List.length_map, mk_size, nat_cast_eq]; omega)) only [↓unn_nil, ↓unc_cons, ↓asI_int, ↓asB_bool, ↓asRs_rs, ↓asOp_op]
      refine got_br (fun _ => ?_) fun _ => drew_some a5 ⟨p.set k y, rfl, ?_, .inl (by simpa using hl)⟩
      · refine drew_call (dr_below hb a5 _) fun v c6 a6 ⟨m, e, m0, m1⟩ => ?_
        subst e
        have := m1 (by omega)
        obtain ⟨k, hk⟩ := Int.eq_ofNat_of_zero_le m0
        subst hk
        simp (disch := first | omega | (simp only [List.length_append, List.length_cons, List.length_nil, List.length_map, mk_size, nat_cast_eq]; omega)) only [↓unn_nil, ↓unc_cons, ↓asI_int, ↓asRs_rs, ↓asOp_op]
        exact fin a6 (by omega)
      · intro z hz
        rcases List.mem_or_eq_of_mem_set hz with hz | hz
        · exact hp z hz
        · rw [hz]; exact hy
    · refine drew_call (dr_once hb a2 60) fun v c5 a5 ⟨o, e⟩ => ?_
      subst e
      simp (disch := first | omega | (simp only [List.length_append, List.length_cons, List.length_nil, List.length_map, mk_size, nat_cast_eq]; omega)) only [↓unn_nil, ↓unc_cons, ↓asI_int, ↓asB_bool, ↓asRs_rs, ↓asOp_op]
      refine got_br (fun _ => ?_) fun _ => drew_some a5 ⟨p, rfl, hp, .inl hl⟩
      refine drew_call (dr_below hb a5 _) fun v c6 a6 ⟨m, e, m0, m1⟩ => ?_
      subst e
      have := m1 (by omega)
      obtain ⟨k, hk⟩ := Int.eq_ofNat_of_zero_le m0
      subst hk
      simp (disch := first | omega | (simp only [List.length_append, List.length_cons, List.length_nil, List.length_map, mk_size, nat_cast_eq]; omega)) only [↓unn_nil, ↓unc_cons, ↓asI_int, ↓asRs_rs, ↓asOp_op]
      exact fin a6 (by omega)
  · refine drew_call (dr_once hb a1 60) fun v c5 a5 ⟨o, e⟩ => ?_
    subst e
    simp (disch := first | omega | (simp only [List.length_append, List.length_cons, List.length_nil, List.length_map, mk_size, nat_cast_eq]; omega)) only [↓unn_nil, ↓unc_cons, ↓asI_int, ↓asB_bool, ↓asRs_rs, ↓asOp_op]
    refine got_br (fun _ => ?_) fun _ => drew_some a5 ⟨p, rfl, hp, .inl hl⟩
    refine drew_call (dr_below hb a5 _) fun v c6 a6 ⟨m, e, m0, m1⟩ => ?_
    subst e
    have := m1 (by omega)
    obtain ⟨k, hk⟩ := Int.eq_ofNat_of_zero_le m0
    subst hk
    simp (disch := first | omega | (simp only [List.length_append, List.length_cons, List.length_nil, List.length_map, mk_size, nat_cast_eq]; omega)) only [↓unn_nil, ↓unc_cons, ↓asI_int, ↓asRs_rs, ↓asOp_op]
    exact fin a6 (by omega)
/-- an end of a pool, or a number beside it -/
theorem dr_at (hb : b.length < 4611686018427387904) (h : CurOk b c) {p : List Nd} (hp : p.length ≤ 4000) : Drew b (fun v => ∃ m : Int, v = .int .i64 m ∧ -1 ≤ m ∧ m ≤ 4000) (V 66 [eC b c, eP p]) := by
  have pk : ∀ {c : Int × Int}, CurOk b c → Drew b (fun v => ∃ m : Int, v = .int .i64 m ∧ m ∈ [-1, 0, (p.length : Int)]) (V 123 [eC b c, .rs (1, 0) [.int .i64 (-1), .int .i64 0, .int .i64 (p.length : Int)]]) := fun h => dr_pickInt hb h [-1, 0, (p.length : Int)] (by simp)
  have fin : ∀ {m : Int}, m ∈ [-1, 0, (p.length : Int)] → -1 ≤ m ∧ m ≤ 4000 := by
    intro m hm
    simp only [List.mem_cons, List.not_mem_nil, or_false] at hm
    omega
  rw [espec_l2DrawAt, List.length_map]
  refine got_br (fun _ => ?_) fun h0 => ?_
  · refine drew_call (pk h) fun v c1 a1 ⟨m, e, hm⟩ => ?_
    subst e
    simp (disch := first | omega | (simp only [List.length_append, List.length_cons, List.length_nil, List.length_map, mk_size, nat_cast_eq]; omega)) only [↓unn_nil, ↓unc_cons, ↓asI_int, ↓asRs_rs, ↓asOp_op]
    exact drew_some a1 ⟨m, rfl, fin hm⟩
  refine drew_call (dr_once hb h 20) fun v c1 a1 ⟨o, e⟩ => ?_
  subst e
  simp (disch := first | omega | (simp only [List.length_append, List.length_cons, List.length_nil, List.length_map, mk_size, nat_cast_eq]; omega)) only [↓unn_nil, ↓unc_cons, ↓asI_int, ↓asB_bool, ↓asRs_rs, ↓asOp_op]
  refine got_br (fun _ => ?_) fun _ => ?_
  · refine drew_call (pk a1) fun v c1 a1 ⟨m, e, hm⟩ => ?_
    subst e
    simp (disch := first | omega | (simp only [List.length_append, List.length_cons, List.length_nil, List.length_map, mk_size, nat_cast_eq]; omega)) only [↓unn_nil, ↓unc_cons, ↓asI_int, ↓asRs_rs, ↓asOp_op]
    exact drew_some a1 ⟨m, rfl, fin hm⟩
  refine got_val (v_l1Min _ _) ?_
  simp (disch := first | omega | (simp only [List.length_append, List.length_cons, List.length_nil, List.length_map, mk_size, nat_cast_eq]; omega)) only [↓unn_nil, ↓asI_int]
  refine drew_call (dr_below hb a1 _) fun v c2 a2 ⟨m, e, m0, m1⟩ => ?_
  subst e
  simp (disch := first | omega | (simp only [List.length_append, List.length_cons, List.length_nil, List.length_map, mk_size, nat_cast_eq]; omega)) only [↓unn_nil, ↓unc_cons, ↓asI_int, ↓asRs_rs, ↓asOp_op]
  have hne : p.length ≠ 0 := by
    intro e
    rw [e] at h0
    exact absurd h0 (by decide)
  have hmn : m < mnI (ni p.length) 9 := m1 (by unfold mnI; simp only [ni]; split <;> omega)
  have hm9 : m < p.length ∧ m < 9 := by
    unfold mnI at hmn
    simp only [ni] at hmn
    split at hmn <;> omega
  rw [w64 (n := ni p.length - 1) (by simp only [ni]; omega) (by simp only [ni]; omega), w64 (by simp only [ni]; omega) (by simp only [ni]; omega)]
  exact drew_some a2 ⟨_, rfl, by simp only [ni]; omega, by simp only [ni]; omega⟩
noncomputable def IsInts (v : D) : Prop := ∃ l : List Int, v = .os (1, 0) (l.map eI) ∧ l.length ≤ 4 ∧ ∀ x ∈ l, -1 ≤ x ∧ x ≤ 4000
theorem dr_roots_loop (hb : b.length < 4611686018427387904) {p : List Nd} (hp : p.length ≤ 4000) : ∀ (k i : Nat) (c : Int × Int) (l : List Int), i + k = 4 → CurOk b c → l.length ≤ i → (∀ x ∈ l, -1 ≤ x ∧ x ≤ 4000) → Drew b IsInts (Lspec_l7DrawRoots_3 (i : Int) (b.map eB) c.1 c.2 (p.map eN) (l.map eI))
  | k, i, c, l, hi, hc, hl, hx => by
    rw [Lspec_l7DrawRoots_3_eq]
    refine drew_call (dr_below hb hc _) fun v c1 a1 ⟨m, e, m0, m1⟩ => ?_
    subst e
    have hm := m1 (by omega)
    simp (disch := first | omega | (simp only [List.length_append, List.length_cons, List.length_nil, List.length_map, mk_size, nat_cast_eq]; omega)) only [↓unn_nil, ↓unc_cons, ↓asI_int, ↓asRs_rs, ↓asOp_op, ↓nam_eq]
    refine got_br (fun h => ?_) fun h => drew_some a1 ⟨l, rfl, by omega, hx⟩
    have h := of_decide_eq_true h
    cases k with
    | zero => omega
    | succ k =>
    refine drew_call (dr_at hb a1 hp) fun v c2 a2 ⟨n, e, hn⟩ => ?_
    subst e
    simp (disch := first | omega | (simp only [List.length_append, List.length_cons, List.length_nil, List.length_map, mk_size, nat_cast_eq]; omega)) only [↓unn_nil, ↓unc_cons, ↓asI_int, ↓asRs_rs, ↓asOp_op]
    have e : l.map eI ++ [D.int .i64 n] = (l ++ [n]).map eI := by simp
    rw [grd_of (lim_int (by omega) _), e, w64s (by omega)]
    refine dr_roots_loop hb hp k (i + 1) c2 (l ++ [n]) (by omega) a2 (by simp; omega) ?_
    intro y hy
    rcases List.mem_append.1 hy with hy | hy
    · exact hx y hy
    · simp at hy; subst hy; exact hn
theorem dr_roots (hb : b.length < 4611686018427387904) (h : CurOk b c) {p : List Nd} (hp : p.length ≤ 4000) : Drew b IsInts (V 54 [eC b c, eP p]) := by
  rw [espec_l7DrawRoots]
  exact dr_roots_loop hb hp 4 0 c [] rfl h (by simp) (by simp)
end
theorem pool_len {p : List Nd} (h : p.length ≤ 15 ∨ (p.length ≤ 3001 ∧ ∀ x ∈ p, x.kind = 1)) : p.length ≤ 3001 := by omega
theorem dr_keep {b : List Int} (hb : b.length < 4611686018427387904) : ∃ (p : List Nd) (l : List Int), V 12 [.rs (1, 0) (b.map eB)] = some (.tup [eP p, .os (1, 0) (l.map eI)], []) ∧ Shrt p ∧ p.length ≤ 3001 ∧ l.length ≤ 4 := by
  obtain ⟨c, e, hc⟩ := cur_new hb
  obtain ⟨v, _, e2, c2, rfl, a2, p, rfl, hp, hl⟩ := dr_draw hb hc
  have hl := pool_len hl
  obtain ⟨v, _, e3, c3, rfl, a3, l, rfl, hl4, _⟩ := dr_roots hb a2 (p := p) (by omega)
  refine ⟨p, l, ?_, hp, hl, hl4⟩
  rw [espec_DrawKeep]
  simp (disch := first | omega | (simp only [List.length_append, List.length_cons, List.length_nil, List.length_map, mk_size, nat_cast_eq]; omega)) only [↓ocall_ocont, ocont_some, ↓unn_nil, ↓unc_cons, ↓asI_int, ↓asOs_os, ↓asRs_rs, ↓asAgg_agg, ↓asOp_op, e, e2, e3]
end Go.Eng
