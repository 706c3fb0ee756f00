/- what is written of a value: the reference's side -/
import Derived.Test.YtgoidfkdnkjojaaKeep2
import Derived.Test.YtgoidfkdnkjojaaDig
namespace Go.Eng
open Go.Proofs Go.Proofs.Try

/-- a value without parts -/
noncomputable def atomB (x : Nd) : List UInt8 :=
  if x.kind = 1 then [40, 41]
  else if x.kind = 2 then (if x.n = 1 then [35, 116] else [35, 102])
  else if x.kind = 3 then digI x.n
  else if x.kind = 4 then x.s.data.toList
  else if x.kind = 6 then [35, 102, 117, 110] ++ digI x.n
  else if x.kind = 7 then [35, 107, 111, 110, 116] ++ digI x.n
  else if x.kind = 8 then [35, 112, 114, 105, 109] ++ digI x.n
  else [35, 112, 105, 100] ++ digI x.n
/-- a value (false), or what follows the first of a pair (true), put behind a text -/
noncomputable def wr (p : List Nd) : Nat → Bool → Nat → List UInt8 → List UInt8
  | 0, _, _, out => out
  | g + 1, false, v, out => if out.length > 400 then out else
    match p[v]? with
    | some x => if x.kind = 5 then wr p g true x.b.toNat (wr p g false x.a.toNat (out ++ [40])) else out ++ atomB x
    | none => out
  | g + 1, true, v, out =>
    match p[v]? with
    | some x => if x.kind = 5 ∧ out.length ≤ 400 then wr p g true x.b.toNat (wr p g false x.a.toNat (out ++ [32]))
      else if x.kind = 1 then out ++ [41] else wr p g false v (out ++ [32, 46, 32]) ++ [41]
    | none => out
theorem nmOk_len {s : ByteArray} (h : nmOk s = true) : s.size ≤ 12 := by
  simp only [nmOk, Bool.and_eq_true, wi, decide_eq_true_eq] at h; omega
theorem okN_digits {x : Nd} {h : Int} (ho : okN x h = true) (hk : x.kind ≠ 4) : x.n.natAbs ≤ 1000000000 := by
  unfold okN at ho
  repeat' split at ho
  all_goals (try simp only [Bool.and_eq_true, wi, decide_eq_true_eq] at ho)
  all_goals (first | omega | (cases ho))
theorem okN_name {x : Nd} {h : Int} (ho : okN x h = true) (hk : x.kind = 4) : nmOk x.s = true := by
  simp [okN, hk] at ho; exact ho.2.1
theorem digI_len12 {n : Int} (h : n.natAbs ≤ 1000000000) : (digI n).length ≤ 12 := by
  have := digU_len 9 n.natAbs (by simpa using (by omega : n.natAbs < 10000000000))
  unfold digI; split <;> simp <;> omega
theorem atomB_len {x : Nd} {h : Int} (ho : okN x h = true) : (atomB x).length ≤ 40 := by
  by_cases h4 : x.kind = 4
  · have := nmOk_len (okN_name ho h4)
    have e : x.s.data.toList.length = x.s.size := by rw [Array.length_toList]; rfl
    simp [atomB, h4]
    omega
  · have := digI_len12 (okN_digits ho h4)
    unfold atomB
    repeat' split
    all_goals (first | contradiction | (simp; done) | (simp; omega) | omega)
/-- how long it becomes -/
theorem wr_len {p : List Nd} (hp : okPool p = true) : ∀ (g : Nat) (m : Bool) (v : Nat) (out : List UInt8),
    (out.length ≤ 400 → (wr p g m v out).length ≤ 400 + 50 * v + (if m then 50 else 45)) ∧ (400 < out.length → (wr p g m v out).length ≤ out.length + (if m then 4 else 0))
  | 0, m, v, out => by simp only [wr]; exact ⟨fun h => by split <;> omega, fun h => by split <;> omega⟩
  | g + 1, false, v, out => by
    simp only [wr]
    refine ⟨fun h => ?_, fun h => by rw [if_pos h]; simp⟩
    rw [if_neg (by omega)]
    split
    · rename_i x hx
      have ho := okPool_get hp hx
      split
      · rename_i h5
        have hk := okN_pair ho h5
        have h1 := wr_len hp g false x.a.toNat (out ++ [40])
        have h2 := wr_len hp g true x.b.toNat (wr p g false x.a.toNat (out ++ [40]))
        simp only [List.length_append, List.length_cons, List.length_nil, Bool.false_eq_true, if_false, if_true] at h1 h2 ⊢
        by_cases c1 : out.length + 1 ≤ 400
        · have h3 := h1.1 c1
          by_cases c2 : (wr p g false x.a.toNat (out ++ [40])).length ≤ 400
          · have := h2.1 c2; omega
          · have := h2.2 (by omega); omega
        · have h3 := h1.2 (by omega)
          by_cases c2 : (wr p g false x.a.toNat (out ++ [40])).length ≤ 400
          · have := h2.1 c2; omega
          · have := h2.2 (by omega); omega
      · have := atomB_len ho
        simp only [List.length_append, Bool.false_eq_true, if_false]; omega
    · simp; omega
  | g + 1, true, v, out => by
    simp only [wr]
    split
    · rename_i x hx
      have ho := okPool_get hp hx
      split
      · rename_i h5
        have hk := okN_pair ho h5.1
        have h1 := wr_len hp g false x.a.toNat (out ++ [32])
        have h2 := wr_len hp g true x.b.toNat (wr p g false x.a.toNat (out ++ [32]))
        simp only [List.length_append, List.length_cons, List.length_nil, Bool.false_eq_true, if_false, if_true] at h1 h2 ⊢
        refine ⟨fun h => ?_, fun h => by omega⟩
        by_cases c1 : out.length + 1 ≤ 400
        · have h3 := h1.1 c1
          by_cases c2 : (wr p g false x.a.toNat (out ++ [32])).length ≤ 400
          · have := h2.1 c2; omega
          · have := h2.2 (by omega); omega
        · have h3 := h1.2 (by omega)
          by_cases c2 : (wr p g false x.a.toNat (out ++ [32])).length ≤ 400
          · have := h2.1 c2; omega
          · have := h2.2 (by omega); omega
      · split
        · simp only [List.length_append, List.length_cons, List.length_nil, if_true]; omega
        · have h1 := wr_len hp g false v (out ++ [32, 46, 32])
          simp only [List.length_append, List.length_cons, List.length_nil, Bool.false_eq_true, if_false, if_true] at h1 ⊢
          by_cases c1 : out.length + 3 ≤ 400
          · have := h1.1 c1; omega
          · have := h1.2 (by omega); omega
    · simp only [if_true]; omega

/-! ## the reference -/
theorem lim_mk {a b : List UInt8} (h : a.length + b.length ≤ 4294967296) : decide (ni ((mk a).size + (mk b).size) ≤ LIM) = true :=
  decide_eq_true (by rw [LIM_eq, mk_size, mk_size]; simp only [ni]; omega)
theorem lit1 (a : UInt8) : (⟨#[a]⟩ : ByteArray) = mk [a] := rfl
theorem lit2 (a b : UInt8) : (⟨#[a, b]⟩ : ByteArray) = mk [a, b] := rfl
theorem lit3 (a b c : UInt8) : (⟨#[a, b, c]⟩ : ByteArray) = mk [a, b, c] := rfl
theorem lit4 (a b c d : UInt8) : (⟨#[a, b, c, d]⟩ : ByteArray) = mk [a, b, c, d] := rfl
theorem lit5 (a b c d e : UInt8) : (⟨#[a, b, c, d, e]⟩ : ByteArray) = mk [a, b, c, d, e] := rfl
theorem full_mk (out : List UInt8) : decide (ni (mk out).size > 400) = decide (out.length > 400) := by
  rw [mk_size]; simp only [ni, gt_iff_lt]
  by_cases h : 400 < out.length
  · rw [decide_eq_true h, decide_eq_true (by omega)]
  · rw [decide_eq_false h, decide_eq_false (by omega)]
theorem okN_kind {x : Nd} {h : Int} (ho : okN x h = true) : 1 ≤ x.kind ∧ x.kind ≤ 9 := by
  unfold okN at ho
  repeat' split at ho
  all_goals (first | omega | (cases ho))
theorem spec_atom {p : List Nd} (hp : okPool p = true) {v : Nat} {x : Nd} (hx : p[v]? = some x) (h5 : ¬ x.kind = 5) {out : List UInt8} (ho : out.length ≤ 400) : V 69 [eP p, .int .i64 (v : Int), .str (mk out)] = some (.str (mk (out ++ atomB x)), []) := by
  have hok := okPool_get hp hx
  have hk := okN_kind hok
  have hv := lt_of_get hx
  have hdl : ∀ l : List UInt8, l.length ≤ 500 → decide (ni ((mk out).size + (mk l).size) ≤ LIM) = true := fun l h => lim_mk (by omega)
  rw [espec_l3Write, br_not (by rw [full_mk]; exact decide_eq_false (by omega)), grd_of (by rw [List.length_map]; exact in_idx hv), Int.toNat_natCast, oget_map hx, nd_all]
  by_cases h1 : x.kind = 1
  · rw [br_of (by simp [h1]), lit2, grd_of (hdl _ (by simp)), mk_append]; simp [atomB, h1]
  rw [br_not (by simp [h1])]
  by_cases h2 : x.kind = 2
  · rw [br_of (by simp [h2])]
    by_cases hn : x.n = 1
    · rw [br_of (by simp [hn]), lit2, grd_of (hdl _ (by simp)), mk_append]; simp [atomB, h2, hn]
    · rw [br_not (by simp [hn]), lit2, grd_of (hdl _ (by simp)), mk_append]; simp [atomB, h2, hn]
  rw [br_not (by simp [h2])]
  by_cases h4 : x.kind = 4
  · have hn := nmOk_len (okN_name hok h4)
    have e : x.s.data.toList.length = x.s.size := by rw [Array.length_toList]; rfl
    rw [br_not (by simp [h4]), br_of (by simp [h4]), ← mk_of x.s, grd_of (hdl _ (by omega)), mk_append]; simp [atomB, h4]
  have hd := okN_digits hok h4
  have hdg := v_l3Digits (n := x.n) (by omega)
  have hdn := digI_len12 hd
  by_cases h3 : x.kind = 3
  · rw [br_of (by simp [h3]), oc_s_l3Digits hdg, grd_of (hdl _ (by omega)), mk_append]; simp [atomB, h3]
  rw [br_not (by simp [h3]), br_not (by simp [h4])]
  by_cases h6 : x.kind = 6
  · rw [br_of (by simp [h6]), lit4, grd_of (hdl _ (by simp)), oc_s_l3Digits hdg, mk_append, grd_of (lim_mk (by simp; omega)), mk_append]; simp [atomB, h6]
  rw [br_not (by simp [h6])]
  by_cases h7 : x.kind = 7
  · rw [br_of (by simp [h7]), lit5, grd_of (hdl _ (by simp)), oc_s_l3Digits hdg, mk_append, grd_of (lim_mk (by simp; omega)), mk_append]; simp [atomB, h7]
  rw [br_not (by simp [h7])]
  by_cases h8 : x.kind = 8
  · rw [br_of (by simp [h8]), lit5, grd_of (hdl _ (by simp)), oc_s_l3Digits hdg, mk_append, grd_of (lim_mk (by simp; omega)), mk_append]; simp [atomB, h8]
  have h9 : x.kind = 9 := by omega
  rw [br_not (by simp [h8]), br_of (by simp [h9]), lit4, grd_of (hdl _ (by simp)), oc_s_l3Digits hdg, mk_append, grd_of (lim_mk (by simp; omega)), mk_append]; simp [atomB, h9]

theorem wr_small {p : List Nd} (hp : okPool p = true) (g : Nat) {v : Nat} (hv : v < p.length) {out : List UInt8} (h : out.length ≤ 401) : (wr p g false v out).length ≤ 200000 := by
  have hl := okPool_len hp
  have h1 := wr_len hp g false v out
  simp only [Bool.false_eq_true, if_false] at h1
  by_cases c : out.length ≤ 400
  · have := h1.1 c; omega
  · have := h1.2 (by omega); omega
theorem spec_write {p : List Nd} (hp : okPool p = true) : ∀ (g : Nat),
    (∀ (v : Nat) (out : List UInt8), v < p.length → 2 * v + 1 ≤ g → out.length ≤ 300010 → V 69 [eP p, .int .i64 (v : Int), .str (mk out)] = some (.str (mk (wr p g false v out)), [])) ∧
    (∀ (b : Nat) (k n : Int) (s : ByteArray) (a : Int) (out : List UInt8), b < p.length → 2 * b + 2 ≤ g → out.length ≤ 300000 → Lspec_l3Write_24 (mk out) (p.map eN) k n s a (b : Int) = some (.str (mk (wr p g true b out)), []))
  | 0 => ⟨fun v out _ h _ => by omega, fun b k n s a out _ h _ => by omega⟩
  | g + 1 => by
    obtain ⟨ihv, iht⟩ := spec_write hp g
    have hl := okPool_len hp
    refine ⟨fun v out hv hg ho => ?_, fun b k n s a out hb hg ho => ?_⟩
    · obtain ⟨x, hx⟩ := get_of_lt hv
      have hok := okPool_get hp hx
      by_cases hf : out.length > 400
      · rw [espec_l3Write, br_of (by rw [full_mk]; exact decide_eq_true hf)]
        simp only [wr, if_pos hf]
      by_cases h5 : x.kind = 5
      · have hk := okN_pair hok h5
        obtain ⟨ka, hka⟩ := Int.eq_ofNat_of_zero_le hk.1
        obtain ⟨kb, hkb⟩ := Int.eq_ofNat_of_zero_le hk.2.2.1
        have h1 := ihv ka (out ++ [40]) (by omega) (by omega) (by simp; omega)
        have hs := wr_small hp g (v := ka) (by omega) (out := out ++ [40]) (by simp; omega)
        have h2 := iht kb x.kind x.n x.s x.a (wr p g false ka (out ++ [40])) (by omega) (by omega) (by omega)
        rw [espec_l3Write, br_not (by rw [full_mk]; exact decide_eq_false hf), grd_of (by rw [List.length_map]; exact in_idx hv), Int.toNat_natCast, oget_map hx, nd_all, br_not (by simp [h5]), br_not (by simp [h5]), br_not (by simp [h5]), br_not (by simp [h5]), br_not (by simp [h5]), br_not (by simp [h5]), br_not (by simp [h5]), br_not (by simp [h5]), lit1, grd_of (lim_mk (by simp; omega)), mk_append]
        rw [← hka] at h1
        rw [oc_s_l3Write h1, hkb]
        have e : wr p (g + 1) false v out = wr p g true kb (wr p g false ka (out ++ [40])) := by
          simp only [wr, if_neg hf, hx, h5, if_true, hka, hkb, Int.toNat_natCast]
        rw [e]
        exact h2
      · rw [spec_atom hp hx h5 (by omega)]
        simp only [wr, if_neg hf, hx, if_neg h5]
    · obtain ⟨x, hx⟩ := get_of_lt hb
      have hok := okPool_get hp hx
      rw [Lspec_l3Write_24_eq, grd_of (by rw [List.length_map]; exact in_idx hb), Int.toNat_natCast, oget_map hx, nd_0]
      have tail : ¬ (x.kind = 5 ∧ out.length ≤ 400) → (grd (decide (0 ≤ (b : Int)) && decide ((b : Int) < ni (p.map eN).length)) (oget (p.map eN) b fun x67 =>
          asAgg x67 fun l68 => oget l68 0 fun x69 => asI .i64 x69 fun n70 => br (n70 != 1)
            (grd (decide (ni (ByteArray.size (mk out) + ByteArray.size { data := #[32, 46, 32] }) ≤ LIM)) (ocall V 69 [(.agg [(.rs (5, 0) (p.map eN))]), (.int .i64 (b : Int)), (.str (mk out ++ { data := #[32, 46, 32] }))] fun x71 l72 => asS x71 fun s73 => unn l72 (grd (decide (ni (ByteArray.size s73 + ByteArray.size { data := #[41] }) ≤ LIM)) (some ((D.str (s73 ++ { data := #[41] })), ([] : List D))))))
            (grd (decide (ni (ByteArray.size (mk out) + ByteArray.size { data := #[41] }) ≤ LIM)) (some ((.str (mk out ++ { data := #[41] })), []))))) = some (.str (mk (wr p (g + 1) true b out)), []) := by
        intro hc
        rw [grd_of (by rw [List.length_map]; exact in_idx hb), oget_map hx, nd_0]
        by_cases h1 : x.kind = 1
        · rw [br_not (by simp [h1]), lit1, grd_of (lim_mk (by simp; omega)), mk_append]
          simp only [wr, hx, if_neg hc, if_pos h1]
        · have hv := ihv b (out ++ [32, 46, 32]) hb (by omega) (by simp; omega)
          have hlen := wr_len hp g false b (out ++ [32, 46, 32])
          simp only [List.length_append, List.length_cons, List.length_nil, Bool.false_eq_true, if_false] at hlen
          have hle : (wr p g false b (out ++ [32, 46, 32])).length ≤ 400000 := by
            by_cases c : out.length + 3 ≤ 400
            · have := hlen.1 c; omega
            · have := hlen.2 (by omega); omega
          rw [br_of (by simp [h1]), lit3, lit1, grd_of (lim_mk (by simp; omega)), mk_append, oc_s_l3Write hv, grd_of (lim_mk (by simp; omega)), mk_append]
          simp only [wr, hx, if_neg hc, if_neg h1]
      by_cases h5 : x.kind = 5
      · by_cases hf : out.length ≤ 400
        · have hk := okN_pair hok h5
          obtain ⟨ka, hka⟩ := Int.eq_ofNat_of_zero_le hk.1
          obtain ⟨kb, hkb⟩ := Int.eq_ofNat_of_zero_le hk.2.2.1
          have h1 := ihv ka (out ++ [32]) (by omega) (by omega) (by simp; omega)
          have hs := wr_small hp g (v := ka) (by omega) (out := out ++ [32]) (by simp; omega)
          have h2 := iht kb x.kind x.n x.s x.a (wr p g false ka (out ++ [32])) (by omega) (by omega) (by omega)
          rw [← hka] at h1
          rw [br_of (by simp [h5]), br_of (by rw [mk_size]; exact decide_eq_true (by simp only [ni]; omega)), grd_of (by rw [List.length_map]; exact in_idx hb), oget_map hx, nd_all, lit1, grd_of (lim_mk (by simp; omega)), mk_append, oc_s_l3Write h1, hkb]
          have e : wr p (g + 1) true b out = wr p g true kb (wr p g false ka (out ++ [32])) := by
            simp only [wr, hx, h5, hf, and_self, if_true, hka, hkb, Int.toNat_natCast]
          rw [e]
          exact h2
        · rw [br_of (by simp [h5]), br_not (by rw [mk_size]; exact decide_eq_false (by simp only [ni]; omega))]
          exact tail (fun h => hf h.2)
      · rw [br_not (by simp [h5])]
        exact tail (fun h => h5 h.1)

/-- what is written of a value; nothing where it is too long -/
noncomputable def writeP (p : List Nd) (v : Int) : List UInt8 :=
  if okPool p = true ∧ wi v 0 ((p.length : Int) - 1) = true then (if (wr p (2 * v.toNat + 1) false v.toNat []).length > 400 then [] else wr p (2 * v.toNat + 1) false v.toNat []) else []
theorem v_spec_Write {p : List Nd} (hf : Fits p) (hl : p.length < 4611686018427387904) (v : Int) : V 20 [eP p, .int .i64 v] = some (.str (mk (writeP p v)), []) := by
  rw [espec_Write, oc_s_PoolOk (v_spec_PoolOk hf hl)]
  unfold writeP
  cases hp : okPool p with
  | false => rw [Bool.not_false, br_true, if_neg (by simp)]; rfl
  | true =>
    rw [Bool.not_true, br_false, oc_s_l2Has (v_l2Has hl v)]
    cases hv : wi v 0 ((p.length : Int) - 1) with
    | false => rw [Bool.not_false, br_true, if_neg (by simp)]; rfl
    | true =>
      have h := wi_iff.1 hv
      obtain ⟨n, rfl⟩ := Int.eq_ofNat_of_zero_le h.1
      have hw := (spec_write hp (2 * n + 1)).1 n [] (by omega) (Nat.le_refl _) (by simp)
      rw [Bool.not_true, br_false, if_pos ⟨rfl, rfl⟩, show (⟨#[]⟩ : ByteArray) = mk [] from rfl, oc_s_l3Write hw, full_mk, Int.toNat_natCast]
      by_cases hc : (wr p (2 * n + 1) false n []).length > 400
      · rw [br_of (decide_eq_true hc), if_pos hc]
      · rw [br_not (decide_eq_false hc), if_neg hc]
end Go.Eng
