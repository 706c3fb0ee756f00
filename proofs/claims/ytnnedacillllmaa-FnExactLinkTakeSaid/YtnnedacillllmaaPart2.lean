/- the program and the reference on plain data, part 2 -/
import Derived.Test.YtnnedacillllmaaPart1
/-! slices.Insert: what the cut says of it is so -/
namespace Go.Eng
open Go.Proofs Go.Proofs.Try Go.Lib

theorem scal_nil {w : World} {B : Nat → Prop} {c : D} {v : Value} {o : List Res} (hc : scal c = true) (h : repD w B c v o) : o = [] := by
  cases c <;> first | (simp only [repD] at h; exact h.2) | cases hc
theorem scals_nil {w : World} {B : Nat → Prop} : ∀ {cs : List D} {vs : List Value} {o : List Res}, (∀ c ∈ cs, scal c = true) → repDs w B cs vs o → o = []
  | [], vs, o, _, h => by simp only [repDs] at h; exact h.2
  | c :: cs, vs, o, hc, h => by
    simp only [repDs] at h
    obtain ⟨v, vs', o1, o2, h1, h2, hi, h3, h4⟩ := h
    rw [h2, scal_nil (hc c (by simp)) h3, scals_nil (fun c hm => hc c (by simp [hm])) h4]; rfl
theorem els_nil {w : World} {B : Nat → Prop} {n : Nat} : ∀ {es : List D} {fl : List Value} {o : List Res}, elsRep w B (n, 0) es fl o → o = []
  | [], fl, o, h => h.2
  | e :: es, fl, o, h => by
    obtain ⟨vs, fr, o1, o2, rfl, rfl, h1, h2⟩ := h
    rw [scals_nil (fun c hc => h1.2.2 c hc) h1.1, els_nil h2]; rfl
theorem ins_came {w w' : World} {B : Nat → Prop} {L : Nat → List (Option Nat)} {o : List Res} {a b c : D} {v1 v2 v3 v : Value} {zs : List D} (ha : isIo .mv a = false) (hb : isIo .ro b = false) (hc : isIo .mv c = false) (hB : ∀ b, B b → b < w.heap.size) (h : InsDone w B o zs v w') :
    ∃ B' oR oI, CameBack (cf0.mode 32) L w B o [a, b, c] [v1, v2, v3] (.os (2, 0) zs, []) v w' B' oR oI := by
  obtain ⟨bk, hr, hch, hnb, hlt, hok⟩ := h
  refine ⟨B, [.arr bk], [], hch, fun _ h => h, fun b hb => ⟨Nat.lt_of_lt_of_le (hB b hb) hch.size, .inl hb⟩, hr, ?_, by simp [blks], ?_⟩
  · have e0 : cf0.mode 32 0 = .mv := rfl
    have e1 : cf0.mode 32 1 = .ro := rfl
    have e2 : cf0.mode 32 2 = .mv := rfl
    simp only [ioRep, e0, e1, e2, ha, hb, hc, Nat.zero_add]
    exact ⟨v1, [v2, v3], rfl, v2, [v3], rfl, v3, [], rfl, rfl, trivial, trivial⟩
  · intro q hq
    simp only [List.append_nil, List.mem_singleton] at hq
    subst hq
    exact ⟨hnb, hlt, hok⟩
theorem insP_meets {ds : List D} {r : Ret} (h : insP ds = some r) : Meets Try.prog (cf0.mode 32) 32 ds r := by
  unfold insP at h
  split at h
  case h_2 => cases h
  rename_i z xs i z2 y
  split at h
  case h_2 => cases h
  rename_i hcond
  injection h with h
  subst h
  simp only [Bool.and_eq_true, decide_eq_true_eq] at hcond
  obtain ⟨rfl, rfl, hi0, hil, hlim⟩ := hcond
  obtain ⟨i, rfl⟩ := Int.eq_ofNat_of_zero_le hi0
  have hil : i ≤ xs.length := by omega
  intro fn hfn w B L pv cv o hargs hcv hnod hown hB
  have hfe := hfn.symm.trans Try.func32
  injection hfe with hfe
  have hps : fn.params.size = 3 := by rw [hfe]; kernel_rfl
  rw [hps] at hargs hcv ⊢
  simp only [List.take_succ_cons, List.take_nil, List.drop_succ_cons, List.drop_nil] at hargs hcv ⊢
  simp only [repVs] at hcv
  obtain ⟨rfl, -⟩ := hcv
  have e0 : cf0.mode 32 0 = .mv := rfl
  have e1 : cf0.mode 32 1 = .ro := rfl
  have e2 : cf0.mode 32 2 = .mv := rfl
  simp only [argsRep, e0, e1, e2, Nat.zero_add, argRep] at hargs
  obtain ⟨v1, _, o1, _, rfl, rfl, h1, v2, _, o2, _, rfl, rfl, h2, v3, _, o3, _, rfl, rfl, h3, rfl, rfl⟩ := hargs
  have h2' : v2 = .int .i64 i ∧ o2 = [] := by simpa only [repD] using h2
  obtain ⟨rfl, rfl⟩ := h2'
  simp only [repD] at h3
  rcases h3 with ⟨h3, -⟩ | ⟨vb, voff, vc, cv, tyv, frv, o3', rfl, hvc, hvh, huv, hvl, hve, rfl⟩
  · cases h3
  obtain ⟨vs, hve, hvcell⟩ := els_of_repEs hve
  obtain rfl := els_nil hve
  simp only [List.length_cons, List.length_nil, Nat.zero_add] at hvc ⊢
  have hvl' := hvl (by omega)
  have hvl2 : voff + 2 ≤ cv.size := by have : 1 * 2 ≤ vc * 2 := Nat.mul_le_mul_right 2 hvc; omega
  have hoB : ∀ q ∈ o1 ++ ([] ++ ([.arr vb] ++ [])), ¬ B q.blk := fun q hq => (hown q hq).1
  have hI0 : ∀ (z : Z) (l : List D), isIo .mv (.os z l) = false := fun _ _ => rfl
  have hI1 : ∀ (k : IntKind) (n : Int), isIo .ro (.int k n) = false := fun _ _ => rfl
  simp only [List.append_nil]
  refine Calls.mono (R := fun e w' => ∃ v, e = .returned v ∧ InsDone w B (o1 ++ ([] ++ ([.arr vb] ++ []))) (xs.take i ++ y :: xs.drop i) v w') ?_ fun e w' ⟨v, he, hd⟩ => ?_
  case refine_2 =>
    exact ⟨v, (ins_came (hI0 _ _) (hI1 _ _) (hI0 _ _) hB hd).imp fun B' ⟨oR, oI, h⟩ => ⟨oR, oI, he, h⟩⟩
  simp only [repD] at h1
  rcases h1 with ⟨rfl, rfl, a, rfl⟩ | ⟨b, off, cap, c, ty, fr, o1', rfl, hcap, hh, hu, hcs, hes, rfl⟩
  · obtain rfl : i = 0 := by simpa using hil
    exact ins_new_end (xs := []) hB hoB hvcell hve ⟨rfl, rfl⟩ rfl (fun h => absurd rfl h) (by omega) (by omega)
  obtain ⟨cs, hes, hcell⟩ := els_of_repEs hes
  obtain rfl := els_nil hes
  have hne : vb ≠ b := by
    intro e
    subst e
    simp [blks, Res.blk] at hnod
  have hbo : Res.arr b ∈ [.arr b] ++ ([] ++ ([.arr vb] ++ [])) := by simp
  obtain ⟨n, hn⟩ : ∃ n, n = xs.length := ⟨_, rfl⟩
  rw [← hn] at hcap hil hlim ⊢
  have hroomc : n + 1 ≤ cap → off + cap * 2 ≤ c.size := fun h => hcs (by omega)
  rcases Nat.lt_or_ge i n with hin | hin
  · obtain ⟨f1, f2, p1, p2, rfl, hp, he1, he2⟩ := els_split (es := xs.take i) (fs := xs.drop i) (by rw [List.take_append_drop]; exact hes)
    have hp' := List.append_eq_nil_iff.1 hp.symm
    obtain ⟨rfl, rfl⟩ := hp'
    have l1 : (xs.take i).length = i := by rw [List.length_take]; omega
    have l2 : i + (xs.drop i).length = n := by rw [List.length_drop]; omega
    rcases Nat.lt_or_ge cap (n + 1) with hr | hr
    · exact ins_new_mid hB hoB (lt_size_of hh) (lt_size_of hvh) hcell hvcell hve he1 he2 l1 l2 hin hcap hr hlim
    · exact ins_room_mid hB hoB hbo hne hh hu (hroomc hr) hcell hvh huv hvl2 hvcell hve he1 he2 l1 l2 hin hr hlim
  · obtain rfl : i = n := by omega
    rw [List.take_of_length_le (by omega), List.drop_of_length_le (by omega)]
    rcases Nat.lt_or_ge cap (i + 1) with hr | hr
    · exact ins_new_end hB hoB hvcell hve hes hn.symm (fun _ => ⟨b, off, rfl, hcell⟩) hr hlim
    · exact ins_room_end hB hoB hbo hh hu (hroomc hr) hcell hvcell hve hes hn.symm hr
theorem ins_enters : Enters Try.prog 32 := ⟨_, Try.func32, by kernel_rfl, by kernel_rfl⟩
theorem ext_holds : SoundExt Try.prog cf0 := fun f F h => by
  by_cases hf : f = 32
  · subst hf
    have : F = insP := by
      have h' : some insP = some F := h
      injection h' with h'; exact h'.symm
    subst this
    exact fun ds r h => ⟨insP_meets h, ins_enters⟩
  · exfalso
    have hn : cf0.ext f = none := by
      unfold cf0
      simp only
    rw [hn] at h; cases h
end Go.Eng
/-! LinkTake of the program -/
namespace Go.Eng
open Go.Proofs Go.Proofs.Try

theorem v_insert {xs : List D} {i : Nat} (y : D) (hi : i ≤ xs.length) (hl : xs.length ≤ 1000) : V 32 [.os (2, 0) xs, .int .i64 i, .os (2, 0) [y]] = some (.os (2, 0) (xs.take i ++ y :: xs.drop i), []) := by
  refine (Vn_ext (F := insP) rfl _).trans ?_
  have hc : (decide (((2, 0) : Z) = (2, 0)) && (decide (((2, 0) : Z) = (2, 0)) && (decide (0 ≤ (i : Int)) && (decide ((i : Int) ≤ (xs.length : Int)) && decide (xs.length ≤ 1000))))) = true := by
    simp only [Bool.and_eq_true, decide_eq_true_eq]
    exact ⟨trivial, trivial, by omega, by omega, hl⟩
  have hd : insP [.os (2, 0) xs, .int .i64 i, .os (2, 0) [y]] = match (decide (((2, 0) : Z) = (2, 0)) && (decide (((2, 0) : Z) = (2, 0)) && (decide (0 ≤ (i : Int)) && (decide ((i : Int) ≤ (xs.length : Int)) && decide (xs.length ≤ 1000))))) with
    | true => some (.os (2, 0) (xs.take (i : Int).toNat ++ y :: xs.drop (i : Int).toNat), [])
    | false => none := rfl
  rw [hd, hc]
  rfl

/-! ## the search -/
theorem half_eq {i j : Nat} (h : i + j ≤ 1000000) : IntKind.wrap IntKind.i64 (Int.fdiv (IntKind.wrap IntKind.u64 (IntKind.wrap IntKind.i64 ((i : Int) + (j : Int)))) (2 ^ min (Int.toNat (1)) (IntKind.bits IntKind.u64))) = (((i + j) / 2 : Nat) : Int) := by
  have h1 : IntKind.wrap IntKind.i64 ((i : Int) + (j : Int)) = ((i + j : Nat) : Int) := by rw [w64 (by omega) (by omega)]; omega
  have h2 : IntKind.wrap IntKind.u64 ((i + j : Nat) : Int) = ((i + j : Nat) : Int) := IntWalk.u64_in _ (by omega)
  have h3 : (2 : Int) ^ min (Int.toNat (1)) (IntKind.bits IntKind.u64) = 2 := by decide
  have h4 : Int.fdiv ((i + j : Nat) : Int) 2 = (((i + j) / 2 : Nat) : Int) := by
    rw [Int.fdiv_eq_ediv_of_nonneg _ (by omega)]; omega
  rw [h1, h2, h3, h4, w64 (by omega) (by omega)]
/-- what a search finds -/
structure Found (l : List Pc) (n : Int) (r : Nat) (b : Bool) : Prop where
  lo : ∀ k q, k < r → l[k]? = some q → q.no < n
  hi : ∀ k q, r ≤ k → l[k]? = some q → n ≤ q.no
  eq : b = true ↔ ∃ q, l[r]? = some q ∧ q.no = n
noncomputable def Sorted (l : List Pc) : Prop := ∀ (i j : Nat) (p q : Pc), i < j → l[i]? = some p → l[j]? = some q → p.no < q.no
noncomputable def Near (l : List Pc) (n : Int) : Prop := ∀ q ∈ l, -4611686018427387904 ≤ q.no - n ∧ q.no - n ≤ 4611686018427387904
theorem bs_loop {l : List Pc} (hl : l.length ≤ 1000) (n : Int) : ∀ (k i j : Nat), j - i ≤ k → i ≤ j → j ≤ l.length →
    ∃ (r : Nat) (b : Bool), LBinarySearchFunc_Piece_3 (l.map eP) n (ni l.length) (i : Int) (j : Int) = some (.tup [.int .i64 r, .bool b], []) ∧ r ≤ l.length ∧
      (Near l n → Sorted l → (∀ k q, k < i → l[k]? = some q → q.no < n) → (∀ k q, j ≤ k → l[k]? = some q → n ≤ q.no) → Found l n r b) := by
  have fin : ∀ (i j : Nat), i = j → j ≤ l.length → ∃ (r : Nat) (b : Bool), LBinarySearchFunc_Piece_3 (l.map eP) n (ni l.length) (i : Int) (j : Int) = some (.tup [.int .i64 r, .bool b], []) ∧ r ≤ l.length ∧
      (Near l n → Sorted l → (∀ k q, k < i → l[k]? = some q → q.no < n) → (∀ k q, j ≤ k → l[k]? = some q → n ≤ q.no) → Found l n r b) := by
    intro i j e hj
    subst e
    rw [LBinarySearchFunc_Piece_3_eq, br_not (decide_eq_false (by omega))]
    by_cases hil : i < l.length
    · obtain ⟨x, hx⟩ := get_of_lt hil
      rw [br_of (lt_idx hil), grd_of (by rw [List.length_map]; exact in_idx hil), Int.toNat_natCast, oget_map hx, eP_mk x, asAgg_agg, unc_cons, asI_int, unc_cons, asS_str, unn_nil, ocall_some (eimpl_LinkTake_1 _ _ _), asI_int, unn_nil]
      refine ⟨i, _, rfl, by omega, fun hn hs h1 h2 => ⟨h1, h2, ?_⟩⟩
      have := hn x (List.mem_of_getElem? hx)
      rw [w64 (by omega) (by omega), beq_iff_eq]
      constructor
      · intro h; exact ⟨x, hx, by omega⟩
      · rintro ⟨q, hq, e⟩
        rw [hx] at hq; cases hq; omega
    · rw [br_not (ge_idx (by omega))]
      refine ⟨i, _, rfl, by omega, fun hn hs h1 h2 => ⟨h1, h2, ?_⟩⟩
      constructor
      · intro h; cases h
      · rintro ⟨q, hq, e⟩
        rw [List.getElem?_eq_none (by omega)] at hq; cases hq
  intro k
  induction k with
  | zero => exact fun i j h1 h2 h3 => fin i j (by omega) h3
  | succ k ih =>
    intro i j h1 h2 h3
    by_cases hij : i = j
    · exact fin i j hij h3
    have hm : (i + j) / 2 < l.length := by omega
    obtain ⟨x, hx⟩ := get_of_lt hm
    rw [LBinarySearchFunc_Piece_3_eq, br_of (decide_eq_true (by omega)), grd_of (by rfl), half_eq (by omega)]
    rw [grd_of (by rw [List.length_map]; exact in_idx hm), Int.toNat_natCast, oget_map hx, eP_mk x, asAgg_agg, unc_cons, asI_int, unc_cons, asS_str, unn_nil, ocall_some (eimpl_LinkTake_1 _ _ _), asI_int, unn_nil, w64s (by omega)]
    by_cases hc : IntKind.wrap IntKind.i64 (x.no - n) < 0
    · rw [br_of (decide_eq_true hc)]
      obtain ⟨r, b, e, hr, hf⟩ := ih ((i + j) / 2 + 1) j (by omega) (by omega) h3
      refine ⟨r, b, e, hr, fun hn hs g1 g2 => hf hn hs (fun t q ht hq => ?_) g2⟩
      have hb := hn x (List.mem_of_getElem? hx)
      rw [w64 (by omega) (by omega)] at hc
      rcases Nat.lt_or_ge t ((i + j) / 2) with h | h
      · have := hs t _ q x h hq hx; omega
      · have : t = (i + j) / 2 := by omega
        subst this
        rw [hx] at hq; cases hq; omega
    · rw [br_not (decide_eq_false hc)]
      obtain ⟨r, b, e, hr, hf⟩ := ih i ((i + j) / 2) (by omega) (by omega) (by omega)
      refine ⟨r, b, e, hr, fun hn hs g1 g2 => hf hn hs g1 (fun t q ht hq => ?_)⟩
      have hb := hn x (List.mem_of_getElem? hx)
      rw [w64 (by omega) (by omega)] at hc
      rcases Nat.lt_or_ge ((i + j) / 2) t with h | h
      · have := hs _ t x q h hx hq; omega
      · have : t = (i + j) / 2 := by omega
        subst this
        rw [hx] at hq; cases hq; omega
theorem v_search {l : List Pc} (hl : l.length ≤ 1000) (n : Int) : ∃ (r : Nat) (b : Bool), V 29 [.rs (2, 0) (l.map eP), .int .i64 n, .fn 30 []] = some (.tup [.int .i64 r, .bool b], []) ∧ r ≤ l.length ∧ (Near l n → Sorted l → Found l n r b) := by
  obtain ⟨r, b, e, hr, hf⟩ := bs_loop hl n l.length 0 l.length (by omega) (by omega) (Nat.le_refl _)
  refine ⟨r, b, ?_, hr, fun h1 h2 => hf h1 h2 (fun k q h _ => by omega) (fun k q h hq => ?_)⟩
  · rw [eBinarySearchFunc_Piece, List.length_map]; exact e
  · rw [List.getElem?_eq_none h] at hq; cases hq
theorem holdF_found {p : Pc} : ∀ {l : List Pc} {r : Nat} {b : Bool}, r ≤ l.length → Found l p.no r b → holdF p l = if b then l else l.take r ++ p :: l.drop r
  | [], r, b, hr, h => by
    cases b with
    | true => obtain ⟨q, hq, _⟩ := h.eq.1 rfl; simp at hq
    | false => simp [holdF]
  | q :: l, 0, b, hr, h => by
    have h0 := h.hi 0 q (Nat.le_refl _) rfl
    simp only [holdF]
    rw [if_pos (by omega)]
    cases b with
    | true =>
      obtain ⟨q', hq, e⟩ := h.eq.1 rfl
      cases hq
      rw [if_neg (by omega)]; rfl
    | false =>
      have : ¬ q.no = p.no := fun e => by have := h.eq.2 ⟨q, rfl, e⟩; cases this
      rw [if_pos (by omega)]; rfl
  | q :: l, r + 1, b, hr, h => by
    have h0 := h.lo 0 q (by omega) rfl
    have ih := holdF_found (p := p) (l := l) (r := r) (b := b) (by simpa using hr) ⟨fun k x hk hx => h.lo (k + 1) x (by omega) hx, fun k x hk hx => h.hi (k + 1) x (by omega) hx, h.eq⟩
    simp only [holdF]
    rw [if_neg (by omega), ih]
    cases b <;> rfl

/-! ## what is held by a good link -/
theorem heldFrom_get {l : Lk} : ∀ (k i : Nat), heldFrom l i k = true → ∀ j p, i ≤ j → j < i + k → l.held[j]? = some p → wi p.no (l.got + 1) (mnI (l.got + 4) l.sent - 1) = true ∧ prevOk l.held j p = true
  | 0, i, h, j, p, h1, h2, hp => by omega
  | k + 1, i, h, j, p, h1, h2, hp => by
    simp only [heldFrom, Bool.and_eq_true] at h
    rcases Nat.lt_or_ge i j with hij | hij
    · exact heldFrom_get k (i + 1) h.2 j p hij (by omega) hp
    · have : j = i := by omega
      subst this
      rw [hp] at h
      simpa using h.1
theorem held_facts {l : Lk} (h : okK l = true) : Sorted l.held ∧ (∀ q ∈ l.held, l.got + 1 ≤ q.no ∧ q.no ≤ l.got + 3) ∧ l.held.length ≤ 3 := by
  have hh : heldFrom l 0 l.held.length = true := by simp only [okK, Bool.and_eq_true] at h; exact h.2.2.2.2.2
  have hg := heldFrom_get l.held.length 0 hh
  have hm := mnI_le (l.got + 4) l.sent
  have hw : ∀ (j : Nat) p, l.held[j]? = some p → l.got + 1 ≤ p.no ∧ p.no ≤ l.got + 3 := by
    intro j p hp
    have := (hg j p (by omega) (by have := lt_of_get hp; omega) hp).1
    simp only [wi, Bool.and_eq_true, decide_eq_true_eq] at this
    omega
  have hstep : ∀ (j : Nat) p q, l.held[j]? = some p → l.held[j + 1]? = some q → p.no < q.no := by
    intro j p q hp hq
    have := (hg (j + 1) q (by omega) (by have := lt_of_get hq; omega) hq).2
    simp only [prevOk, hp, Bool.not_eq_true', decide_eq_false_iff_not] at this
    omega
  have hge : ∀ (d i : Nat) p q, l.held[i]? = some p → l.held[i + d]? = some q → p.no + d ≤ q.no := by
    intro d
    induction d with
    | zero => intro i p q hp hq; rw [Nat.add_zero, hp] at hq; cases hq; simp
    | succ d ih =>
      intro i p q hp hq
      obtain ⟨x, hx⟩ := get_of_lt (l := l.held) (i := i + d) (by have := lt_of_get hq; omega)
      have h1 := ih i p x hp hx
      have h2 := hstep (i + d) x q hx hq
      omega
  refine ⟨fun i j p q hij hp hq => ?_, fun q hq => ?_, ?_⟩
  · have := hge (j - i) i p q hp (by rw [show i + (j - i) = j by omega]; exact hq)
    omega
  · obtain ⟨j, hj⟩ := List.getElem?_of_mem hq
    exact hw j q hj
  · rcases Nat.lt_or_ge 3 l.held.length with h3 | h3
    · obtain ⟨a, ha⟩ := get_of_lt (l := l.held) (i := 0) (by omega)
      obtain ⟨b, hb⟩ := get_of_lt (l := l.held) (i := 3) h3
      have h1 := hge 3 0 a b ha (by simpa using hb)
      have h2 := hw 0 a ha
      have h4 := hw 3 b hb
      omega
    · exact h3
/-! ## what is handed up -/
theorem popI_loop {l : List Pc} {q : List D} (hl : l.length < 4294967295) (z0 z1 z2 sent acked : Int) : ∀ (k i : Nat) (up : List ByteArray) (g : Int), i + k = l.length → up.length ≤ i + 1 → 0 ≤ g → g ≤ 100001 + i →
    Limpl_LinkTake_11v1 z0 z1 z2 sent acked g i k (up.map .str) q (l.map eP) = some (.tup [.agg [.int .i64 sent, .int .i64 acked, .os (1, 0) q, .int .i64 (popF g (l.drop i)).2.1, .os (2, 0) ((popF g (l.drop i)).2.2.map eP)], .os (1, 0) ((up ++ (popF g (l.drop i)).1).map .str)], [])
  | 0, i, up, g, hi, hu, hg, hg2 => by
    rw [Limpl_LinkTake_11v1_eq, br_not (by simp [ni]), ocall_some (v_cloneP (by simp [part])), asOs_os, unn_nil, List.drop_of_length_le (by omega)]
    simp [popF, part]
  | k + 1, i, up, g, hi, hu, hg, hg2 => by
    obtain ⟨x, hx⟩ := get_of_lt (l := l) (i := i) (by omega)
    have hb : (decide (0 ≤ 0) && decide ((0 : Int) < ni (k + 1)) && decide (i + (k + 1) ≤ (l.map eP).length)) = true := by simp [ni]; omega
    have hlim : decide (ni (up.map D.str ++ [D.str x.text]).length ≤ LIM) = true := decide_eq_true (by simp only [ni, LIM_eq, List.length_append, List.length_map, List.length_cons, List.length_nil]; omega)
    have hcut : cutOkX (k + 1) ((l.map eP).length - i) (some 1) none = true := by simp [cutOkX]; omega
    have hpart : part (l.map eP) (some (i, k + 1)) = (l.drop i).map eP := by
      simp only [part, ← List.map_drop, ← List.map_take]
      rw [List.take_of_length_le (by rw [List.length_drop]; omega)]
    have hb0 : decide (ni (k + 1) > 0) = true := decide_eq_true (by simp only [ni]; omega)
    have e0 : i + Int.toNat 0 = i := rfl
    rw [Limpl_LinkTake_11v1_eq, br_of hb0, grd_of hb, e0, oget_map hx, eP_mk x, asAgg_agg, oget_lit0, asI_int, drop_at hx]
    unfold popF
    by_cases h : x.no = g
    · rw [br_of (by simp [h]), if_pos h, grd_of hb, oget_map hx, eP_mk x, asAgg_agg, oget_lit1, asS_str, grd_of hlim, nam_eq, grd_of hcut, w64 (by omega) (by omega)]
      have := popI_loop (q := q) hl z0 z1 z2 sent acked k (i + 1) (up ++ [x.text]) (g + 1) (by omega) (by simp; omega) (by omega) (by omega)
      simp only [List.map_append, List.map_cons, List.map_nil] at this
      refine this.trans ?_
      simp
    · rw [br_not (by simp [h]), if_neg h, hpart, ocall_some (v_cloneP (by simp; omega)), asOs_os, unn_nil, drop_at hx]
      simp
theorem popI_first {l : List Pc} {q : List D} (hl : l.length < 4294967295) (z0 z1 z2 sent acked : Int) (s : ByteArray) (g : Int) (hg : 0 ≤ g) (hg2 : g ≤ 100001) :
    Limpl_LinkTake_11 z0 z1 z2 sent acked g [D.str s] q (l.map eP) = some (.tup [.agg [.int .i64 sent, .int .i64 acked, .os (1, 0) q, .int .i64 (popF g l).2.1, .os (2, 0) ((popF g l).2.2.map eP)], .os (1, 0) ((s :: (popF g l).1).map .str)], []) := by
  cases l with
  | nil => rw [Limpl_LinkTake_11_eq, br_not (by rfl), ocall_some (v_cloneP (by simp)), asOs_os, unn_nil]; rfl
  | cons x r =>
    have hlen : r.length + 1 < 4294967295 := by simpa using hl
    have hb0 : decide (ni (List.map eP (x :: r)).length > 0) = true := decide_eq_true (by simp only [ni, List.map_cons, List.length_cons]; omega)
    have hb : (decide (0 ≤ 0) && decide ((0 : Int) < ni (List.map eP (x :: r)).length)) = true := by simp only [ni, List.map_cons, List.length_cons, Bool.and_eq_true, decide_eq_true_eq]; omega
    have hlim : decide (ni ([D.str s] ++ [D.str x.text]).length ≤ LIM) = true := decide_eq_true (by simp [ni, LIM_eq])
    have hcut : cutOk (List.map eP (x :: r)).length (some 1) none = true := by simp [cutOk]; omega
    have hx : (x :: r)[0]? = some x := rfl
    rw [Limpl_LinkTake_11_eq, br_of hb0, grd_of hb, oget_map hx, eP_mk x, asAgg_agg, oget_lit0, asI_int]
    unfold popF
    by_cases h : x.no = g
    · rw [br_of (by simp [h]), if_pos h, grd_of hb, oget_map hx, eP_mk x, asAgg_agg, oget_lit1, asS_str, grd_of hlim, nam_eq, grd_of hcut, w64 (by omega) (by omega)]
      have := popI_loop (q := q) hl z0 z1 z2 sent acked r.length 1 [s, x.text] (g + 1) (by simp; omega) (by simp) (by omega) (by omega)
      have e1 : (List.map eP (x :: r)).length - Int.toNat 1 = r.length := by simp
      rw [e1]
      exact this
    · rw [br_not (by simp [h]), if_neg h, ocall_some (v_cloneP (by simp; omega)), asOs_os, unn_nil]
      rfl
theorem v_impl_take {l : Lk} (h1 : l.queue.length < 4294967295) (h2 : l.held.length < 4294967295) (p : Pc) : V 11 [eK l, .agg [.int .i64 p.no, .str p.text]] = some (.tup [oK (takeF l p).1, .os (1, 0) ((takeF l p).2.map .str)], []) := by
  have hs := v_impl_okK (l := l) (by omega) (by omega)
  have hc := v_copyK (l := l) (by omega) (by omega)
  have e : V 11 [eK l, .agg [.int .i64 p.no, .str p.text]] = _ := eimpl_LinkTake l.sent l.acked (l.queue.map .str) l.got (l.held.map eP) p.no p.text
  rw [e]
  unfold eK at hs hc
  unfold oK at hc
  unfold takeF
  rw [ocall_some hs, asB_bool, unn_nil]
  cases hok : okK l with
  | false => rfl
  | true =>
    have hf := okK_facts hok
    obtain ⟨hso, hno, hl3⟩ := held_facts hok
    have hm := mnI_le (l.got + 4) l.sent
    obtain ⟨r, b, hsr, hr, hfd⟩ := v_search (l := l.held) (by omega) p.no
    rw [Bool.not_true, br_false, ocall_some hc, asAgg_agg, unc_cons, asI_int, unc_cons, asI_int, unc_cons, asOs_os, unc_cons, asI_int, unc_cons, asOs_os, unn_nil, unn_nil, if_pos rfl]
    have ins : ((ocall V 29 [(.rs (2, 0) (l.held.map eP)), (.int .i64 p.no), (.fn 30 [])] fun x21 l22 =>
                   asTup x21 fun l23 => unc l23 fun x24 l25 => asI .i64 x24 fun n26 => unc l25 fun x27 l28 => asB x27 fun b29 => unn l28 (unn l22 (ocall V 31 [(.int .i64 p.no), (.int .i64 (IntKind.wrap IntKind.i64 (l.got + 1))), (.int .i64 (IntKind.wrap IntKind.i64 (mnI (IntKind.wrap IntKind.i64 (l.got + 4)) l.sent - 1)))] fun x30 l31 =>
                         asB x30 fun b32 => unn l31 (br b32
                           (br (!b29)
                            (ocall V 32 [(.os (2, 0) (l.held.map eP)), (.int .i64 n26), (.os (2, 0) [(.agg [(.int .i64 p.no), (.str p.text)])])] fun x33 l34 =>
                             asOs (2, 0) x33 fun l35 => unn l34 (some ((.tup [(.agg [(.int .i64 l.sent), (.int .i64 l.acked), (.os (1, 0) (l.queue.map .str)), (.int .i64 l.got), (.os (2, 0) l35)]), (.os (1, 0) [])]), [])))
                            (some ((.tup [(.agg [(.int .i64 l.sent), (.int .i64 l.acked), (.os (1, 0) (l.queue.map .str)), (.int .i64 l.got), (.os (2, 0) (l.held.map eP))]), (.os (1, 0) [])]), [])))
                           (some ((.tup [(.agg [(.int .i64 l.sent), (.int .i64 l.acked), (.os (1, 0) (l.queue.map .str)), (.int .i64 l.got), (.os (2, 0) (l.held.map eP))]), (.os (1, 0) [])]), [])))))) : Option Ret) =
        some (.tup [oK (if wi p.no (l.got + 1) (mnI (l.got + 4) l.sent - 1) then { l with held := holdF p l.held } else l), .os (1, 0) []], []) := by
      rw [ocall_some hsr, asTup_tup, unc_cons, asI_int, unc_cons, asB_bool, unn_nil, unn_nil, w64 (n := l.got + 4) (by omega) (by omega), w64 (n := l.got + 1) (by omega) (by omega), w64 (n := mnI (l.got + 4) l.sent - 1) (by omega) (by omega), ocall_some (v_within _ _ _), asB_bool, unn_nil]
      cases hw : wi p.no (l.got + 1) (mnI (l.got + 4) l.sent - 1) with
      | false => rfl
      | true =>
        have hw' := hw
        simp only [wi, Bool.and_eq_true, decide_eq_true_eq] at hw'
        have hfo := hfd (fun q hq => by have := hno q hq; omega) hso
        have hh := holdF_found hr hfo
        rw [br_true, if_pos rfl, hh]
        cases b with
        | true => rfl
        | false =>
          rw [Bool.not_false, br_true, ocall_some (v_insert _ (by rw [List.length_map]; exact hr) (by rw [List.length_map]; omega)), asOs_os, unn_nil]
          simp [oK, eP]
    by_cases hp : p.no = l.got
    · rw [br_not (by simp [hp])]
      by_cases hg : l.got ≥ l.sent
      · rw [br_of (decide_eq_true hg)]
        refine ins.trans ?_
        have w1 : wi p.no (l.got + 1) (mnI (l.got + 4) l.sent - 1) = false := by simp only [wi, Bool.and_eq_false_iff, decide_eq_false_iff_not]; omega
        have w2 : wi p.no l.got (mnI (l.got + 4) l.sent - 1) = false := by simp only [wi, Bool.and_eq_false_iff, decide_eq_false_iff_not]; omega
        rw [w1, w2]; rfl
      · have w2 : wi p.no l.got (mnI (l.got + 4) l.sent - 1) = true := by simp only [wi, Bool.and_eq_true, decide_eq_true_eq]; omega
        rw [br_not (decide_eq_false hg), w2, if_pos rfl, if_neg (by omega), w64 (by omega) (by omega)]
        rw [popI_first (l := l.held) (q := l.queue.map .str) (by omega) 0 0 0 l.sent l.acked p.text (l.got + 1) (by omega) (by omega)]
        rfl
    · rw [br_of (by simp [hp])]
      refine ins.trans ?_
      by_cases hw : wi p.no (l.got + 1) (mnI (l.got + 4) l.sent - 1) = true
      · have hw' := hw
        simp only [wi, Bool.and_eq_true, decide_eq_true_eq] at hw'
        have w2 : wi p.no l.got (mnI (l.got + 4) l.sent - 1) = true := by simp only [wi, Bool.and_eq_true, decide_eq_true_eq]; omega
        rw [if_pos hw, if_pos w2, if_pos (by omega)]; rfl
      · have w2 : ¬ wi p.no l.got (mnI (l.got + 4) l.sent - 1) = true := by
          intro h
          simp only [wi, Bool.and_eq_true, decide_eq_true_eq] at h hw
          omega
        rw [if_neg hw, if_neg w2]; rfl
end Go.Eng
/-! the law on LinkTake -/
namespace Go.Eng
open Go.Proofs Go.Proofs.Try

theorem pure_LinkTake {l : Lk} (hf : l.Fits) (p : Pc) (hp : p.text.size ≤ 140737488351232) : V 5 [eK l, eP p] = some (.bool true, []) := by
  obtain ⟨m0, h1, h2, h3⟩ := v_sz hf (n := 1048576) (by omega) (by omega)
  have e : V 5 [eK l, eP p] = _ := elaws_FnExactLinkTake l.sent l.acked (l.queue.map .str) l.got (l.held.map eP) p.no p.text
  rw [e]
  have hek : ∀ l : Lk, D.agg [.int .i64 l.sent, .int .i64 l.acked, .rs (1, 0) (l.queue.map .str), .int .i64 l.got, .rs (2, 0) (l.held.map eP)] = eK l := fun l => rfl
  have hok : ∀ l : Lk, D.agg [.int .i64 l.sent, .int .i64 l.acked, .os (1, 0) (l.queue.map .str), .int .i64 l.got, .os (2, 0) (l.held.map eP)] = oK l := fun l => rfl
  rw [hek, ocall_some h1, asI_int, unn_nil]
  by_cases h : m0 < 0
  · rw [br_of (decide_eq_true h)]
  rw [br_not (decide_eq_false h)]
  obtain ⟨h5, h6⟩ := h3 (by omega)
  obtain ⟨m1, g1, g2⟩ := v_szP p hp (n := m0) (by omega) h2
  rw [ocall_some g1, asI_int, unn_nil]
  by_cases h' : m1 < 0
  · rw [br_of (decide_eq_true h')]
  rw [br_not (decide_eq_false h')]
  have hk := v_toK (l := l) (by omega) (by omega)
  have hs := v_spec_take (l := l) (by omega) (by omega) p
  have hi := v_impl_take (l := l) (by omega) (by omega) p
  have he := v_eqK (l := l) (by omega) (by omega)
  have hrl := takeF_length l p
  have htp : V 21 [.agg [.int .i64 p.no, .str p.text]] = some (.agg [.int .i64 p.no, .str p.text], []) := elaws_toPiece _ _
  have hr3 : (takeF l p).1.held.length ≤ 1048576 ∧ (takeF l p).2.length ≤ 1048576 := by
    cases hq : okK l with
    | true => have := held_facts hq; omega
    | false => simp [takeF, hq, zK]
  generalize takeF l p = r at hs hi hrl hr3
  have her := v_eqK (l := r.1) (by omega) (by omega)
  have hes := v_eqS (l := r.2) (by omega)
  have hm := v_markK (l := l) (by omega) (by omega)
  have hmr := v_markK (l := r.1) (by omega) (by omega)
  have hhr := v_heldK (l := r.1) r.1.queue.length r.1.held.length (by omega) (by omega)
  have hms := v_markS (l := r.2) (by omega) (c := 1 + r.1.queue.length + 2 * r.1.held.length) (by omega)
  have hhs := v_heldS (n := r.2.length) (c := 1 + r.1.queue.length + 2 * r.1.held.length) (by omega) (by omega)
  unfold oK at hk hs hi
  rw [ocall_some hk, asAgg_agg, unc_cons, asI_int, unc_cons, asI_int, unc_cons, asOs_os, unc_cons, asI_int, unc_cons, asOs_os, unn_nil, unn_nil]
  try rw [hek]
  rw [ocall_some htp, asAgg_agg, unc_cons, asI_int, unc_cons, asS_str, unn_nil, unn_nil]
  rw [ocall_some hs, asTup_tup, unc_cons, asAgg_agg, unc_cons, asI_int, unc_cons, asI_int, unc_cons, asOs_os, unc_cons, asI_int, unc_cons, asOs_os, unn_nil, unc_cons, asOs_os, unn_nil, unn_nil]
  rw [ocall_some hk, asAgg_agg, unc_cons, asI_int, unc_cons, asI_int, unc_cons, asOs_os, unc_cons, asI_int, unc_cons, asOs_os, unn_nil, unn_nil]
  try rw [hek]
  rw [ocall_some htp, asAgg_agg, unc_cons, asI_int, unc_cons, asS_str, unn_nil, unn_nil]
  rw [ocall_some hi, asTup_tup, unc_cons, asAgg_agg, unc_cons, asI_int, unc_cons, asI_int, unc_cons, asOs_os, unc_cons, asI_int, unc_cons, asOs_os, unn_nil, unc_cons, asOs_os, unn_nil, unn_nil]
  try rw [hek]
  rw [ocall_some her, asB_bool, unn_nil, br_not (by rfl), ocall_some hes, asB_bool, unn_nil, br_not (by rfl)]
  rw [ocall_some hk, asAgg_agg, unc_cons, asI_int, unc_cons, asI_int, unc_cons, asOs_os, unc_cons, asI_int, unc_cons, asOs_os, unn_nil, unn_nil]
  try rw [hek]
  rw [ocall_some he, asB_bool, unn_nil, br_not (by rfl)]
  try rw [hok]
  rw [ocall_some hm, asI_int, unc_cons]
  unfold oK
  rw [asAgg_agg, unc_cons, asI_int, unc_cons, asI_int, unc_cons, asOs_os, unc_cons, asI_int, unc_cons, asOs_os, unn_nil, unn_nil, br_not (decide_eq_false (by omega))]
  try rw [hek]
  rw [ocall_some her, asB_bool, unn_nil, br_not (by rfl), ocall_some hes, asB_bool, unn_nil, br_not (by rfl)]
  try rw [hok]
  rw [ocall_some hmr, asI_int, unc_cons]
  unfold oK
  rw [asAgg_agg, unc_cons, asI_int, unc_cons, asI_int, unc_cons, asOs_os, unc_cons, asI_int, unc_cons, asOs_os, unn_nil, unn_nil]
  rw [ocall_some hms, asI_int, unc_cons, asOs_os, unn_nil]
  unfold eK at hhr
  rw [ocall_some hhr, asI_int, unn_nil, br_not (decide_eq_false (by omega)), ocall_some hhs, asI_int, unn_nil, br_not (decide_eq_false (by omega)), br_not (by simp)]
  try rw [hek]
  rw [ocall_some hk, asAgg_agg, unc_cons, asI_int, unc_cons, asI_int, unc_cons, asOs_os, unc_cons, asI_int, unc_cons, asOs_os, unn_nil, unn_nil]
  try rw [hek]
  rw [ocall_some htp, asAgg_agg, unc_cons, asI_int, unc_cons, asS_str, unn_nil, unn_nil]
  rw [ocall_some hi, asTup_tup, unc_cons, asAgg_agg, unc_cons, asI_int, unc_cons, asI_int, unc_cons, asOs_os, unc_cons, asI_int, unc_cons, asOs_os, unn_nil, unc_cons, asOs_os, unn_nil, unn_nil]
  try rw [hek]
  rw [ocall_some her, asB_bool, unn_nil, br_not (by rfl), ocall_some hes, asB_bool, unn_nil, br_not (by rfl)]
  rw [ocall_some hhr, asI_int, unn_nil, br_not (decide_eq_false (by omega)), ocall_some hhs, asI_int, unn_nil, br_not (decide_eq_false (by omega)), br_not (by simp)]
theorem arg_piece {x : D} (h : ShapeV prog 45 x) : ∃ p : Pc, x = eP p ∧ p.text.size ≤ 140737488351232 := by
  obtain ⟨ys, hs, rfl⟩ := h
  obtain ⟨parts, rfl, hp⟩ := hs.struct Try.underlying45
  cases hp with | cons p1 hp =>
  cases hp with | cons p2 hp =>
  cases hp
  obtain ⟨n, rfl, _⟩ := p1.int Try.underlying3
  obtain ⟨s, rfl, hsz⟩ := p2.str Try.underlying9
  rw [elemOf_struct Try.underlying45]
  exact ⟨⟨n, s⟩, rfl, hsz⟩
theorem core_FnExactLinkTake (xs : List D) (h : All2 (fun t x => ShapeV Try.prog t x) Try.f5.params.toList xs) : V 5 xs = some (.bool true, []) := by
  rw [Try.params5] at h
  cases h with | cons h1 h =>
  cases h with | cons h2 h =>
  cases h
  obtain ⟨l, rfl, hl⟩ := arg_link h1
  obtain ⟨p, rfl, hp⟩ := arg_piece h2
  exact pure_LinkTake hl p hp
end Go.Eng
