/- what LinkTake of the reference comes to -/
import Derived.Test.YtpihopepjgefeaaPure6
import Derived.Test.YtpihopepjgefeaaFnAll
namespace Go.Eng
open Go.Proofs Go.Proofs.Try

def holdF (p : Pc) : List Pc → List Pc
  | [] => [p]
  | q :: r => if q.no ≥ p.no then (if q.no > p.no then p :: q :: r else q :: r) else q :: holdF p r
theorem holdF_length (p : Pc) : ∀ l, (holdF p l).length ≤ l.length + 1
  | [] => by simp [holdF]
  | q :: r => by
    have := holdF_length p r
    simp only [holdF]
    split
    · split <;> simp
    · simp; omega
theorem lim_app {x : D} {a : List Pc} {n : Nat} (h : a.length < n) (hn : n ≤ 4294967296) : decide (ni (a.map eP ++ [x]).length ≤ LIM) = true :=
  decide_eq_true (by simp only [ni, LIM, List.length_append, List.length_map, List.length_cons, List.length_nil]; omega)
theorem hold_true {l : List Pc} (hl : l.length < 4294967296) (n : Int) (s : ByteArray) : ∀ (k i : Nat) (acc : List Pc), i + k = l.length → acc.length ≤ i + 1 → Lspec_l10Hold_4 (l.map eP) true (i : Int) n s (acc.map eP) = some (.os (2, 0) ((acc ++ l.drop i).map eP), [])
  | 0, i, acc, hi, ha => by
    rw [Lspec_l10Hold_4_eq, br_not (by rw [List.length_map]; exact ge_idx (by omega)), List.drop_of_length_le (by omega), List.append_nil]
    rfl
  | k + 1, i, acc, hi, ha => by
    obtain ⟨x, hx⟩ := get_of_lt (l := l) (i := i) (by omega)
    have ih := hold_true hl n s k (i + 1) (acc ++ [x]) (by omega) (by simp; omega)
    have hlim : decide (ni (acc.map eP ++ [D.agg [.int .i64 x.no, .str x.text]]).length ≤ LIM) = true := decide_eq_true (by simp only [ni, LIM, List.length_append, List.length_map, List.length_cons, List.length_nil]; omega)
    rw [Lspec_l10Hold_4_eq, br_of (by rw [List.length_map]; exact lt_idx (by omega)), Bool.not_true, br_false, grd_of (by rw [List.length_map]; exact in_idx (by omega)), Int.toNat_natCast, oget_map hx, eP_mk x]
    simp only [asI_int, asS_str, asAgg_agg, unc_cons, unn_nil, nam_eq]
    rw [grd_of hlim, w64s (by omega), drop_at hx]
    simpa [eP] using ih
theorem hold_false {l : List Pc} (hl : l.length < 4294967295) (p : Pc) : ∀ (k i : Nat) (acc : List Pc), i + k = l.length → acc.length ≤ i → Lspec_l10Hold_4 (l.map eP) false (i : Int) p.no p.text (acc.map eP) = some (.os (2, 0) ((acc ++ holdF p (l.drop i)).map eP), [])
  | 0, i, acc, hi, ha => by
    have hlim : decide (ni (acc.map eP ++ [D.agg [.int .i64 p.no, .str p.text]]).length ≤ LIM) = true := decide_eq_true (by simp only [ni, LIM, List.length_append, List.length_map, List.length_cons, List.length_nil]; omega)
    rw [Lspec_l10Hold_4_eq, br_not (by rw [List.length_map]; exact ge_idx (by omega)), List.drop_of_length_le (by omega), Bool.not_false, br_true, grd_of hlim]
    simp [nam_eq, holdF, eP]
  | k + 1, i, acc, hi, ha => by
    obtain ⟨x, hx⟩ := get_of_lt (l := l) (i := i) (by omega)
    have hlim : decide (ni (acc.map eP ++ [D.agg [.int .i64 x.no, .str x.text]]).length ≤ LIM) = true := decide_eq_true (by simp only [ni, LIM, List.length_append, List.length_map, List.length_cons, List.length_nil]; omega)
    have hlim2 : decide (ni (acc.map eP ++ [D.agg [.int .i64 p.no, .str p.text]]).length ≤ LIM) = true := decide_eq_true (by simp only [ni, LIM, List.length_append, List.length_map, List.length_cons, List.length_nil]; omega)
    have hlim3 : decide (ni ((acc.map eP ++ [D.agg [.int .i64 p.no, .str p.text]]) ++ [D.agg [.int .i64 x.no, .str x.text]]).length ≤ LIM) = true := decide_eq_true (by simp only [ni, LIM, List.length_append, List.length_map, List.length_cons, List.length_nil]; omega)
    have hidx : (decide (0 ≤ (i : Int)) && decide ((i : Int) < ni (l.map eP).length)) = true := by rw [List.length_map]; exact in_idx (by omega)
    rw [Lspec_l10Hold_4_eq, br_of (by rw [List.length_map]; exact lt_idx (by omega)), Bool.not_false, br_true]
    simp only [grd_of hidx, Int.toNat_natCast, oget_map hx, eP_mk x, asI_int, asS_str, asAgg_agg, unc_cons, unn_nil, nam_eq, oget_lit0, grd_of hlim, grd_of hlim2, grd_of hlim3]
    rw [w64s (by omega), drop_at hx]
    unfold holdF
    by_cases h1 : x.no ≥ p.no
    · rw [br_of (decide_eq_true h1), if_pos h1]
      by_cases h2 : x.no > p.no
      · rw [br_of (decide_eq_true h2), if_pos h2]
        have := hold_true (l := l) (by omega) p.no p.text k (i + 1) (acc ++ [p] ++ [x]) (by omega) (by simp; omega)
        simpa [eP] using this
      · rw [br_not (decide_eq_false h2), if_neg h2]
        have := hold_true (l := l) (by omega) p.no p.text k (i + 1) (acc ++ [x]) (by omega) (by simp; omega)
        simpa [eP] using this
    · rw [br_not (decide_eq_false h1), if_neg h1]
      have := hold_false hl p k (i + 1) (acc ++ [x]) (by omega) (by simp; omega)
      simpa [eP] using this
theorem v_hold {l : List Pc} (hl : l.length < 4294967295) (p : Pc) : V 64 [.rs (2, 0) (l.map eP), .agg [.int .i64 p.no, .str p.text]] = some (.os (2, 0) ((holdF p l).map eP), []) := by
  rw [espec_l10Hold]
  exact hold_false hl p l.length 0 [] (by omega) (by simp)

def popF : Int → List Pc → List ByteArray × Int × List Pc
  | g, [] => ([], g, [])
  | g, q :: r => if q.no = g then (q.text :: (popF (g + 1) r).1, (popF (g + 1) r).2.1, (popF (g + 1) r).2.2) else ([], g, q :: r)
theorem popF_facts : ∀ (l : List Pc) (g : Int), g ≤ (popF g l).2.1 ∧ (popF g l).2.1 ≤ g + l.length ∧ (popF g l).2.2.length ≤ l.length ∧ ((popF g l).1.length : Int) = (popF g l).2.1 - g
  | [], g => by simp [popF]
  | q :: r, g => by
    have := popF_facts r (g + 1)
    simp only [popF]
    split
    · simp; omega
    · simp; omega
theorem pop_loop {l : List Pc} {q : List D} (hl : l.length < 4294967295) (z0 z1 z2 sent acked : Int) : ∀ (k i : Nat) (up : List ByteArray) (g : Int), i + k = l.length → up.length ≤ i + 1 → 0 ≤ g → g ≤ 100001 + i →
    Lspec_LinkTake_12v1 z0 z1 z2 (up.map .str) sent acked g i k q (l.map eP) = some (.tup [.agg [.int .i64 sent, .int .i64 acked, .os (1, 0) q, .int .i64 (popF g (l.drop i)).2.1, .os (2, 0) ((popF g (l.drop i)).2.2.map eP)], .os (1, 0) ((up ++ (popF g (l.drop i)).1).map .str)], [])
  | 0, i, up, g, hi, hu, hg, hg2 => by
    rw [Lspec_LinkTake_12v1_eq, br_not (by simp [ni]), grd_of (by simp [ni, LIM, part]), nam_eq, List.drop_of_length_le (by omega)]
    simp [popF, part]
  | k + 1, i, up, g, hi, hu, hg, hg2 => by
    obtain ⟨x, hx⟩ := get_of_lt (l := l) (i := i) (by omega)
    have hb : (decide (0 ≤ 0) && decide ((0 : Int) < ni (k + 1)) && decide (i + (k + 1) ≤ (l.map eP).length)) = true := by simp [ni]; omega
    have hlim : decide (ni (up.map D.str ++ [D.str x.text]).length ≤ LIM) = true := decide_eq_true (by simp only [ni, LIM, List.length_append, List.length_map, List.length_cons, List.length_nil]; omega)
    have hcut : cutOkX (k + 1) ((l.map eP).length - i) (some 1) none = true := by simp [cutOkX]; omega
    have hpart : part (l.map eP) (some (i, k + 1)) = (l.drop i).map eP := by
      simp only [part, ← List.map_drop, ← List.map_take]
      rw [List.take_of_length_le (by rw [List.length_drop]; omega)]
    have hlim2 : decide (ni ([] ++ part (l.map eP) (some (i, k + 1))).length ≤ LIM) = true := by rw [hpart]; exact decide_eq_true (by simp only [ni, LIM, List.nil_append, List.length_map, List.length_drop]; omega)
    have hb0 : decide (ni (k + 1) > 0) = true := decide_eq_true (by simp only [ni]; omega)
    have e0 : i + Int.toNat 0 = i := rfl
    rw [Lspec_LinkTake_12v1_eq, br_of hb0, grd_of hb, e0, oget_map hx, eP_mk x, asAgg_agg, oget_lit0, asI_int, drop_at hx]
    unfold popF
    by_cases h : x.no = g
    · rw [br_of (by simp [h]), if_pos h, grd_of hb, oget_map hx, eP_mk x, asAgg_agg, oget_lit1, asS_str, grd_of hlim, nam_eq, grd_of hcut, w64 (by omega) (by omega)]
      have := pop_loop (q := q) hl z0 z1 z2 sent acked k (i + 1) (up ++ [x.text]) (g + 1) (by omega) (by simp; omega) (by omega) (by omega)
      simp only [List.map_append, List.map_cons, List.map_nil] at this
      refine this.trans ?_
      simp
    · rw [br_not (by simp [h]), if_neg h, grd_of hlim2, nam_eq, hpart, drop_at hx]
      simp
theorem pop_first {l : List Pc} {q : List D} (hl : l.length < 4294967295) (z0 z1 z2 sent acked : Int) (s : ByteArray) (g : Int) (hg : 0 ≤ g) (hg2 : g ≤ 100001) :
    Lspec_LinkTake_12 z0 z1 z2 [D.str s] sent acked g q (l.map eP) = some (.tup [.agg [.int .i64 sent, .int .i64 acked, .os (1, 0) q, .int .i64 (popF g l).2.1, .os (2, 0) ((popF g l).2.2.map eP)], .os (1, 0) ((s :: (popF g l).1).map .str)], []) := by
  cases l with
  | nil => rw [Lspec_LinkTake_12_eq, br_not (by rfl), grd_of (by rfl), nam_eq]; rfl
  | cons x r =>
    have hlen : r.length + 1 < 4294967295 := by simpa using hl
    have hb0 : decide (ni (List.map eP (x :: r)).length > 0) = true := decide_eq_true (by simp only [ni, List.map_cons, List.length_cons]; omega)
    have hb : (decide (0 ≤ 0) && decide ((0 : Int) < ni (List.map eP (x :: r)).length)) = true := by simp only [ni, List.map_cons, List.length_cons, Bool.and_eq_true, decide_eq_true_eq]; omega
    have hlim : decide (ni ([D.str s] ++ [D.str x.text]).length ≤ LIM) = true := decide_eq_true (by simp [ni, LIM])
    have hcut : cutOk (List.map eP (x :: r)).length (some 1) none = true := by simp [cutOk]; omega
    have hlim2 : decide (ni ([] ++ List.map eP (x :: r)).length ≤ LIM) = true := decide_eq_true (by simp only [ni, LIM, List.nil_append, List.length_map, List.length_cons]; omega)
    have hx : (x :: r)[0]? = some x := rfl
    rw [Lspec_LinkTake_12_eq, br_of hb0, grd_of hb, oget_map hx, eP_mk x, asAgg_agg, oget_lit0, asI_int]
    unfold popF
    by_cases h : x.no = g
    · rw [br_of (by simp [h]), if_pos h, grd_of hb, oget_map hx, eP_mk x, asAgg_agg, oget_lit1, asS_str, grd_of hlim, nam_eq, grd_of hcut, w64 (by omega) (by omega)]
      have := pop_loop (q := q) hl z0 z1 z2 sent acked r.length 1 [s, x.text] (g + 1) (by simp; omega) (by simp) (by omega) (by omega)
      have e1 : (List.map eP (x :: r)).length - Int.toNat 1 = r.length := by simp
      rw [e1]
      exact this
    · rw [br_not (by simp [h]), if_neg h, grd_of hlim2, nam_eq]
      rfl

def upL (l : Lk) (p : Pc) : Lk × List ByteArray := ({ l with got := (popF (l.got + 1) l.held).2.1, held := (popF (l.got + 1) l.held).2.2 }, p.text :: (popF (l.got + 1) l.held).1)
def takeF (l : Lk) (p : Pc) : Lk × List ByteArray :=
  if okK l then (if wi p.no l.got (mnI (l.got + 4) l.sent - 1) then (if p.no > l.got then ({ l with held := holdF p l.held }, []) else upL l p) else (l, [])) else (zK, [])
theorem takeF_length (l : Lk) (p : Pc) : (takeF l p).1.queue.length ≤ l.queue.length ∧ (takeF l p).1.held.length ≤ l.held.length + 1 ∧ (takeF l p).2.length ≤ l.held.length + 1 := by
  have h1 := holdF_length p l.held
  have h2 := popF_facts l.held (l.got + 1)
  unfold takeF
  split
  · split
    · split
      · simp; omega
      · simp [upL]; omega
    · simp
  · simp [zK]
theorem v_spec_take {l : Lk} (h1 : l.queue.length < 4294967295) (h2 : l.held.length < 4294967295) (p : Pc) : V 38 [eK l, .agg [.int .i64 p.no, .str p.text]] = some (.tup [oK (takeF l p).1, .os (1, 0) ((takeF l p).2.map .str)], []) := by
  have hs := v_spec_okK (l := l) (by omega) (by omega)
  have hc := v_copyKs (l := l) (by omega) (by omega)
  have e : V 38 [eK l, .agg [.int .i64 p.no, .str p.text]] = _ := espec_LinkTake l.sent l.acked (l.queue.map .str) l.got (l.held.map eP) p.no p.text
  rw [e]
  unfold eK at hs hc
  unfold oK at hc
  unfold takeF
  rw [ocall_some hs, asB_bool, unn_nil]
  cases hok : okK l with
  | false => rfl
  | true =>
    have hf := okK_facts hok
    have hm := mnI_le (l.got + 4) l.sent
    rw [Bool.not_true, br_false, ocall_some hc]
    simp only [asI_int, asOs_os, asAgg_agg, unc_cons, unn_nil]
    rw [w64 (n := l.got + 4) (by omega) (by omega), ocall_some (v_l1Min _ _)]
    simp only [asI_int, unn_nil]
    rw [w64 (n := mnI (l.got + 4) l.sent - 1) (by omega) (by omega), ocall_some (v_l1In _ _ _)]
    simp only [asB_bool, unn_nil, if_true]
    cases wi p.no l.got (mnI (l.got + 4) l.sent - 1) with
    | false => rfl
    | true =>
      rw [Bool.not_true, br_false, if_pos rfl]
      by_cases hp : p.no > l.got
      · rw [br_of (decide_eq_true hp), if_pos hp, ocall_some (v_hold (by omega) p)]
        simp only [asOs_os, unn_nil]
        rfl
      · rw [br_not (decide_eq_false hp), if_neg hp, w64 (by omega) (by omega)]
        rw [pop_first (l := l.held) (q := l.queue.map .str) (by omega) 0 0 0 l.sent l.acked p.text (l.got + 1) (by omega) (by omega)]
        rfl
end Go.Eng
