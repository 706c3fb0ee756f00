/- reading a text: both sides agree -/
import Derived.Test.YtgoidfkdnkjojaaRead2
namespace Go.Eng
open Go.Proofs Go.Proofs.Try
set_option maxHeartbeats 4000000

theorem read_fits {l : List UInt8} (hl : l.length < 1000000000) : ∀ (k i : Nat) (o : List RwF) (t : RwF) (q : List Nd), i ≤ l.length → phi o t q + 2 * (l.length - i) < 4000000000 → Fits q → ∀ q' row, readGo l k i o t q = .ok q' row → Fits q' ∧ q'.length < 4000000000 ∧ row.length < 4000000000
  | 0, i, o, t, q, _, _, _, q', row, h => by rw [readGo] at h; cases h
  | k + 1, i, o, t, q, h2, h3, hf, q', row, h => by
    have hph : phi o t q = q.length + t.2.length + (o.map fun x => x.2.length).sum := rfl
    rw [readGo_s] at h
    by_cases hi : i = l.length
    · have hx : l[i]? = none := List.getElem?_eq_none (by omega)
      rw [hx, readB_n] at h
      by_cases ho : o = []
      · rw [if_pos ho] at h
        cases h
        exact ⟨hf, by omega, by omega⟩
      · rw [if_neg ho] at h; cases h
    obtain ⟨x, hx⟩ := get_of_lt (l := l) (i := i) (by omega)
    rw [hx, readB_s] at h
    by_cases h32 : x = 32
    · rw [if_pos h32] at h
      exact read_fits hl k (i + 1) o t q (by omega) (by omega) hf q' row h
    rw [if_neg h32] at h
    by_cases h40 : x = 40
    · rw [if_pos h40] at h
      exact read_fits hl k (i + 1) (t :: o) ((i : Int), []) q (by omega) (by simp only [phi, List.map_cons, List.sum_cons, List.length_nil]; omega) hf q' row h
    rw [if_neg h40] at h
    by_cases h41 : x = 41
    · rw [if_pos h41] at h
      cases o with
      | nil => cases h
      | cons u o =>
        simp only [List.map_cons, List.sum_cons] at hph
        exact read_fits hl k (i + 1) o (u.1, u.2 ++ [((listN q t.2).2 : Int)]) (listN q t.2).1 (by omega) (by simp only [phi, listN_len, List.length_append, List.length_cons, List.length_nil]; omega) (listN_fits hf _) q' row h
    rw [if_neg h41] at h
    by_cases hw : wordU x = true
    · rw [if_pos hw] at h
      have hwe := wend_hit hx hw
      have hwl := wend_le (l := l) (j := i + 1) (by omega)
      cases hwd : wordF ((l.drop i).take (wend l i - i)) with
      | none => rw [hwd] at h; cases h
      | some nd =>
        rw [hwd] at h
        have hz := wordF_size hwd
        exact read_fits hl k (wend l i) o (t.1, t.2 ++ [(q.length : Int)]) (q ++ [nd]) (by omega) (by simp only [phi, List.length_append, List.length_cons, List.length_nil]; omega) (fits_snoc hf (by rw [List.length_take, List.length_drop] at hz; omega)) q' row h
    · rw [if_neg hw] at h; cases h
noncomputable def resT (p : List Nd) (n : Nat) (r : RdR) : List Nd × List Int × Int × Int := match r with
  | .err c a => (p, [], c, a)
  | .ok q row => if okPool q = true then (q, row, 0, (n : Int)) else (p, [], 6, 0)
noncomputable def readT (p : List Nd) (l : List UInt8) : List Nd × List Int × Int × Int := if okPool p = false then ([], [], 6, 0) else if 400 < l.length then (p, [], 1, 0) else resT p l.length (readGo l (l.length + 1) 0 [] (0, []) p)
noncomputable abbrev readD4 (r : List Nd × List Int × Int × Int) : Option Ret := some (.tup [oP r.1, .os (1, 0) (r.2.1.map eI), .int .i64 r.2.2.1, .int .i64 r.2.2.2], [])
theorem SR_resT (p : List Nd) (n : Nat) (r : RdR) : SR (p.map eN) n r = readD4 (resT p n r) := by
  cases r with
  | err c a => rfl
  | ok q row =>
    rw [SR_ok]
    unfold resT
    by_cases h : okPool q = true
    · rw [if_pos h]; simp only [if_pos h]
    · rw [if_neg h]; simp only [if_neg h]; rfl
theorem v_spec_Read {p : List Nd} (hf : Fits p) (hl : p.length < 4611686018427387904) (l : List UInt8) : V 22 [eP p, .str (mk l)] = readD4 (readT p l) := by
  have hok := v_spec_PoolOk hf hl
  unfold readT
  rw [zespec_Read, oc_s_PoolOk hok]
  cases h : okPool p with
  | false => rw [Bool.not_false, br_true, if_pos rfl]; rfl
  | true =>
    have hp := okPool_len h
    have hc := v_cpL2 (p := p) (by omega)
    rw [Bool.not_true, br_false, if_neg (by simp), mk_size]
    by_cases h4 : 400 < l.length
    · rw [br_of (decide_eq_true (by simp only [ni]; omega)), oc_s_l2Copy hc, if_pos h4]; rfl
    · have hs := (sread (l := l) (by omega) (p := p) (by omega) (l.length + 1) 0 [] (0, []) p (by omega) (by omega) (by simp only [phi, List.map_nil, List.sum_nil, List.length_nil]; omega) (by simp only [List.length_nil]; omega) hf).1
      rw [br_not (decide_eq_false (by simp only [ni]; omega)), oc_s_l2Copy hc, if_neg h4, ← SR_resT]
      exact hs
theorem v_impl_Read {p : List Nd} (hf : Fits p) (hl : p.length < 4611686018427387904) (l : List UInt8) : V 24 [eP p, .str (mk l)] = readD4 (readT p l) := by
  have hok := v_impl_PoolOk hf hl
  unfold readT
  rw [eimpl_Read, oc_i_PoolOk hok]
  cases h : okPool p with
  | false => rw [Bool.not_false, br_true, if_pos rfl]; rfl
  | true =>
    have hp := okPool_len h
    have hc := v_cpPool (p := p) (by omega)
    rw [Bool.not_true, br_false, if_neg (by simp), mk_size]
    by_cases h4 : 400 < l.length
    · rw [br_of (decide_eq_true (by simp only [ni]; omega)), oc_i_copyPool hc, if_pos h4]; rfl
    have hs := iread (l := l) (by omega) (l.length + 1) 0 [] (0, []) p (by omega) (by omega) (by simp only [phi, List.map_nil, List.sum_nil, List.length_nil]; omega) (by simp only [List.length_nil]; omega)
    have hff := read_fits (l := l) (by omega) (l.length + 1) 0 [] (0, []) p (by omega) (by simp only [phi, List.map_nil, List.sum_nil, List.length_nil]; omega) hf
    have ht : V 78 [.op [.os (5, 0) (p.map eN), .os (1, 2) [.os (1, 0) []], .os (1, 0) []], .str (mk l)] = Limpl_reading_text_2 (mk l) 0 (p.map eN) [.os (1, 0) []] [] := by rw [eimpl_reading_text]
    have hs : IR l.length (readGo l (l.length + 1) 0 [] (0, []) p) (Limpl_reading_text_2 (mk l) 0 (p.map eN) [.os (1, 0) []] []) := hs
    rw [← ht] at hs
    rw [br_not (decide_eq_false (by simp only [ni]; omega)), oc_i_copyPool hc, if_neg h4]
    cases hr : readGo l (l.length + 1) 0 [] (0, []) p with
    | err c a =>
      rw [hr] at hs
      obtain ⟨hne, A, B, C, hX⟩ := hs
      rw [oc_reading_text hX, br_not (by simpa using hne), br_of (by simpa using hne), oc_i_copyPool hc]; rfl
    | ok q row =>
      rw [hr] at hs
      have hX : V 78 [.op [.os (5, 0) (p.map eN), .os (1, 2) [.os (1, 0) []], .os (1, 0) []], .str (mk l)] = some (.tup [.int .i64 0, .int .i64 (l.length : Int)], [rRd q [.os (1, 0) (row.map eI)] []]) := hs
      obtain ⟨h1, h2, h3⟩ := hff q row hr
      have hok2 := v_impl_PoolOk h1 (by omega)
      rw [oc_reading_text hX, br_of (by rfl), oc_i_PoolOk hok2]
      unfold resT
      cases hq : okPool q with
      | false => rw [Bool.not_false, br_true, oc_i_copyPool hc]; simp only [hq]; rfl
      | true => rw [Bool.not_true, br_false, br_not (by rfl), grd_of (by rfl)]; simp only [hq]; rfl
theorem readT_len {p : List Nd} (hf : Fits p) (l : List UInt8) : (readT p l).1.length < 4000000000 ∧ (readT p l).2.1.length < 4000000000 := by
  unfold readT
  cases h : okPool p with
  | false => rw [if_pos rfl]; exact ⟨by simp, by simp⟩
  | true =>
    have hp := okPool_len h
    rw [if_neg (by simp)]
    by_cases h4 : 400 < l.length
    · rw [if_pos h4]; exact ⟨by show p.length < _; omega, by simp⟩
    rw [if_neg h4]
    have hff := read_fits (l := l) (by omega) (l.length + 1) 0 [] (0, []) p (by omega) (by simp only [phi, List.map_nil, List.sum_nil, List.length_nil]; omega) hf
    unfold resT
    cases hr : readGo l (l.length + 1) 0 [] (0, []) p with
    | err c a => exact ⟨by show p.length < _; omega, by simp⟩
    | ok q row =>
      obtain ⟨h1, h2, h3⟩ := hff q row hr
      show (if okPool q = true then (q, row, (0 : Int), (l.length : Int)) else (p, [], 6, 0)).1.length < _ ∧ (if okPool q = true then (q, row, (0 : Int), (l.length : Int)) else (p, [], 6, 0)).2.1.length < _
      by_cases hq : okPool q = true
      · rw [if_pos hq]; exact ⟨h2, h3⟩
      · rw [if_neg hq]; exact ⟨by show p.length < _; omega, by simp⟩
end Go.Eng
