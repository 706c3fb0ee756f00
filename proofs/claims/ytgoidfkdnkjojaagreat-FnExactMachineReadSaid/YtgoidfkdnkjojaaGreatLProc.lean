/- processes as arguments -/
import Derived.Test.YtgoidfkdnkjojaaGreatProc
namespace Go.Eng
open Go.Proofs Go.Proofs.Tryz
set_option maxHeartbeats 4000000
set_option maxRecDepth 100000

theorem zStr : zOf prog 9 = some (1, 0) := by kernel_rfl
theorem bStr : prog.bytesOf 9 = 16 := by kernel_rfl
theorem sh_strs {n : Nat} {xs : List D} (h : Shape prog (n + 3) 47 xs) : ∃ l : List ByteArray, xs = [.rs (1, 0) (l.map D.str)] ∧ (∀ x ∈ l, x.size ≤ 140737488351232) ∧ l.length ≤ 140737488351232 := by
  obtain ⟨qs, rfl, h1, h2⟩ := h.slice Tryz.underlying47 zStr
  obtain ⟨l, rfl, hl⟩ := listOf_all (enc := D.str) (p := fun x : ByteArray => x.size ≤ 140737488351232) (ys := qs) (fun x hx => by
    obtain ⟨ps, hs, rfl⟩ := h2 x hx
    obtain ⟨s, rfl, hsz⟩ := hs.str Tryz.underlying9
    exact ⟨s, elemOf_str Tryz.underlying9, hsz⟩)
  rw [bStr, reach_is, List.length_map] at h1
  exact ⟨l, rfl, hl, by omega⟩
structure LimR (p : Pr) : Prop where
  pool : Lim p.m.pool
  box : ∀ x ∈ p.box, x.size ≤ 140737488351232
  blen : p.box.length ≤ 140737488351232
  out : ∀ x ∈ p.out, x.size ≤ 140737488351232
  olen : p.out.length ≤ 140737488351232
theorem arg_pr {x : D} (h : ShapeV prog 58 x) : ∃ p : Pr, x = ePr p ∧ LimR p := by
  obtain ⟨ys, hs, rfl⟩ := h
  obtain ⟨parts, rfl, hp⟩ := hs.struct Tryz.underlying58
  cases hp with | cons r1 hp =>
  cases hp with | cons r2 hp =>
  cases hp with | cons r3 hp =>
  cases hp with | cons r4 hp =>
  cases hp
  obtain ⟨pid, rfl, _⟩ := r1.int Tryz.underlying3
  obtain ⟨m, rfl, hm⟩ := sh_mc r2
  obtain ⟨b, rfl, b1, b2⟩ := sh_strs r3
  obtain ⟨o, rfl, o1, o2⟩ := sh_strs r4
  exact ⟨⟨pid, m, b, o⟩, by rw [elemOf_struct Tryz.underlying58]; rfl, ⟨hm, b1, b2, o1, o2⟩⟩
theorem v_szProc {p : Pr} (hp : LimR p) {left : Int} (h0 : 0 ≤ left) (h1 : left ≤ 1048576) : ∃ n : Int, V 21 [ePr p, .int .i64 left] = some (.int .i64 n, []) ∧ (0 ≤ n → FitsR p ∧ p.m.pool.length ≤ 1048576 ∧ p.box.length ≤ 1048576 ∧ p.out.length ≤ 1048576) := by
  obtain ⟨n, hn, h2, h3⟩ := v_szMachine (m := p.m) hp.pool h0 (by omega)
  by_cases c1 : n < 0
  · refine ⟨-1, ?_, by omega⟩
    rw [elaws_szProc]; simp (disch := first | omega | (simp only [List.length_append, List.length_cons, List.length_nil, List.length_map, mk_size, nat_cast_eq]; omega)) only [↓ocall_ocont, ocont_some, ↓br_true, ↓unn_nil, ↓asI_int, dec_t, hn]
  obtain ⟨n2, hn2, h4, h5⟩ := v_szStringS (l := p.box) (by have := hp.blen; omega) (fun x hx => by have := hp.box x hx; omega) (left := n) (by omega) (by omega)
  by_cases c2 : n2 < 0
  · refine ⟨-1, ?_, by omega⟩
    rw [elaws_szProc]; simp (disch := first | omega | (simp only [List.length_append, List.length_cons, List.length_nil, List.length_map, mk_size, nat_cast_eq]; omega)) only [↓ocall_ocont, ocont_some, ↓br_true, ↓br_false, ↓unn_nil, ↓asI_int, dec_t, dec_f, hn, hn2]
  obtain ⟨n3, hn3, h6, h7⟩ := v_szStringS (l := p.out) (by have := hp.olen; omega) (fun x hx => by have := hp.out x hx; omega) (left := n2) (by omega) (by omega)
  by_cases c3 : n3 < 0
  · refine ⟨-1, ?_, by omega⟩
    rw [elaws_szProc]; simp (disch := first | omega | (simp only [List.length_append, List.length_cons, List.length_nil, List.length_map, mk_size, nat_cast_eq]; omega)) only [↓ocall_ocont, ocont_some, ↓br_true, ↓br_false, ↓unn_nil, ↓asI_int, dec_t, dec_f, hn, hn2, hn3]
  · have h3 := h3 (by omega)
    have h5 := h5 (by omega)
    have h7 := h7 (by omega)
    refine ⟨n3, ?_, fun _ => ⟨⟨lim_fits hp.pool, by omega, fun x hx => by have := h5.2 x hx; omega, by omega, fun x hx => by have := h7.2 x hx; omega, by omega⟩, by omega, by omega, by omega⟩⟩
    rw [elaws_szProc]; simp (disch := first | omega | (simp only [List.length_append, List.length_cons, List.length_nil, List.length_map, mk_size, nat_cast_eq]; omega)) only [↓ocall_ocont, ocont_some, ↓br_false, ↓unn_nil, ↓asI_int, dec_f, hn, hn2, hn3]
theorem v_toProc {p : Pr} (h1 : p.m.pool.length ≤ 4294967296) (h2 : p.box.length ≤ 4294967296) (h3 : p.out.length ≤ 4294967296) : V 23 [ePr p] = some (oPr p, []) := by
  rw [elaws_toProc]; simp (disch := first | omega | (simp only [List.length_append, List.length_cons, List.length_nil, List.length_map, mk_size, nat_cast_eq]; omega)) only [↓ocall_ocont, ocont_some, ↓unn_nil, ↓unc_cons, ↓asI_int, ↓asOs_os, ↓asAgg_agg, v_toMachine (m := p.m) h1, v_toStringS h2, v_toStringS h3]
theorem v_eqProc {p : Pr} (h1 : p.m.pool.length ≤ 4294967296) (h2 : p.box.length ≤ 4294967296) (h3 : p.out.length ≤ 4294967296) : V 18 [ePr p, ePr p] = some (.bool true, []) := by
  rw [elaws_eqProc]; simp (disch := first | omega | (simp only [List.length_append, List.length_cons, List.length_nil, List.length_map, mk_size, nat_cast_eq]; omega)) only [↓ocall_ocont, ocont_some, ↓br_false, ↓unn_nil, ↓asB_bool, bne_f, Bool.not_true, v_eqMachine (m := p.m) (by omega), v_eqStringS (l := p.box) (by omega), v_eqStringS (l := p.out) (by omega)]
end Go.Eng
