/- a law's arguments: pools, code, machines, processes -/
import Derived.Test.YtgoidfkdnkjojaaLists
namespace Go.Eng
open Go.Proofs Go.Proofs.Try
set_option maxHeartbeats 4000000
set_option maxRecDepth 100000

theorem zNode : zOf prog 166 = some (5, 0) := by kernel_rfl
theorem zInstr : zOf prog 184 = some (4, 0) := by kernel_rfl
theorem zDef : zOf prog 187 = some (3, 0) := by kernel_rfl
theorem bNode : prog.bytesOf 166 = 48 := by kernel_rfl
theorem bInstr : prog.bytesOf 184 = 40 := by kernel_rfl
theorem bDef : prog.bytesOf 187 = 32 := by kernel_rfl
theorem reach_is : reachBytes = 140737488351232 := rfl
theorem sh_nodes {n : Nat} {xs : List D} (h : Shape prog (n + 3) 37 xs) : ∃ l : List Nd, xs = [.rs (5, 0) (l.map eN)] ∧ (∀ x ∈ l, x.s.size ≤ 140737488351232) ∧ l.length ≤ 140737488351232 := by
  obtain ⟨qs, rfl, h1, h2⟩ := h.slice Try.underlying37 zNode
  obtain ⟨l, rfl, hl⟩ := listOf_all (enc := eN) (p := fun x : Nd => x.s.size ≤ 140737488351232) (ys := qs) (fun x hx => by
    obtain ⟨ps, hs, rfl⟩ := h2 x hx
    obtain ⟨parts, rfl, hp⟩ := hs.struct Try.underlying166
    cases hp with | cons r1 hp =>
    cases hp with | cons r2 hp =>
    cases hp with | cons r3 hp =>
    cases hp with | cons r4 hp =>
    cases hp with | cons r5 hp =>
    cases hp
    obtain ⟨k, rfl, _⟩ := r1.int Try.underlying3
    obtain ⟨m, rfl, _⟩ := r2.int Try.underlying3
    obtain ⟨s, rfl, hsz⟩ := r3.str Try.underlying9
    obtain ⟨a, rfl, _⟩ := r4.int Try.underlying3
    obtain ⟨b, rfl, _⟩ := r5.int Try.underlying3
    rw [elemOf_struct Try.underlying166]
    exact ⟨⟨k, m, s, a, b⟩, rfl, hsz⟩)
  rw [bNode, reach_is, List.length_map] at h1
  exact ⟨l, rfl, hl, by omega⟩
theorem sh_instrs {n : Nat} {xs : List D} (h : Shape prog (n + 3) 56 xs) : ∃ l : List In, xs = [.rs (4, 0) (l.map eIn)] ∧ (∀ x ∈ l, x.s.size ≤ 140737488351232) ∧ l.length ≤ 140737488351232 := by
  obtain ⟨qs, rfl, h1, h2⟩ := h.slice Try.underlying56 zInstr
  obtain ⟨l, rfl, hl⟩ := listOf_all (enc := eIn) (p := fun x : In => x.s.size ≤ 140737488351232) (ys := qs) (fun x hx => by
    obtain ⟨ps, hs, rfl⟩ := h2 x hx
    obtain ⟨parts, rfl, hp⟩ := hs.struct Try.underlying184
    cases hp with | cons r1 hp =>
    cases hp with | cons r2 hp =>
    cases hp with | cons r3 hp =>
    cases hp with | cons r4 hp =>
    cases hp
    obtain ⟨k, rfl, _⟩ := r1.int Try.underlying3
    obtain ⟨m, rfl, _⟩ := r2.int Try.underlying3
    obtain ⟨a, rfl, _⟩ := r3.int Try.underlying3
    obtain ⟨s, rfl, hsz⟩ := r4.str Try.underlying9
    rw [elemOf_struct Try.underlying184]
    exact ⟨⟨k, m, a, s⟩, rfl, hsz⟩)
  rw [bInstr, reach_is, List.length_map] at h1
  exact ⟨l, rfl, hl, by omega⟩
theorem sh_defs {n : Nat} {xs : List D} (h : Shape prog (n + 3) 57 xs) : ∃ l : List Df, xs = [.rs (3, 0) (l.map eDf)] ∧ (∀ x ∈ l, x.name.size ≤ 140737488351232) ∧ l.length ≤ 140737488351232 := by
  obtain ⟨qs, rfl, h1, h2⟩ := h.slice Try.underlying57 zDef
  obtain ⟨l, rfl, hl⟩ := listOf_all (enc := eDf) (p := fun x : Df => x.name.size ≤ 140737488351232) (ys := qs) (fun x hx => by
    obtain ⟨ps, hs, rfl⟩ := h2 x hx
    obtain ⟨parts, rfl, hp⟩ := hs.struct Try.underlying187
    cases hp with | cons r1 hp =>
    cases hp with | cons r2 hp =>
    cases hp with | cons r3 hp =>
    cases hp
    obtain ⟨s, rfl, hsz⟩ := r1.str Try.underlying9
    obtain ⟨k, rfl, _⟩ := r2.int Try.underlying3
    obtain ⟨m, rfl, _⟩ := r3.int Try.underlying3
    rw [elemOf_struct Try.underlying187]
    exact ⟨⟨s, k, m⟩, rfl, hsz⟩)
  rw [bDef, reach_is, List.length_map] at h1
  exact ⟨l, rfl, hl, by omega⟩
noncomputable def Lim (p : List Nd) : Prop := (∀ x ∈ p, x.s.size ≤ 140737488351232) ∧ p.length ≤ 140737488351232
theorem lim_fits {p : List Nd} (h : Lim p) : Fits p := fun x hx => by have := h.1 x hx; omega
theorem sh_pool {n : Nat} {xs : List D} (h : Shape prog (n + 4) 39 xs) : ∃ l : List Nd, xs = [.rs (5, 0) (l.map eN)] ∧ Lim l := by
  obtain ⟨parts, rfl, hp⟩ := h.struct Try.underlying39
  cases hp with | cons r1 hp =>
  cases hp
  obtain ⟨l, rfl, h1, h2⟩ := sh_nodes r1
  exact ⟨l, rfl, h1, h2⟩
theorem arg_pool {x : D} (h : ShapeV prog 39 x) : ∃ l : List Nd, x = eP l ∧ Lim l := by
  obtain ⟨ys, hs, rfl⟩ := h
  obtain ⟨l, rfl, hl⟩ := sh_pool hs
  exact ⟨l, by rw [elemOf_struct Try.underlying39], hl⟩
theorem arg_cd {x : D} (h : ShapeV prog 59 x) : ∃ c : Cd, x = eCd c ∧ FitsC c ∧ Lim c.pool := by
  obtain ⟨ys, hs, rfl⟩ := h
  obtain ⟨parts, rfl, hp⟩ := hs.struct Try.underlying59
  cases hp with | cons r1 hp =>
  cases hp with | cons r2 hp =>
  cases hp with | cons r3 hp =>
  cases hp
  obtain ⟨p, rfl, hp⟩ := sh_pool r1
  obtain ⟨l, rfl, l1, l2⟩ := sh_instrs r2
  obtain ⟨d, rfl, d1, d2⟩ := sh_defs r3
  refine ⟨⟨p, l, d⟩, by rw [elemOf_struct Try.underlying59]; rfl, ⟨lim_fits hp, ?_, ?_, ?_, ?_, ?_⟩, hp⟩
  · have := hp.2; simp only; omega
  · intro x hx; have := l1 x hx; omega
  · simp only; omega
  · intro x hx; have := d1 x hx; omega
  · simp only; omega
theorem sh_mc {n : Nat} {xs : List D} (h : Shape prog (n + 5) 61 xs) : ∃ m : Mc, xs = [.rs (5, 0) (m.pool.map eN), .int .i64 m.at', .int .i64 m.s, .int .i64 m.e, .int .i64 m.d, .int .i64 m.state, .int .i64 m.ask, .int .i64 m.arg] ∧ Lim m.pool := by
  obtain ⟨parts, rfl, hp⟩ := h.struct Try.underlying61
  cases hp with | cons r1 hp =>
  cases hp with | cons r2 hp =>
  cases hp with | cons r3 hp =>
  cases hp with | cons r4 hp =>
  cases hp with | cons r5 hp =>
  cases hp with | cons r6 hp =>
  cases hp with | cons r7 hp =>
  cases hp with | cons r8 hp =>
  cases hp
  obtain ⟨p, rfl, hp⟩ := sh_pool r1
  obtain ⟨a2, rfl, _⟩ := r2.int Try.underlying3
  obtain ⟨a3, rfl, _⟩ := r3.int Try.underlying3
  obtain ⟨a4, rfl, _⟩ := r4.int Try.underlying3
  obtain ⟨a5, rfl, _⟩ := r5.int Try.underlying3
  obtain ⟨a6, rfl, _⟩ := r6.int Try.underlying3
  obtain ⟨a7, rfl, _⟩ := r7.int Try.underlying3
  obtain ⟨a8, rfl, _⟩ := r8.int Try.underlying3
  exact ⟨⟨p, a2, a3, a4, a5, a6, a7, a8⟩, rfl, hp⟩
theorem arg_mc {x : D} (h : ShapeV prog 61 x) : ∃ m : Mc, x = eMc m ∧ Lim m.pool := by
  obtain ⟨ys, hs, rfl⟩ := h
  obtain ⟨m, rfl, hm⟩ := sh_mc hs
  exact ⟨m, by rw [elemOf_struct Try.underlying61], hm⟩
/-! ## sizes, copies, equality -/
theorem v_szPool {p : List Nd} (hp : Lim p) {left : Int} (h0 : 0 ≤ left) (h1 : left ≤ 4611686018427387904) : ∃ n : Int, V 21 [eP p, .int .i64 left] = some (.int .i64 n, []) ∧ n ≤ left ∧ (0 ≤ n → (p.length : Int) ≤ left) := by
  obtain ⟨n, hn, h2, h3⟩ := v_szNodeS (l := p) (by have := hp.2; omega) (lim_fits hp) h0 h1
  by_cases c : n < 0
  · refine ⟨-1, ?_, by omega, by omega⟩
    rw [elaws_szPool]; simp (disch := first | omega | (simp only [List.length_append, List.length_cons, List.length_nil, List.length_map, mk_size, nat_cast_eq]; omega)) only [↓ocall_ocont, ocont_some, ↓br_true, ↓unn_nil, ↓asI_int, dec_t, hn]
  · refine ⟨n, ?_, h2, h3⟩
    rw [elaws_szPool]; simp (disch := first | omega | (simp only [List.length_append, List.length_cons, List.length_nil, List.length_map, mk_size, nat_cast_eq]; omega)) only [↓ocall_ocont, ocont_some, ↓br_false, ↓unn_nil, ↓asI_int, dec_f, hn]
theorem v_toPool {p : List Nd} (hl : p.length ≤ 4294967296) : V 23 [eP p] = some (oP p, []) := by
  rw [elaws_toPool]; simp (disch := first | omega | (simp only [List.length_append, List.length_cons, List.length_nil, List.length_map, mk_size, nat_cast_eq]; omega)) only [↓ocall_ocont, ocont_some, ↓unn_nil, ↓asOs_os, v_toNodeS hl]
theorem v_szCode {c : Cd} (hf : FitsC c) {left : Int} (h0 : 0 ≤ left) (h1 : left ≤ 4611686018427387904) (hp : Lim c.pool) : ∃ n : Int, V 39 [eCd c, .int .i64 left] = some (.int .i64 n, []) ∧ n ≤ left ∧ (0 ≤ n → (c.pool.length : Int) ≤ left ∧ (c.list.length : Int) ≤ left ∧ (c.defs.length : Int) ≤ left) := by
  obtain ⟨n, hn, h2, h3⟩ := v_szPool hp h0 h1
  by_cases c1 : n < 0
  · refine ⟨-1, ?_, by omega, by omega⟩
    rw [elaws_szCode]; simp (disch := first | omega | (simp only [List.length_append, List.length_cons, List.length_nil, List.length_map, mk_size, nat_cast_eq]; omega)) only [↓ocall_ocont, ocont_some, ↓br_true, ↓unn_nil, ↓asI_int, dec_t, hn]
  obtain ⟨n2, hn2, h4, h5⟩ := v_szInstrS hf.llen hf.list (left := n) (by omega) (by omega)
  by_cases c2 : n2 < 0
  · refine ⟨-1, ?_, by omega, by omega⟩
    rw [elaws_szCode]; simp (disch := first | omega | (simp only [List.length_append, List.length_cons, List.length_nil, List.length_map, mk_size, nat_cast_eq]; omega)) only [↓ocall_ocont, ocont_some, ↓br_true, ↓br_false, ↓unn_nil, ↓asI_int, dec_t, dec_f, hn, hn2]
  obtain ⟨n3, hn3, h6, h7⟩ := v_szDefS hf.dlen hf.defs (left := n2) (by omega) (by omega)
  by_cases c3 : n3 < 0
  · refine ⟨-1, ?_, by omega, by omega⟩
    rw [elaws_szCode]; simp (disch := first | omega | (simp only [List.length_append, List.length_cons, List.length_nil, List.length_map, mk_size, nat_cast_eq]; omega)) only [↓ocall_ocont, ocont_some, ↓br_true, ↓br_false, ↓unn_nil, ↓asI_int, dec_t, dec_f, hn, hn2, hn3]
  · refine ⟨n3, ?_, by omega, fun h => ⟨by omega, by omega, by omega⟩⟩
    rw [elaws_szCode]; simp (disch := first | omega | (simp only [List.length_append, List.length_cons, List.length_nil, List.length_map, mk_size, nat_cast_eq]; omega)) only [↓ocall_ocont, ocont_some, ↓br_false, ↓unn_nil, ↓asI_int, dec_f, hn, hn2, hn3]
theorem v_toCode {c : Cd} (h1 : c.pool.length ≤ 4294967296) (h2 : c.list.length ≤ 4294967296) (h3 : c.defs.length ≤ 4294967296) : V 42 [eCd c] = some (oCd c, []) := by
  rw [elaws_toCode]; simp (disch := first | omega | (simp only [List.length_append, List.length_cons, List.length_nil, List.length_map, mk_size, nat_cast_eq]; omega)) only [↓ocall_ocont, ocont_some, ↓unn_nil, ↓unc_cons, ↓asOs_os, ↓asAgg_agg, v_toPool h1, v_toInstrS h2, v_toDefS h3]
theorem v_eqCode {c : Cd} (hf : FitsC c) : V 45 [eCd c, eCd c] = some (.bool true, []) := by
  rw [elaws_eqCode]; simp (disch := first | omega | (simp only [List.length_append, List.length_cons, List.length_nil, List.length_map, mk_size, nat_cast_eq]; omega)) only [↓ocall_ocont, ocont_some, ↓br_false, ↓unn_nil, ↓asB_bool, Bool.not_true, v_eqPool hf.plen, v_eqInstrS hf.llen, v_eqDefS hf.dlen]
theorem v_szMachine {m : Mc} (hp : Lim m.pool) {left : Int} (h0 : 0 ≤ left) (h1 : left ≤ 4611686018427387904) : ∃ n : Int, V 40 [eMc m, .int .i64 left] = some (.int .i64 n, []) ∧ n ≤ left ∧ (0 ≤ n → (m.pool.length : Int) ≤ left) := by
  obtain ⟨n, hn, h2, h3⟩ := v_szPool hp h0 h1
  by_cases c : n < 0
  · refine ⟨-1, ?_, by omega, by omega⟩
    rw [elaws_szMachine]; simp (disch := first | omega | (simp only [List.length_append, List.length_cons, List.length_nil, List.length_map, mk_size, nat_cast_eq]; omega)) only [↓ocall_ocont, ocont_some, ↓br_true, ↓unn_nil, ↓asI_int, dec_t, hn]
  · refine ⟨n, ?_, h2, h3⟩
    rw [elaws_szMachine]; simp (disch := first | omega | (simp only [List.length_append, List.length_cons, List.length_nil, List.length_map, mk_size, nat_cast_eq]; omega)) only [↓ocall_ocont, ocont_some, ↓br_false, ↓unn_nil, ↓asI_int, dec_f, hn]
theorem v_toMachine {m : Mc} (hl : m.pool.length ≤ 4294967296) : V 43 [eMc m] = some (oMc m, []) := by
  rw [elaws_toMachine]; simp (disch := first | omega | (simp only [List.length_append, List.length_cons, List.length_nil, List.length_map, mk_size, nat_cast_eq]; omega)) only [↓ocall_ocont, ocont_some, ↓unn_nil, ↓unc_cons, ↓asOs_os, ↓asAgg_agg, v_toPool hl]
theorem v_eqMachine {m : Mc} (hl : m.pool.length < 4611686018427387904) : V 46 [eMc m, eMc m] = some (.bool true, []) := by
  rw [elaws_eqMachine]; simp (disch := first | omega | (simp only [List.length_append, List.length_cons, List.length_nil, List.length_map, mk_size, nat_cast_eq]; omega)) only [↓ocall_ocont, ocont_some, ↓br_false, ↓unn_nil, ↓asB_bool, bne_f, Bool.not_true, v_eqPool hl]
end Go.Eng
