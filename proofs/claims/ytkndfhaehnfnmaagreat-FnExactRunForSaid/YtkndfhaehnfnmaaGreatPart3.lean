/- the program and the reference on plain data, part 3 -/
import Derived.Test.YtkndfhaehnfnmaaGreatPart2
import Derived.Test.YtkndfhaehnfnmaaGreatPart1
import Derived.Test.YtkndfhaehnfnmaaGreatEngC
/-! what is reached,on both sides -/
namespace Go.Eng
open Go.Proofs Go.Proofs.Tryz

theorem Ma {α : Type} {l : List α} {p : α → Bool} : decide (ut p l ≥ 0) = l.any p := by
  unfold ut
  cases h : l.findIdx? p with
  | none =>
    have := List.findIdx?_eq_none_iff.1 h
    symm
    simpa [List.any_eq_false] using this
  | some k =>
    have h2 : l.any p = true := by
      rw [List.findIdx?_eq_some_iff_getElem] at h
      obtain ⟨hk,h3,_⟩ := h
      exact List.any_eq_true.2 ⟨l[k],List.getElem_mem hk,h3⟩
    rw [h2]
    simp

noncomputable abbrev eI : Int → D := D.int .i64
theorem wi_iff {n lo hi : Int} : wi n lo hi = true ↔ lo ≤ n ∧ n ≤ hi := by simp [wi]

theorem wJ {p : List Nd} : ∀ {k i j : Nat} {x : Nd},mB p i k = true → i ≤ j → j < i + k → p[j]? = some x → okN x j = true
  | 0,i,j,x,_,h1,h2,_ => by omega
  | k + 1,i,j,x,h,h1,h2,hx => by
    simp only [mB,Bool.and_eq_true] at h
    by_cases e : i = j
    · subst e; rw [hx] at h; exact h.1
    · exact wJ h.2 (by omega) (by omega) hx
theorem gQ {p : List Nd} (h : aW p = true) {j : Nat} {x : Nd} (hx : p[j]? = some x) : okN x j = true := by
  simp only [aW,Bool.and_eq_true] at h
  exact wJ h.1 (Nat.zero_le _) (by have := aK hx; omega) hx
theorem bV {p : List Nd} (h : aW p = true) : p.length ≤ 3000 := by
  simp only [aW,Bool.and_eq_true,decide_eq_true_eq] at h; omega
theorem dK {x : Nd} {h : Int} (ho : okN x h = true) (hk : x.kind = 5) : 0 ≤ x.a ∧ x.a < h ∧ 0 ≤ x.b ∧ x.b < h := by
  simp [okN,hk,wi] at ho; omega
theorem dR {x : Nd} {h : Int} (ho : okN x h = true) (hk : x.kind = 6 ∨ x.kind = 7) : 0 ≤ x.a ∧ x.a < h := by
  rcases hk with hk | hk <;> simp [okN,hk,wi] at ho <;> omega

noncomputable def bx (p : List Nd) (rs : List Int) : Bool := rs.all fun r => wi r 0 ((p.length : Int) - 1)
theorem jE {p : List Nd} (hl : p.length < 4611686018427387904) (r : Int) : V 56 [eP p,.int .i64 r] = some (.bool (wi r 0 ((p.length : Int) - 1)),[]) := by
  rw [BN,bI (bH _ _ _),List.length_map,w64 (by simp only [ni]; omega) (by simp only [ni]; omega)]
theorem qL {p : List Nd} (hl : p.length < 4611686018427387904) (r : Int) : V 61 [eP p,.int .i64 r] = some (.bool (wi r 0 ((p.length : Int) - 1)),[]) := by
  rw [Eo,dH (d7 _ _ _),List.length_map,w64 (by simp only [ni]; omega) (by simp only [ni]; omega)]
theorem xl {p : List Nd} (hl : p.length < 4611686018427387904) {l : List Int} (h2 : l.length < 4611686018427387904) : ∀ (k i : Nat),i + k = l.length → d6 (l.map eI) (p.map eN) (ni (l.map eI).length) (i : Int) = some (.int .i64 (fa (fun r => !wi r 0 ((p.length : Int) - 1)) l i),[])
  | 0,i,hi => by
    rw [ib,ah (by rw [List.length_map]; exact fJ (by omega)),gU (by omega)]
  | k + 1,i,hi => by
    obtain ⟨x,hx⟩ := aA (l := l) (i := i) (by omega)
    have ih := xl hl h2 k (i + 1) (by omega)
    have hr : V 136 [.int .i64 x,.bp [.rs (5,0) (p.map eN)]] = some (.bool (!wi x 0 ((p.length : Int) - 1)),[]) := by
      rw [J6,pQ (jE hl x)]
    rw [ib,ap (by rw [List.length_map]; exact ez (by omega)),av (by rw [List.length_map]; exact bG (by omega)),Int.toNat_natCast,al hx,ax,yi hr]
    cases h : (!wi x 0 ((p.length : Int) - 1)) with
    | true => rw [ar,gV hx h]
    | false => rw [ae,dG (by omega),ih,gd hx h]
theorem My {p : List Nd} (hf : lu p) (hl : p.length < 4611686018427387904) {l : List Int} (h2 : l.length < 4611686018427387904) : V 65 [eP p,.rs (1,0) (l.map eI)] = some (.bool (aW p && bx p l),[]) := by
  have h : V 188 [.rs (1,0) (l.map eI),.fn 136 [.bp [.rs (5,0) (p.map eN)]]] = some (.int .i64 (ut (fun r => !wi r 0 ((p.length : Int) - 1)) l),[]) := by
    rw [r9,← gh]
    exact xl hl h2 l.length 0 (Nat.zero_add _)
  have h3 : V 135 [.rs (1,0) (l.map eI),.fn 136 [.bp [.rs (5,0) (p.map eN)]]] = some (.bool (l.any fun r => !wi r 0 ((p.length : Int) - 1)),[]) := by
    rw [pm,kj h,Ma]
  rw [y0,vy (jq hf hl),jf h3,bA]
  congr 3
  unfold bx
  rw [List.any_eq_not_all_not,Bool.not_not]
  simp
theorem pi {p : List Nd} (hf : lu p) (hl : p.length < 4611686018427387904) {l : List Int} (h2 : l.length < 4611686018427387904) : ∀ (k i : Nat),i + k = l.length → ff (l.map eI) (i : Int) (p.map eN) = some (.bool ((l.drop i).all (fun r => wi r 0 ((p.length : Int) - 1)) && aW p),[])
  | 0,i,hi => by
    rw [kD,ah (by rw [List.length_map]; exact fJ (by omega)),List.drop_of_length_le (by omega),GH (mF hf hl)]; rfl
  | k + 1,i,hi => by
    obtain ⟨x,hx⟩ := aA (l := l) (i := i) (by omega)
    rw [kD,ap (by rw [List.length_map]; exact ez (by omega)),av (by rw [List.length_map]; exact bG (by omega)),Int.toNat_natCast,al hx,ax,JB (qL hl x),dG (by omega),pi hf hl h2 k (i + 1) (by omega),qW,Bool.not_not,iz hx,List.all_cons,Bool.and_assoc]
theorem MH {p : List Nd} (hf : lu p) (hl : p.length < 4611686018427387904) {l : List Int} (h2 : l.length < 4611686018427387904) : V 84 [eP p,.rs (1,0) (l.map eI)] = some (.bool (aW p && bx p l),[]) := by
  have h : ff (l.map eI) 0 (p.map eN) = _ := pi hf hl h2 l.length 0 (Nat.zero_add _)
  rw [zq,h,Bool.and_comm]; rfl

noncomputable def ct (x : Nd) (m : List Bool) : List Bool := if x.kind = 5 then (m.set x.a.toNat true).set x.b.toNat true else if x.kind = 6 ∨ x.kind = 7 then m.set x.a.toNat true else m
noncomputable def cn (p : List Nd) : Nat → List Bool → List Bool
  | 0,m => m
  | k + 1,m => cn p k (match p[k]?,m[k]? with | some x,some true => ct x m | _,_ => m)
noncomputable def nU (rs : List Int) (m : List Bool) : List Bool := rs.foldl (fun m r => m.set r.toNat true) m
noncomputable def eH (p : List Nd) (rs : List Int) : List Bool := cn p p.length (nU rs (List.replicate p.length false))
theorem rA (x : Nd) (m : List Bool) : (ct x m).length = m.length := by
  unfold ct
  split
  · simp
  · split <;> simp
theorem pz {p : List Nd} : ∀ (k : Nat) (m : List Bool),(cn p k m).length = m.length
  | 0,m => rfl
  | k + 1,m => by
    simp only [cn]
    rw [pz k]
    split
    · exact rA _ _
    · rfl
theorem mu : ∀ (rs : List Int) (m : List Bool),(nU rs m).length = m.length
  | [],m => rfl
  | r :: rs,m => by
    have := mu rs (m.set r.toNat true)
    simpa [nU] using this
theorem ew {n : Int} {l : Nat} (h0 : 0 ≤ n) (h1 : n < l) : (decide (0 ≤ n) && decide (n < ni l)) = true := by
  simp only [ni,Bool.and_eq_true,decide_eq_true_eq]; omega
theorem gl {α : Type} {l : List α} {n : Int} (h0 : 0 ≤ n) (h1 : n < l.length) : ∃ x,l[n.toNat]? = some x := aA (by omega)
theorem ju {m : List Bool} {j : Nat} : List.set (m.map D.bool) j (D.bool true) = (m.set j true).map D.bool := by rw [List.map_set]

theorem dT {p : List Nd} (hp : aW p = true) : ∀ (k : Nat) (m : List Bool) (i : Int),i = (k : Int) - 1 → k ≤ p.length → m.length = p.length → db i (p.map eN) (m.map D.bool) = some (.os (1,0) ((cn p k m).map D.bool),[])
  | 0,m,i,hi,hk,hm => by
    rw [mO,ah (decide_eq_false (by omega))]; rfl
  | k + 1,m,i,hi,hk,hm => by
    have hl := bV hp
    have ei : i = (k : Int) := by omega
    subst ei
    obtain ⟨x,hx⟩ := aA (l := p) (i := k) (by omega)
    obtain ⟨b,hb⟩ := aA (l := m) (i := k) (by omega)
    have ho := gQ hp hx
    have hw : IntKind.wrap .i64 ((k : Int) - 1) = (k : Int) - 1 := w64 (by omega) (by omega)
    rw [mO,ap (decide_eq_true (by omega)),av (by rw [List.length_map]; exact bG (by omega)),Int.toNat_natCast,al hb,aw,hw]
    simp only [cn,hx,hb]
    cases b with
    | false => rw [Bool.not_false,ar]; exact dT hp k m _ rfl (by omega) hm
    | true =>
      show _ = some (D.os (1,0) ((cn p k (ct x m)).map D.bool),[])
      rw [Bool.not_true,ae,av (by rw [List.length_map]; exact bG (by omega)),al hx,o5]
      by_cases h5 : x.kind = 5
      · obtain ⟨a0,a1,b0,b1⟩ := dK ho h5
        obtain ⟨u,hu⟩ := gl (l := m) (n := x.a) a0 (by omega)
        obtain ⟨v,hv⟩ := gl (l := m.set x.a.toNat true) (n := x.b) b0 (by simp; omega)
        rw [ap (by simp [h5]),av (by rw [List.length_map]; exact ew a0 (by omega)),al hu,be,ju,av (by rw [List.length_map]; exact ew b0 (by simp; omega)),al hv,be,ju]
        simp only [ct,h5,if_true]
        exact dT hp k _ _ rfl (by omega) (by simp; omega)
      rw [ah (by simp [h5])]
      by_cases h6 : x.kind = 6
      · obtain ⟨a0,a1⟩ := dR ho (.inl h6)
        obtain ⟨u,hu⟩ := gl (l := m) (n := x.a) a0 (by omega)
        rw [ap (by simp [h6]),ap (by simp [h6]),av (by rw [List.length_map]; exact ew a0 (by omega)),al hu,be,ju]
        have e : ct x m = m.set x.a.toNat true := by simp [ct,h6]
        rw [e]
        exact dT hp k _ _ rfl (by omega) (by simp; omega)
      rw [ah (by simp [h6])]
      by_cases h7 : x.kind = 7
      · obtain ⟨a0,a1⟩ := dR ho (.inr h7)
        obtain ⟨u,hu⟩ := gl (l := m) (n := x.a) a0 (by omega)
        rw [ap (by simp [h7]),av (by rw [List.length_map]; exact ew a0 (by omega)),al hu,be,ju]
        have e : ct x m = m.set x.a.toNat true := by simp [ct,h7]
        rw [e]
        exact dT hp k _ _ rfl (by omega) (by simp; omega)
      rw [ah (by simp [h7])]
      have e : ct x m = m := by simp [ct,h5,h6,h7]
      rw [e]
      exact dT hp k _ _ rfl (by omega) hm
theorem dW {p : List Nd} (hp : aW p = true) : ∀ (k : Nat) (m : List Bool) (i : Int),i = (k : Int) - 1 → k ≤ p.length → m.length = p.length → cH i (p.map eN) (m.map D.bool) = some (.os (1,0) ((cn p k m).map D.bool),[])
  | 0,m,i,hi,hk,hm => by
    rw [kE,ah (decide_eq_false (by omega))]; rfl
  | k + 1,m,i,hi,hk,hm => by
    have hl := bV hp
    have ei : i = (k : Int) := by omega
    subst ei
    obtain ⟨x,hx⟩ := aA (l := p) (i := k) (by omega)
    obtain ⟨b,hb⟩ := aA (l := m) (i := k) (by omega)
    have ho := gQ hp hx
    have hw : IntKind.wrap .i64 ((k : Int) - 1) = (k : Int) - 1 := w64 (by omega) (by omega)
    rw [kE,ap (decide_eq_true (by omega)),av (by rw [List.length_map]; exact bG (by omega)),Int.toNat_natCast,al hx,o5,av (by rw [List.length_map]; exact bG (by omega)),al hb,aw,hw]
    simp only [cn,hx,hb]
    cases b with
    | false => rw [Bool.not_false,ar]; exact dW hp k m _ rfl (by omega) hm
    | true =>
      show _ = some (D.os (1,0) ((cn p k (ct x m)).map D.bool),[])
      rw [Bool.not_true,ae]
      by_cases h5 : x.kind = 5
      · obtain ⟨a0,a1,b0,b1⟩ := dK ho h5
        obtain ⟨u,hu⟩ := gl (l := m) (n := x.a) a0 (by omega)
        obtain ⟨v,hv⟩ := gl (l := m.set x.a.toNat true) (n := x.b) b0 (by simp; omega)
        rw [ap (by simp [h5]),av (by rw [List.length_map]; exact ew a0 (by omega)),al hu,be,ju,av (by rw [List.length_map]; exact ew b0 (by simp; omega)),al hv,be,ju]
        simp only [ct,h5,if_true]
        exact dW hp k _ _ rfl (by omega) (by simp; omega)
      rw [ah (by simp [h5])]
      by_cases h6 : x.kind = 6
      · obtain ⟨a0,a1⟩ := dR ho (.inl h6)
        obtain ⟨u,hu⟩ := gl (l := m) (n := x.a) a0 (by omega)
        rw [ap (by simp [h6]),ap (by simp [h6]),av (by rw [List.length_map]; exact ew a0 (by omega)),al hu,be,ju]
        have e : ct x m = m.set x.a.toNat true := by simp [ct,h6]
        rw [e]
        exact dW hp k _ _ rfl (by omega) (by simp; omega)
      rw [ah (by simp [h6])]
      by_cases h7 : x.kind = 7
      · obtain ⟨a0,a1⟩ := dR ho (.inr h7)
        obtain ⟨u,hu⟩ := gl (l := m) (n := x.a) a0 (by omega)
        rw [ap (by simp [h7]),av (by rw [List.length_map]; exact ew a0 (by omega)),al hu,be,ju]
        have e : ct x m = m.set x.a.toNat true := by simp [ct,h7]
        rw [e]
        exact dW hp k _ _ rfl (by omega) (by simp; omega)
      rw [ah (by simp [h7])]
      have e : ct x m = m := by simp [ct,h5,h6,h7]
      rw [e]
      exact dW hp k _ _ rfl (by omega) hm

theorem pp {p : List Nd} (hp : aW p = true) {l : List Int} (h2 : l.length < 4611686018427387904) (hr : bx p l = true) : ∀ (k i : Nat) (m : List Bool),i + k = l.length → m.length = p.length → gv (l.map eI) (ni (l.map eI).length) (i : Int) (p.map eN) (m.map D.bool) = some (.os (1,0) ((cn p p.length (nU (l.drop i) m)).map D.bool),[])
  | 0,i,m,hi,hm => by
    have hl := bV hp
    rw [nD,ah (by rw [List.length_map]; exact fJ (by omega)),List.drop_of_length_le (by omega),List.length_map,w64 (by simp only [ni]; omega) (by simp only [ni]; omega)]
    exact dT hp p.length m _ rfl (Nat.le_refl _) hm
  | k + 1,i,m,hi,hm => by
    obtain ⟨x,hx⟩ := aA (l := l) (i := i) (by omega)
    have hx2 := wi_iff.1 (List.all_eq_true.1 hr x (List.mem_of_getElem? hx))
    obtain ⟨u,hu⟩ := gl (l := m) (n := x) hx2.1 (by omega)
    rw [nD,ap (by rw [List.length_map]; exact ez (by omega)),av (by rw [List.length_map]; exact bG (by omega)),Int.toNat_natCast,al hx,ax,av (by rw [List.length_map]; exact ew hx2.1 (by omega)),al hu,be,ju,dG (by omega),iz hx]
    exact pp hp h2 hr k (i + 1) _ (by omega) (by simp; omega)
theorem pF {p : List Nd} (hp : aW p = true) {l : List Int} (h2 : l.length < 4611686018427387904) (hr : bx p l = true) : ∀ (k i : Nat) (m : List Bool),i + k = l.length → m.length = p.length → fh (l.map eI) (i : Int) (p.map eN) (m.map D.bool) = some (.os (1,0) ((cn p p.length (nU (l.drop i) m)).map D.bool),[])
  | 0,i,m,hi,hm => by
    have hl := bV hp
    rw [ky,ah (by rw [List.length_map]; exact fJ (by omega)),List.drop_of_length_le (by omega),List.length_map,w64 (by simp only [ni]; omega) (by simp only [ni]; omega)]
    exact dW hp p.length m _ rfl (Nat.le_refl _) hm
  | k + 1,i,m,hi,hm => by
    obtain ⟨x,hx⟩ := aA (l := l) (i := i) (by omega)
    have hx2 := wi_iff.1 (List.all_eq_true.1 hr x (List.mem_of_getElem? hx))
    obtain ⟨u,hu⟩ := gl (l := m) (n := x) hx2.1 (by omega)
    rw [ky,ap (by rw [List.length_map]; exact ez (by omega)),av (by rw [List.length_map]; exact bG (by omega)),Int.toNat_natCast,al hx,ax,av (by rw [List.length_map]; exact ew hx2.1 (by omega)),al hu,be,ju,dG (by omega),iz hx]
    exact pF hp h2 hr k (i + 1) _ (by omega) (by simp; omega)
theorem wy {α : Type} {f : α → D} {l : List α} (h : l.length ≤ 4294967296) : (decide (0 ≤ ni (l.map f).length) && decide (ni (l.map f).length ≤ LIM)) = true := by
  rw [Bool.and_eq_true]
  exact ⟨decide_eq_true (by simp only [ni]; omega),decide_eq_true (by rw [cU,List.length_map]; simp only [ni]; omega)⟩
theorem AL {n : Nat} : List.replicate (Int.toNat (ni n)) (D.bool false) = (List.replicate n false).map D.bool := by simp [ni]
theorem PM {p : List Nd} (hp : aW p = true) {l : List Int} (h2 : l.length < 4611686018427387904) (hr : bx p l = true) : V 189 [eP p,.rs (1,0) (l.map eI)] = some (.os (1,0) ((eH p l).map D.bool),[]) := by
  have hl := bV hp
  have h : gv (l.map eI) (ni (l.map eI).length) 0 (p.map eN) ((List.replicate p.length false).map D.bool) = _ := pp hp h2 hr l.length 0 _ (Nat.zero_add _) (by simp)
  have e : (p.map eN).length = p.length := List.length_map _
  rw [FA,av (wy (by omega)),AL,e,h]; rfl
theorem AQ {p : List Nd} (hp : aW p = true) {l : List Int} (h2 : l.length < 4611686018427387904) (hr : bx p l = true) : V 149 [eP p,.rs (1,0) (l.map eI)] = some (.os (1,0) ((eH p l).map D.bool),[]) := by
  have hl := bV hp
  have h : fh (l.map eI) 0 (p.map eN) ((List.replicate p.length false).map D.bool) = _ := pF hp h2 hr l.length 0 _ (Nat.zero_add _) (by simp)
  have e : (p.map eN).length = p.length := List.length_map _
  rw [zl,av (wy (by omega)),AL,e,h]; rfl
end Go.Eng
/-! what is moved into another pool,on both sides -/
namespace Go.Eng
open Go.Proofs Go.Proofs.Tryz

theorem Li {p : List Nd} (h : p.length < 4294967296) (x : D) : decide (ni (p.map eN ++ [x]).length ≤ LIM) = true :=
  decide_eq_true (by rw [cU]; simp only [ni,List.length_append,List.length_map,List.length_cons,List.length_nil]; omega)
theorem lm {p : List Nd} (h : p.length < 4294967296) (x : Nd) : V 157 [rP p,eN x] = some (.int .i64 p.length,[rP (p ++ [x])]) := by
  rw [yI,av (Li h _),be]
  have : IntKind.wrap .i64 (ni (p.map eN ++ [eN x]).length - 1) = p.length := by
    rw [w64 (by simp only [ni]; omega) (by simp only [ni,List.length_append,List.length_map,List.length_cons,List.length_nil]; omega)]
    simp [ni]
  rw [this]; simp
theorem cM {p : List Nd} (h : p.length < 4294967296) (x : Nd) : V 158 [rP p,eN x] = some (.int .i64 p.length,[rP (p ++ [x])]) := by
  rw [Ft,av (Li h _),be]
  have : IntKind.wrap .i64 (ni (p.map eN ++ [eN x]).length - 1) = p.length := by
    rw [w64 (by simp only [ni]; omega) (by simp only [ni,List.length_append,List.length_map,List.length_cons,List.length_nil]; omega)]
    simp [ni]
  rw [this]; simp

noncomputable def bn (pre : List Int) (x : Nd) : Nd :=
  if x.kind = 5 then ⟨x.kind,x.n,x.s,pre.getD x.a.toNat 0,pre.getD x.b.toNat 0⟩
  else if x.kind = 6 ∨ x.kind = 7 then ⟨x.kind,x.n,x.s,pre.getD x.a.toNat 0,x.b⟩ else x
noncomputable def ee (d : Int) (q : List Nd) (m : List Bool) : Nat → List Int → List Nd → List Int × List Nd
  | 0,pre,acc => (pre,acc)
  | k + 1,pre,acc => match q[pre.length]?,m[pre.length]? with
    | some x,some true => ee d q m k (pre ++ [(acc.length : Int)]) (acc ++ [bn pre x])
    | _,_ => ee d q m k (pre ++ [d]) acc
theorem Cj {pre r : List Int} {v u : Int} {i : Nat} (h : pre.length = i) : (pre ++ u :: r).set i v = pre ++ v :: r := by
  subst h; simp
theorem DG {pre r : List Int} {u : Int} {i : Nat} (h : pre.length = i) : (pre ++ u :: r)[i]? = some u := by
  subst h; simp
theorem jB {pre r : List Int} {j : Nat} (h : j < pre.length) : (pre ++ r)[j]? = pre[j]? := List.getElem?_append_left h
theorem lK {l pre : List Int} {n : Int} (h0 : 0 ≤ n) (h1 : n < pre.length) (h : ∀ j,j < pre.length → l[j]? = pre[j]?) : ∃ u,l[n.toNat]? = some u ∧ pre[n.toNat]? = some u := by
  obtain ⟨u,hu⟩ := aA (l := pre) (i := n.toNat) (by omega)
  exact ⟨u,by rw [h _ (by omega),hu],hu⟩
theorem ej {q : List Nd} (hp : aW q = true) {m : List Bool} (hm : m.length = q.length) : ∀ (k i : Nat) (pre : List Int) (acc : List Nd),pre.length = i → i + k = q.length → acc.length + k < 4294967296 →
    bC (q.map eN) (ni (q.map eN).length) (i : Int) ((pre ++ List.replicate k 0).map eI) (m.map D.bool) (acc.map eN) = some (.os (1,0) ((ee (-1) q m k pre acc).1.map eI),[rP (ee (-1) q m k pre acc).2])
  | 0,i,pre,acc,hpre,hi,hc => by
    rw [iR,ah (by rw [List.length_map]; exact fJ (by omega))]
    simp [ee]
  | k + 1,i,pre,acc,hpre,hi,hc => by
    have hl := bV hp
    obtain ⟨x,hx⟩ := aA (l := q) (i := i) (by omega)
    obtain ⟨b,hb⟩ := aA (l := m) (i := i) (by omega)
    have ho := gQ hp hx
    have s1 : List.set ((pre ++ List.replicate (k + 1) 0).map eI) i (eI (-1)) = (pre ++ (-1) :: List.replicate k 0).map eI := by
      rw [← List.map_set,List.replicate_succ,Cj hpre]
    have s2 : ∀ v : Int,List.set ((pre ++ (-1) :: List.replicate k 0).map eI) i (eI v) = (pre ++ [v] ++ List.replicate k 0).map eI := by
      intro v; rw [← List.map_set,Cj hpre]; simp
    have hz : (pre ++ List.replicate (k + 1) 0)[i]? = some 0 := by rw [List.replicate_succ,DG hpre]
    have hz2 : (pre ++ (-1) :: List.replicate k 0)[i]? = some (-1) := DG hpre
    rw [iR,ap (by rw [List.length_map]; exact ez (by omega)),av (by rw [List.length_map]; exact bG (by omega)),Int.toNat_natCast,al hx,o5,av (by rw [List.length_map]; exact bG (by simp; omega)),al hz,be,s1,av (by rw [List.length_map]; exact bG (by omega)),al hb,aw]
    cases b with
    | false =>
      rw [Bool.not_false,ar,dG (by omega)]
      have ih := ej hp hm k (i + 1) (pre ++ [-1]) acc (by simp [hpre]) (by omega) (by omega)
      simp only [ee,hpre,hx,hb]
      simpa using ih
    | true =>
      rw [Bool.not_true,ae]
      by_cases h5 : x.kind = 5
      · obtain ⟨a0,a1,b0,b1⟩ := dK ho h5
        obtain ⟨u,hu,hu'⟩ := lK (l := (pre ++ (-1) :: List.replicate k 0)) (pre := pre) a0 (by omega) (by intro j hj; exact jB hj)
        obtain ⟨v,hv,hv'⟩ := lK (l := (pre ++ (-1) :: List.replicate k 0)) (pre := pre) b0 (by omega) (by intro j hj; exact jB hj)
        have e : bn pre x = ⟨x.kind,x.n,x.s,u,v⟩ := by simp [bn,h5,hu',hv']
        rw [ap (by simp [h5]),av (by rw [List.length_map]; exact ew a0 (by simp; omega)),al hu,ax,av (by rw [List.length_map]; exact ew b0 (by simp; omega)),al hv,ax]
        have ha := lm (p := acc) (by omega) ⟨x.kind,x.n,x.s,u,v⟩
        have ih := ej hp hm k (i + 1) (pre ++ [(acc.length : Int)]) (acc ++ [⟨x.kind,x.n,x.s,u,v⟩]) (by simp [hpre]) (by omega) (by simp; omega)
        rw [cj ha,av (by rw [List.length_map]; exact bG (by simp; omega)),al hz2,be,s2,dG (by omega)]
        simp only [ee,hpre,hx,hb,e]
        exact ih
      rw [ah (by simp [h5])]
      by_cases h6 : x.kind = 6
      · obtain ⟨a0,a1⟩ := dR ho (.inl h6)
        obtain ⟨u,hu,hu'⟩ := lK (l := (pre ++ (-1) :: List.replicate k 0)) (pre := pre) a0 (by omega) (by intro j hj; exact jB hj)
        have e : bn pre x = ⟨x.kind,x.n,x.s,u,x.b⟩ := by simp [bn,h6,hu']
        rw [ap (by simp [h6]),ap (by simp [h6]),av (by rw [List.length_map]; exact ew a0 (by simp; omega)),al hu,ax]
        have ha := lm (p := acc) (by omega) ⟨x.kind,x.n,x.s,u,x.b⟩
        have ih := ej hp hm k (i + 1) (pre ++ [(acc.length : Int)]) (acc ++ [⟨x.kind,x.n,x.s,u,x.b⟩]) (by simp [hpre]) (by omega) (by simp; omega)
        rw [cj ha,av (by rw [List.length_map]; exact bG (by simp; omega)),al hz2,be,s2,dG (by omega)]
        simp only [ee,hpre,hx,hb,e]
        exact ih
      rw [ah (by simp [h6])]
      by_cases h7 : x.kind = 7
      · obtain ⟨a0,a1⟩ := dR ho (.inr h7)
        obtain ⟨u,hu,hu'⟩ := lK (l := (pre ++ (-1) :: List.replicate k 0)) (pre := pre) a0 (by omega) (by intro j hj; exact jB hj)
        have e : bn pre x = ⟨x.kind,x.n,x.s,u,x.b⟩ := by simp [bn,h7,hu']
        rw [ap (by simp [h7]),av (by rw [List.length_map]; exact ew a0 (by simp; omega)),al hu,ax]
        have ha := lm (p := acc) (by omega) ⟨x.kind,x.n,x.s,u,x.b⟩
        have ih := ej hp hm k (i + 1) (pre ++ [(acc.length : Int)]) (acc ++ [⟨x.kind,x.n,x.s,u,x.b⟩]) (by simp [hpre]) (by omega) (by simp; omega)
        rw [cj ha,av (by rw [List.length_map]; exact bG (by simp; omega)),al hz2,be,s2,dG (by omega)]
        simp only [ee,hpre,hx,hb,e]
        exact ih
      rw [ah (by simp [h7])]
      · have e : bn pre x = x := by simp [bn,h5,h6,h7]
        have ha := lm (p := acc) (by omega) x
        have ih := ej hp hm k (i + 1) (pre ++ [(acc.length : Int)]) (acc ++ [x]) (by simp [hpre]) (by omega) (by simp; omega)
        rw [cj ha,av (by rw [List.length_map]; exact bG (by simp; omega)),al hz2,be,s2,dG (by omega)]
        simp only [ee,hpre,hx,hb,e]
        exact ih
theorem eu {q : List Nd} (hp : aW q = true) {m : List Bool} (hm : m.length = q.length) : ∀ (k i : Nat) (pre : List Int) (acc : List Nd),pre.length = i → i + k = q.length → acc.length + k < 4294967296 →
    cN (m.map D.bool) (i : Int) (q.map eN) ((pre ++ List.replicate k 0).map eI) (acc.map eN) = some (.os (1,0) ((ee 0 q m k pre acc).1.map eI),[rP (ee 0 q m k pre acc).2])
  | 0,i,pre,acc,hpre,hi,hc => by
    rw [lN,ah (by rw [List.length_map]; exact fJ (by omega))]
    simp [ee]
  | k + 1,i,pre,acc,hpre,hi,hc => by
    have hl := bV hp
    obtain ⟨x,hx⟩ := aA (l := q) (i := i) (by omega)
    obtain ⟨b,hb⟩ := aA (l := m) (i := i) (by omega)
    have ho := gQ hp hx
    have s2 : ∀ v : Int,List.set ((pre ++ List.replicate (k + 1) 0).map eI) i (eI v) = (pre ++ [v] ++ List.replicate k 0).map eI := by
      intro v; rw [← List.map_set,List.replicate_succ,Cj hpre]; simp
    have hz2 : (pre ++ List.replicate (k + 1) 0)[i]? = some 0 := by rw [List.replicate_succ,DG hpre]
    rw [lN,ap (by rw [List.length_map]; exact ez (by omega)),av (by rw [List.length_map]; exact bG (by omega)),Int.toNat_natCast,al hb,aw]
    cases b with
    | false =>
      rw [Bool.not_false,ar,dG (by omega)]
      have ih := eu hp hm k (i + 1) (pre ++ [0]) acc (by simp [hpre]) (by omega) (by omega)
      simp only [ee,hpre,hx,hb]
      simpa [List.replicate_succ] using ih
    | true =>
      rw [Bool.not_true,ae,av (by rw [List.length_map]; exact bG (by omega)),al hx,o5]
      by_cases h5 : x.kind = 5
      · obtain ⟨a0,a1,b0,b1⟩ := dK ho h5
        obtain ⟨u,hu,hu'⟩ := lK (l := (pre ++ List.replicate (k + 1) 0)) (pre := pre) a0 (by omega) (by intro j hj; exact jB hj)
        obtain ⟨v,hv,hv'⟩ := lK (l := (pre ++ List.replicate (k + 1) 0)) (pre := pre) b0 (by omega) (by intro j hj; exact jB hj)
        have e : bn pre x = ⟨x.kind,x.n,x.s,u,v⟩ := by simp [bn,h5,hu',hv']
        rw [ap (by simp [h5]),av (by rw [List.length_map]; exact ew a0 (by simp; omega)),al hu,ax,av (by rw [List.length_map]; exact ew b0 (by simp; omega)),al hv,ax]
        have ha := cM (p := acc) (by omega) ⟨x.kind,x.n,x.s,u,v⟩
        have ih := eu hp hm k (i + 1) (pre ++ [(acc.length : Int)]) (acc ++ [⟨x.kind,x.n,x.s,u,v⟩]) (by simp [hpre]) (by omega) (by simp; omega)
        rw [bm ha,av (by rw [List.length_map]; exact bG (by simp; omega)),al hz2,be,s2,dG (by omega)]
        simp only [ee,hpre,hx,hb,e]
        exact ih
      rw [ah (by simp [h5])]
      by_cases h6 : x.kind = 6
      · obtain ⟨a0,a1⟩ := dR ho (.inl h6)
        obtain ⟨u,hu,hu'⟩ := lK (l := (pre ++ List.replicate (k + 1) 0)) (pre := pre) a0 (by omega) (by intro j hj; exact jB hj)
        have e : bn pre x = ⟨x.kind,x.n,x.s,u,x.b⟩ := by simp [bn,h6,hu']
        rw [ap (by simp [h6]),ap (by simp [h6]),av (by rw [List.length_map]; exact ew a0 (by simp; omega)),al hu,ax]
        have ha := cM (p := acc) (by omega) ⟨x.kind,x.n,x.s,u,x.b⟩
        have ih := eu hp hm k (i + 1) (pre ++ [(acc.length : Int)]) (acc ++ [⟨x.kind,x.n,x.s,u,x.b⟩]) (by simp [hpre]) (by omega) (by simp; omega)
        rw [bm ha,av (by rw [List.length_map]; exact bG (by simp; omega)),al hz2,be,s2,dG (by omega)]
        simp only [ee,hpre,hx,hb,e]
        exact ih
      rw [ah (by simp [h6])]
      by_cases h7 : x.kind = 7
      · obtain ⟨a0,a1⟩ := dR ho (.inr h7)
        obtain ⟨u,hu,hu'⟩ := lK (l := (pre ++ List.replicate (k + 1) 0)) (pre := pre) a0 (by omega) (by intro j hj; exact jB hj)
        have e : bn pre x = ⟨x.kind,x.n,x.s,u,x.b⟩ := by simp [bn,h7,hu']
        rw [ap (by simp [h7]),av (by rw [List.length_map]; exact ew a0 (by simp; omega)),al hu,ax]
        have ha := cM (p := acc) (by omega) ⟨x.kind,x.n,x.s,u,x.b⟩
        have ih := eu hp hm k (i + 1) (pre ++ [(acc.length : Int)]) (acc ++ [⟨x.kind,x.n,x.s,u,x.b⟩]) (by simp [hpre]) (by omega) (by simp; omega)
        rw [bm ha,av (by rw [List.length_map]; exact bG (by simp; omega)),al hz2,be,s2,dG (by omega)]
        simp only [ee,hpre,hx,hb,e]
        exact ih
      rw [ah (by simp [h7])]
      · have e : bn pre x = x := by simp [bn,h5,h6,h7]
        have ha := cM (p := acc) (by omega) x
        have ih := eu hp hm k (i + 1) (pre ++ [(acc.length : Int)]) (acc ++ [x]) (by simp [hpre]) (by omega) (by simp; omega)
        rw [bm ha,av (by rw [List.length_map]; exact bG (by simp; omega)),al hz2,be,s2,dG (by omega)]
        simp only [ee,hpre,hx,hb,e]
        exact ih
end Go.Eng
/-! what is kept: both sides keep the same -/
namespace Go.Eng
open Go.Proofs Go.Proofs.Tryz

theorem fp (p : List Nd) (rs : List Int) : (eH p rs).length = p.length := by
  unfold eH; rw [pz,mu]; simp
noncomputable def eF (d : Int) (q : List Nd) (rs : List Int) (acc : List Nd) : List Int × List Nd := ee d q (eH q rs) q.length [] acc
theorem EE {n : Nat} : List.replicate (Int.toNat (ni n)) (D.int .i64 0) = (List.replicate n (0 : Int)).map eI := by simp [ni]
theorem FJ {q acc : List Nd} (hp : aW q = true) {rs : List Int} (h2 : rs.length < 4611686018427387904) (hr : bx q rs = true) (hc : acc.length + q.length < 4294967296) :
    V 137 [rP acc,eP q,.rs (1,0) (rs.map eI)] = some (.os (1,0) ((eF (-1) q rs acc).1.map eI),[rP (eF (-1) q rs acc).2]) := by
  have e : (q.map eN).length = q.length := List.length_map _
  have h := ej hp (fp q rs) q.length 0 [] acc rfl (Nat.zero_add _) hc
  rw [List.nil_append] at h
  rw [sF,av (wy (by omega)),KB (PM hp h2 hr)]
  have h0 : List.replicate (Int.toNat (ni (q.map eN).length)) (D.int .i64 0) = (List.replicate q.length (0 : Int)).map eI := by rw [e]; exact EE
  rw [h0]
  exact h
theorem Gf {q acc : List Nd} (hp : aW q = true) {rs : List Int} (hc : acc.length + q.length < 4294967296) :
    V 148 [rP acc,eP q,.rs (1,0) ((eH q rs).map D.bool)] = some (.os (1,0) ((eF 0 q rs acc).1.map eI),[rP (eF 0 q rs acc).2]) := by
  have e : (q.map eN).length = q.length := List.length_map _
  have h := eu hp (fp q rs) q.length 0 [] acc rfl (Nat.zero_add _) hc
  rw [List.nil_append] at h
  have h0 : List.replicate (Int.toNat (ni (q.map eN).length)) (D.int .i64 0) = (List.replicate q.length (0 : Int)).map eI := by rw [e]; exact EE
  rw [Dr,av (wy (by omega)),h0]
  exact h

theorem gR (d : Int) (q : List Nd) (m : List Bool) : ∀ (k : Nat) (pre : List Int) (acc : List Nd),(ee d q m k pre acc).1.length = pre.length + k
  | 0,pre,acc => rfl
  | k + 1,pre,acc => by
    simp only [ee]
    split
    · rw [gR d q m k]; simp; omega
    · rw [gR d q m k]; simp; omega
theorem tp (d : Int) (q : List Nd) (m : List Bool) : ∀ (k : Nat) (pre : List Int) (acc : List Nd),(ee d q m k pre acc).2.length ≤ acc.length + k
  | 0,pre,acc => Nat.le_refl _
  | k + 1,pre,acc => by
    simp only [ee]
    split
    · have := tp d q m k (pre ++ [(acc.length : Int)]) (acc ++ [bn pre ‹Nd›]); simp at this; omega
    · have := tp d q m k (pre ++ [d]) acc; omega

noncomputable def cE (d : Int) (q : List Nd) (rs : List Int) : List Nd × List Int := ((eF d q rs []).2,rs.map fun r => (eF d q rs []).1.getD r.toNat 0)
theorem KW {l : List Int} (h : l.length < 4294967296) (x : D) : decide (ni (l.map eI ++ [x]).length ≤ LIM) = true :=
  decide_eq_true (by rw [cU]; simp only [ni,List.length_append,List.length_map,List.length_cons,List.length_nil]; omega)
theorem qr {n : Nat} {a : List Int} (ha : a.length = n) {p : List D} {l : List Int} (h2 : l.length < 4294967296) (hr : ∀ r ∈ l,0 ≤ r ∧ r < (n : Int)) : ∀ (k i : Nat) (out : List Int),i + k = l.length → out.length = i → ka (l.map eI) (ni (l.map eI).length) (i : Int) (a.map eI) (out.map eI) p = some (.tup [.agg [.os (5,0) p],.os (1,0) ((out ++ (l.drop i).map fun r => a.getD r.toNat 0).map eI)],[])
  | 0,i,out,hi,ho => by
    rw [pe,ah (by rw [List.length_map]; exact fJ (by omega)),List.drop_of_length_le (by omega)]; simp
  | k + 1,i,out,hi,ho => by
    obtain ⟨x,hx⟩ := aA (l := l) (i := i) (by omega)
    have hx2 := hr x (List.mem_of_getElem? hx)
    obtain ⟨u,hu⟩ := gl (l := a) (n := x) hx2.1 (by omega)
    have e : out.map eI ++ [D.int .i64 u] = (out ++ [u]).map eI := by simp
    have eg : a.getD x.toNat 0 = u := by simp [hu]
    rw [pe,ap (by rw [List.length_map]; exact ez (by omega)),av (by rw [List.length_map]; exact bG (by omega)),Int.toNat_natCast,al hx,ax,av (by rw [List.length_map]; exact ew hx2.1 (by omega)),al hu,ax,av (KW (by omega) _),be,dG (by omega),e,iz hx,List.map_cons,eg]
    have ih := qr ha (p := p) h2 hr k (i + 1) (out ++ [u]) (by omega) (by simp; omega)
    rw [List.append_assoc] at ih
    exact ih
theorem qx {n : Nat} {a : List Int} (ha : a.length = n) {p : List D} {l : List Int} (h2 : l.length < 4294967296) (hr : ∀ r ∈ l,0 ≤ r ∧ r < (n : Int)) : ∀ (k i : Nat) (out : List Int),i + k = l.length → out.length = i → il (l.map eI) (i : Int) (a.map eI) (out.map eI) p = some (.tup [.agg [.os (5,0) p],.os (1,0) ((out ++ (l.drop i).map fun r => a.getD r.toNat 0).map eI)],[])
  | 0,i,out,hi,ho => by
    rw [lQ,ah (by rw [List.length_map]; exact fJ (by omega)),List.drop_of_length_le (by omega)]; simp
  | k + 1,i,out,hi,ho => by
    obtain ⟨x,hx⟩ := aA (l := l) (i := i) (by omega)
    have hx2 := hr x (List.mem_of_getElem? hx)
    obtain ⟨u,hu⟩ := gl (l := a) (n := x) hx2.1 (by omega)
    have e : out.map eI ++ [D.int .i64 u] = (out ++ [u]).map eI := by simp
    have eg : a.getD x.toNat 0 = u := by simp [hu]
    rw [lQ,ap (by rw [List.length_map]; exact ez (by omega)),av (by rw [List.length_map]; exact bG (by omega)),Int.toNat_natCast,al hx,ax,av (by rw [List.length_map]; exact ew hx2.1 (by omega)),al hu,ax,av (KW (by omega) _),be,dG (by omega),e,iz hx,List.map_cons,eg]
    have ih := qx ha (p := p) h2 hr k (i + 1) (out ++ [u]) (by omega) (by simp; omega)
    rw [List.append_assoc] at ih
    exact ih
theorem kH {p : List Nd} {rs : List Int} (hr : bx p rs = true) : ∀ r ∈ rs,0 ≤ r ∧ r < (p.length : Int) := by
  intro r h
  have := wi_iff.1 (List.all_eq_true.1 hr r h)
  omega
theorem Qo {q : List Nd} (hp : aW q = true) {rs : List Int} (h2 : rs.length < 4294967296) (hr : bx q rs = true) :
    V 66 [eP q,.rs (1,0) (rs.map eI)] = some (.tup [oP (cE (-1) q rs).1,.os (1,0) ((cE (-1) q rs).2.map eI)],[]) := by
  have hl := bV hp
  have hm : V 137 [.op [.os (5,0) []],eP q,.rs (1,0) (rs.map eI)] = _ := FJ (acc := []) hp (rs := rs) (by omega) hr (by simp; omega)
  have h := qr (gR (-1) q (eH q rs) q.length [] []) (p := (eF (-1) q rs []).2.map eN) h2 (by simpa using kH hr) rs.length 0 [] (Nat.zero_add _) rfl
  rw [KJ,pH hm]
  exact h
theorem OX {q : List Nd} (hp : aW q = true) {rs : List Int} (h2 : rs.length < 4294967296) (hr : bx q rs = true) :
    V 86 [eP q,.rs (1,0) (rs.map eI)] = some (.tup [oP (cE 0 q rs).1,.os (1,0) ((cE 0 q rs).2.map eI)],[]) := by
  have hl := bV hp
  have hm : V 148 [.op [.os (5,0) []],eP q,.rs (1,0) ((eH q rs).map D.bool)] = _ := Gf (acc := []) hp (rs := rs) (by simp; omega)
  have h := qx (gR 0 q (eH q rs) q.length [] []) (p := (eF 0 q rs []).2.map eN) h2 (by simpa using kH hr) rs.length 0 [] (Nat.zero_add _) rfl
  rw [C6,tw (AQ hp (by omega) hr),vV hm]
  exact h

noncomputable def On (m : List Bool) (n : Int) : Prop := m[n.toNat]? = some true
theorem yR {m : List Bool} {j i : Nat} (h : m[j]? = some true) : (m.set i true)[j]? = some true := by
  by_cases e : i = j
  · subst e; simp [aK h]
  · rw [List.getElem?_set_ne e]; exact h
theorem wG {m : List Bool} {i : Nat} (h : i < m.length) : (m.set i true)[i]? = some true := by simp [h]
theorem Nw {x : Nd} {m : List Bool} {j : Nat} (h : m[j]? = some true) : (ct x m)[j]? = some true := by
  unfold ct
  split
  · exact yR (yR h)
  · split
    · exact yR h
    · exact h
theorem lh {p : List Nd} : ∀ (k : Nat) {m : List Bool} {j : Nat},m[j]? = some true → (cn p k m)[j]? = some true
  | 0,m,j,h => h
  | k + 1,m,j,h => by
    simp only [cn]
    apply lh k
    split
    · exact Nw h
    · exact h
theorem LT {p : List Nd} (hp : aW p = true) {k : Nat} {x : Nd} (hx : p[k]? = some x) {m : List Bool} {j : Nat} (h : k ≤ j) : (ct x m)[j]? = m[j]? := by
  have ho := gQ hp hx
  unfold ct
  split
  · rename_i h5
    have := dK ho h5
    rw [List.getElem?_set_ne (by omega),List.getElem?_set_ne (by omega)]
  · split
    · rename_i h6
      have := dR ho h6
      rw [List.getElem?_set_ne (by omega)]
    · rfl
theorem yw {p : List Nd} (hp : aW p = true) : ∀ (k : Nat) {m : List Bool} {j : Nat},k ≤ j → (cn p k m)[j]? = m[j]?
  | 0,m,j,h => rfl
  | k + 1,m,j,h => by
    simp only [cn]
    rw [yw hp k (by omega)]
    split
    · rename_i x hx _; exact LT hp ‹_› (by omega)
    · rfl
noncomputable def I4 (p : List Nd) (m : List Bool) : Prop := ∀ (i : Nat) (x : Nd),p[i]? = some x → m[i]? = some true → (x.kind = 5 → On m x.a ∧ On m x.b) ∧ (x.kind = 6 ∨ x.kind = 7 → On m x.a)
theorem pO {p : List Nd} (hp : aW p = true) : ∀ (k : Nat) {m : List Bool},m.length = p.length → ∀ (i : Nat) (x : Nd),i < k → p[i]? = some x → (cn p k m)[i]? = some true → (x.kind = 5 → On (cn p k m) x.a ∧ On (cn p k m) x.b) ∧ (x.kind = 6 ∨ x.kind = 7 → On (cn p k m) x.a)
  | 0,m,hm,i,x,hi,_,_ => by omega
  | k + 1,m,hm,i,x,hi,hx,hr => by
    by_cases e : i = k
    · subst e
      have ho := gQ hp hx
      rw [cn] at hr ⊢
      have hmi : m[i]? = some true := by
        rw [yw hp i (Nat.le_refl _)] at hr
        split at hr
        · assumption
        · exact hr
      rw [hx,hmi]
      show (_ → On (cn p i (ct x m)) x.a ∧ On (cn p i (ct x m)) x.b) ∧ (_ → On (cn p i (ct x m)) x.a)
      have hlt := aK hx
      refine ⟨fun h5 => ?_,fun h6 => ?_⟩
      · have := dK ho h5
        have ea : (ct x m)[x.a.toNat]? = some true := by
          simp only [ct,h5,if_true]
          exact yR (wG (by omega))
        have eb : (ct x m)[x.b.toNat]? = some true := by
          simp only [ct,h5,if_true]
          exact wG (by simp; omega)
        exact ⟨lh i ea,lh i eb⟩
      · have := dR ho h6
        have ea : (ct x m)[x.a.toNat]? = some true := by
          have h5 : ¬ x.kind = 5 := by omega
          simp only [ct,h5,h6,if_false,if_true]
          exact wG (by omega)
        exact lh i ea
    · rw [cn] at hr ⊢
      refine pO hp k ?_ i x (by omega) hx hr
      split
      · rw [rA]; exact hm
      · exact hm
theorem gD {p : List Nd} (hp : aW p = true) (rs : List Int) : I4 p (eH p rs) := by
  intro i x hx hr
  exact pO hp p.length (by rw [mu]; simp) i x (aK hx) hx hr
theorem Nq {rs : List Int} : ∀ {m : List Bool} {r : Int},(r ∈ rs ∧ r.toNat < m.length) ∨ m[r.toNat]? = some true → (nU rs m)[r.toNat]? = some true := by
  induction rs with
  | nil => intro m r h; rcases h with h | h; exact absurd h.1 (by simp); exact h
  | cons q rs ih =>
    intro m r h
    show (nU rs (m.set q.toNat true))[r.toNat]? = some true
    apply ih
    rcases h with ⟨h,hl⟩ | h
    · rcases List.mem_cons.1 h with rfl | h
      · right; simp [hl]
      · left; exact ⟨h,by simpa using hl⟩
    · right; exact yR h
theorem jD {p : List Nd} {rs : List Int} (hr : bx p rs = true) : ∀ r ∈ rs,On (eH p rs) r := by
  intro r h
  have := kH hr r h
  exact lh _ (Nq (.inl ⟨h,by simp; omega⟩))

theorem qN {q : List Nd} (hp : aW q = true) {m : List Bool} (hc : I4 q m) (hm : m.length = q.length) (d d' : Int) : ∀ (k : Nat) (pre pre' : List Int) (acc : List Nd),pre.length = pre'.length → pre.length + k = q.length → (∀ j : Nat,m[j]? = some true → pre[j]? = pre'[j]?) →
    (ee d q m k pre acc).2 = (ee d' q m k pre' acc).2 ∧ ∀ j : Nat,m[j]? = some true → (ee d q m k pre acc).1[j]? = (ee d' q m k pre' acc).1[j]?
  | 0,pre,pre',acc,hl,hk,h => ⟨rfl,h⟩
  | k + 1,pre,pre',acc,hl,hk,h => by
    obtain ⟨x,hx⟩ := aA (l := q) (i := pre.length) (by omega)
    obtain ⟨b,hb⟩ := aA (l := m) (i := pre.length) (by omega)
    have step : ∀ (u u' : Int),(b = true → u = u') → ∀ j : Nat,m[j]? = some true → (pre ++ [u])[j]? = (pre' ++ [u'])[j]? := by
      intro u u' huu j hj
      rcases Nat.lt_trichotomy j pre.length with h1 | h1 | h1
      · rw [List.getElem?_append_left h1,List.getElem?_append_left (by omega)]; exact h j hj
      · subst h1
        rw [hb] at hj; cases hj
        rw [List.getElem?_append_right (Nat.le_refl _),hl,List.getElem?_append_right (Nat.le_refl _),huu rfl]
      · rw [List.getElem?_eq_none (by simp; omega),List.getElem?_eq_none (by simp; omega)]
    have hb' := hb
    have hx' := hx
    rw [hl] at hb' hx'
    simp only [ee,hx,hb,hx',hb']
    cases b with
    | false => exact qN hp hc hm d d' k _ _ acc (by simp; omega) (by simp; omega) (step d d' (fun h => by cases h))
    | true =>
      have hcl := hc _ x hx hb
      have e : bn pre x = bn pre' x := by
        unfold bn
        split
        · rename_i h5
          have h1 := h _ (hcl.1 h5).1
          have h2 := h _ (hcl.1 h5).2
          simp only [List.getD_eq_getElem?_getD,h1,h2]
        · split
          · rename_i h6
            have h1 := h _ (hcl.2 h6)
            simp only [List.getD_eq_getElem?_getD,h1]
          · rfl
      have ih := qN hp hc hm d d' k (pre ++ [(acc.length : Int)]) (pre' ++ [(acc.length : Int)]) (acc ++ [bn pre x]) (by simp; omega) (by simp; omega) (step _ _ (fun _ => rfl))
      rw [e] at ih
      simp only [e]
      exact ih
theorem IY {q : List Nd} (hp : aW q = true) {rs : List Int} (hr : bx q rs = true) (d d' : Int) : cE d q rs = cE d' q rs := by
  have h := qN hp (gD hp rs) (fp q rs) d d' q.length [] [] [] rfl (Nat.zero_add _) (fun _ _ => rfl)
  unfold cE
  refine Prod.ext h.1 ?_
  apply List.map_congr_left
  intro r hm
  have := h.2 r.toNat (jD hr r hm)
  simp only [List.getD_eq_getElem?_getD]
  exact congrArg (fun o => Option.getD o 0) this
end Go.Eng
/-! decimal digits,on both sides -/
namespace Go.Eng
open Go.Proofs Go.Proofs.Tryz

end Go.Eng
/-! what is written of a value: the reference's side -/
namespace Go.Eng
open Go.Proofs Go.Proofs.Tryz

noncomputable def QX (x : Nd) : List UInt8 :=
  if x.kind = 1 then [40,41]
  else if x.kind = 2 then (if x.n = 1 then [35,116] else [35,102])
  else if x.kind = 3 then LK x.n
  else if x.kind = 4 then x.s.data.toList
  else if x.kind = 6 then [35,102,117,110] ++ LK x.n
  else if x.kind = 7 then [35,107,111,110,116] ++ LK x.n
  else if x.kind = 8 then [35,112,114,105,109] ++ LK x.n
  else [35,112,105,100] ++ LK x.n
noncomputable def wr (p : List Nd) : Nat → Bool → Nat → List UInt8 → List UInt8
  | 0,_,_,out => out
  | g + 1,false,v,out => if out.length > 400 then out else
    match p[v]? with
    | some x => if x.kind = 5 then wr p g true x.b.toNat (wr p g false x.a.toNat (out ++ [40])) else out ++ QX x
    | none => out
  | g + 1,true,v,out =>
    match p[v]? with
    | some x => if x.kind = 5 ∧ out.length ≤ 400 then wr p g true x.b.toNat (wr p g false x.a.toNat (out ++ [32]))
      else if x.kind = 1 then out ++ [41] else wr p g false v (out ++ [32,46,32]) ++ [41]
    | none => out
end Go.Eng
/-! what is written of a value: the program's side,as plain lists -/
namespace Go.Eng
open Go.Proofs Go.Proofs.Tryz

end Go.Eng
/-! what is written of a value: the program's side -/
namespace Go.Eng
open Go.Proofs Go.Proofs.Tryz

theorem lit (l : List UInt8) : (ByteArray.mk l.toArray) = mk l := rfl
end Go.Eng
/-! code and machines: when they are right,on both sides -/
namespace Go.Eng
open Go.Proofs Go.Proofs.Tryz
set_option maxHeartbeats 4000000

structure In where
  op : Int
  n : Int
  i : Int
  s : ByteArray
structure Df where
  name : ByteArray
  at' : Int
  args : Int
structure Cd where
  pool : List Nd
  list : List In
  defs : List Df
noncomputable abbrev eIn (x : In) : D := .agg [.int .i64 x.op,.int .i64 x.n,.int .i64 x.i,.str x.s]
noncomputable abbrev eDf (x : Df) : D := .agg [.str x.name,.int .i64 x.at',.int .i64 x.args]
noncomputable abbrev eCd (c : Cd) : D := .agg [.rs (5,0) (c.pool.map eN),.rs (4,0) (c.list.map eIn),.rs (3,0) (c.defs.map eDf)]
noncomputable abbrev oCd (c : Cd) : D := .agg [.os (5,0) (c.pool.map eN),.os (4,0) (c.list.map eIn),.os (3,0) (c.defs.map eDf)]
structure FitsC (c : Cd) : Prop where
  pool : lu c.pool
  plen : c.pool.length < 4611686018427387904
  list : ∀ x ∈ c.list,x.s.size < 4611686018427387904
  llen : c.list.length < 4611686018427387904
  defs : ∀ x ∈ c.defs,x.name.size < 4611686018427387904
  dlen : c.defs.length < 4611686018427387904
section
variable {R : Type}
theorem NT (x : In) (K : Int → Int → Int → ByteArray → Option R) : wt (eIn x) (fun n4 n7 n10 s13 => (K n4 n7 n10 s13)) = K x.op x.n x.i x.s := rfl
end
noncomputable def j5 (c : Cd) (s : ByteArray) : Int := ut (fun d : Df => aQ d.name s) c.defs
theorem rh {l : List Df} (hl : l.length < 4611686018427387904) (s : ByteArray) : ∀ (k i : Nat),i + k = l.length → eZ (l.map eDf) s (ni (l.map eDf).length) (i : Int) = some (.int .i64 (fa (fun d : Df => aQ d.name s) l i),[])
  | 0,i,hi => by
    rw [ja,gU (by omega)]
    simp (disch := first | omega | (simp only [List.length_append,List.length_cons,List.length_nil,List.length_map,ak,aa]; omega)) only [↓ae,cJ,List.length_map,aa]
  | k + 1,i,hi => by
    obtain ⟨x,hx⟩ := aA (l := l) (i := i) (by omega)
    have ih := rh hl s k (i + 1) (by omega)
    have hd : V 179 [eDf x,.bp [.str s]] = some (.bool (aQ x.name s),[]) := by rw [Pd]
    have hw : IntKind.wrap IntKind.i64 ((i : Int) + 1) = ((i + 1 : Nat) : Int) := dG (by omega)
    rw [ja]
    cases h : aQ x.name s with
    | true => rw [gV hx h]; rw [h] at hd; simp (disch := first | omega | (simp only [List.length_append,List.length_cons,List.length_nil,List.length_map,ak,aa]; omega)) only [↓af,aj,↓ar,↓aH,↓aq,↓aF,↓ax,↓aw,↓a9,↓au,↓aR,ba,Bool.and_true,List.length_map,aa,↓al hx,hd]
    | false =>
      rw [h] at hd
      rw [gd hx h,← ih,List.length_map]; simp (disch := first | omega | (simp only [List.length_append,List.length_cons,List.length_nil,List.length_map,ak,aa]; omega)) only [↓af,aj,↓ar,↓ae,↓aH,↓aq,↓aF,↓ax,↓aw,↓a9,↓au,↓aR,ba,Bool.and_true,aa,↓al hx,hd,hw]
theorem tl {c : Cd} (hf : FitsC c) (s : ByteArray) : V 125 [eCd c,.str s] = some (.int .i64 (j5 c s),[]) := by
  have h := rh hf.dlen s c.defs.length 0 (Nat.zero_add _)
  rw [gh,Int.natCast_zero] at h
  have h2 : V 178 [.rs (3,0) (c.defs.map eDf),.fn 179 [.bp [.str s]]] = some (.int .i64 (j5 c s),[]) := by
    rw [uO]; exact h
  rw [FK]
  simp (disch := first | omega | (simp only [List.length_append,List.length_cons,List.length_nil,List.length_map,ak,aa]; omega)) only [↓af,aj,↓aq,↓ax,h2]
theorem rI {l : List Df} (hl : l.length < 4611686018427387904) (s : ByteArray) (p q : List D) : ∀ (k i : Nat),i + k = l.length → jt s (i : Int) p q (l.map eDf) = some (.int .i64 (fa (fun d : Df => aQ d.name s) l i),[])
  | 0,i,hi => by
    rw [nk,gU (by omega)]
    simp (disch := first | omega | (simp only [List.length_append,List.length_cons,List.length_nil,List.length_map,ak,aa]; omega)) only [↓ae,cJ,List.length_map,aa]
  | k + 1,i,hi => by
    obtain ⟨x,hx⟩ := aA (l := l) (i := i) (by omega)
    have ih := rI hl s p q k (i + 1) (by omega)
    have hw : IntKind.wrap IntKind.i64 ((i : Int) + 1) = ((i + 1 : Nat) : Int) := dG (by omega)
    rw [nk]
    cases h : aQ x.name s with
    | true => rw [gV hx h]; simp (disch := first | omega | (simp only [List.length_append,List.length_cons,List.length_nil,List.length_map,ak,aa]; omega)) only [↓ar,↓aH,↓a9,↓au,↓cy,cy,↓aR,ba,Bool.and_true,List.length_map,aa,↓al hx,h]
    | false => rw [gd hx h,← ih]; simp (disch := first | omega | (simp only [List.length_append,List.length_cons,List.length_nil,List.length_map,ak,aa]; omega)) only [↓ar,↓ae,↓aH,↓a9,↓au,↓cy,cy,↓aR,ba,Bool.and_true,List.length_map,aa,↓al hx,h,hw]
theorem tj {c : Cd} (hf : FitsC c) (s : ByteArray) : V 129 [eCd c,.str s] = some (.int .i64 (j5 c s),[]) := by
  have h := rI hf.dlen s (c.pool.map eN) (c.list.map eIn) c.defs.length 0 (Nat.zero_add _)
  rw [gh,Int.natCast_zero] at h
  rw [ER]
  exact h

noncomputable def oE (c : Cd) (x : In) (k : Int) : Bool :=
  if x.op = 1 then wi x.n 0 ((c.pool.length : Int) - 1) && (x.i == 0 && nz x.s)
  else if x.op = 2 then wi x.n 0 20 && (wi x.i 0 3 && nz x.s)
  else if x.op = 3 then x.n == 0 && (x.i == 0 && vZ x.s)
  else if x.op = 4 ∨ x.op = 5 then wi x.n (k + 1) (c.list.length : Int) && (x.i == 0 && nz x.s)
  else if x.op = 6 then wi x.n (k + 1) ((c.list.length : Int) - 1) && (wi x.i 0 4 && nz x.s)
  else if x.op = 7 then x.n == 0 && (wi x.i 0 4 && nz x.s)
  else if x.op = 8 ∨ x.op = 9 then x.n == 0 && (x.i == 0 && nz x.s)
  else false
theorem Qm (n k h : Int) : wi n (k + 1) h = (decide (n > k) && decide (n ≤ h)) := by
  unfold wi
  congr 1
theorem QF (n k h : Int) : wi n (k + 1) (h - 1) = (decide (n > k) && decide (n < h)) := by
  unfold wi
  congr 1
  exact decide_eq_decide.2 (by omega)
theorem xj {c : Cd} (hf : FitsC c) {k : Nat} {x : In} (hx : c.list[k]? = some x) : V 123 [eCd c,.int .i64 (k : Int)] = some (.bool (oE c x k),[]) := by
  have hk := aK hx
  have hl := hf.llen
  have hp := hf.plen
  have hs := hf.list x (List.mem_of_getElem? hx)
  rw [y5]
  unfold oE
  have hnm := mC hs
  have hnode := jE hp x.n
  by_cases h1 : x.op = 1
  · rw [if_pos h1]; simp (disch := first | omega | (simp only [List.length_append,List.length_cons,List.length_nil,List.length_map,ak,aa]; omega)) only [↓af,aj,↓ar,↓aH,↓aq,↓aF,↓ax,↓aw,↓a9,↓au,↓aR,ba,aJ,Bool.and_true,List.length_map,aa,↓al hx,hnode]; simp only [bA]; rfl
  rw [if_neg h1]
  by_cases h2 : x.op = 2
  · rw [if_pos h2]; simp (disch := first | omega | (simp only [List.length_append,List.length_cons,List.length_nil,List.length_map,ak,aa]; omega)) only [↓af,aj,↓ar,↓ae,↓aH,↓aq,↓aF,↓ax,↓aw,↓a9,↓au,↓aR,ba,aJ,az,Bool.and_true,List.length_map,aa,↓al hx,bH]; simp only [bA]; rfl
  rw [if_neg h2]
  by_cases h3 : x.op = 3
  · rw [if_pos h3]; simp (disch := first | omega | (simp only [List.length_append,List.length_cons,List.length_nil,List.length_map,ak,aa]; omega)) only [↓af,aj,↓ar,↓ae,↓aH,↓aq,↓aF,↓ax,↓aw,↓a9,↓au,↓aR,ba,aJ,az,Bool.and_true,List.length_map,aa,↓al hx,hnm]; simp only [bA]
  rw [if_neg h3]
  by_cases h4 : x.op = 4
  · rw [if_pos (.inl h4)]; simp (disch := first | omega | (simp only [List.length_append,List.length_cons,List.length_nil,List.length_map,ak,aa]; omega)) only [↓af,aj,↓ar,↓ae,↓aH,↓aq,↓aF,↓ax,↓aw,↓a9,↓au,↓aR,ba,aJ,az,Bool.and_true,List.length_map,wS,aa,↓al hx,bH]; simp only [bA]; rfl
  by_cases h5 : x.op = 5
  · rw [if_pos (.inr h5)]; simp (disch := first | omega | (simp only [List.length_append,List.length_cons,List.length_nil,List.length_map,ak,aa]; omega)) only [↓af,aj,↓ar,↓ae,↓aH,↓aq,↓aF,↓ax,↓aw,↓a9,↓au,↓aR,ba,aJ,az,Bool.and_true,List.length_map,wS,aa,↓al hx,bH]; simp only [bA]; rfl
  rw [if_neg (by omega)]
  by_cases h6 : x.op = 6
  · rw [if_pos h6]; simp (disch := first | omega | (simp only [List.length_append,List.length_cons,List.length_nil,List.length_map,ak,aa]; omega)) only [↓af,aj,↓ar,↓ae,↓aH,↓aq,↓aF,↓ax,↓aw,↓a9,↓au,↓aR,ba,aJ,az,Bool.and_true,List.length_map,wS,aa,↓al hx,bH]; simp only [bA]; rfl
  rw [if_neg h6]
  by_cases h7 : x.op = 7
  · rw [if_pos h7]; simp (disch := first | omega | (simp only [List.length_append,List.length_cons,List.length_nil,List.length_map,ak,aa]; omega)) only [↓af,aj,↓ar,↓ae,↓aH,↓aq,↓aF,↓ax,↓aw,↓a9,↓au,↓aR,ba,aJ,az,Bool.and_true,List.length_map,aa,↓al hx,bH]; simp only [bA]; rfl
  rw [if_neg h7]
  by_cases h8 : x.op = 8
  · rw [if_pos (.inl h8)]; simp (disch := first | omega | (simp only [List.length_append,List.length_cons,List.length_nil,List.length_map,ak,aa]; omega)) only [↓ar,↓ae,↓aH,↓aq,↓aF,↓ax,↓a9,↓au,↓aR,ba,aJ,az,Bool.and_true,List.length_map,aa,↓al hx]; simp only [bA]; rfl
  by_cases h9 : x.op = 9
  · rw [if_pos (.inr h9)]; simp (disch := first | omega | (simp only [List.length_append,List.length_cons,List.length_nil,List.length_map,ak,aa]; omega)) only [↓ar,↓ae,↓aH,↓aq,↓aF,↓ax,↓a9,↓au,↓aR,ba,aJ,az,Bool.and_true,List.length_map,aa,↓al hx]; simp only [bA]; rfl
  rw [if_neg (by omega)]
  simp (disch := first | omega | (simp only [List.length_append,List.length_cons,List.length_nil,List.length_map,ak,aa]; omega)) only [↓ae,↓aH,↓aq,↓aF,↓ax,↓a9,↓au,↓aR,ba,az,Bool.and_true,List.length_map,aa,↓al hx]
theorem MR {c : Cd} (hf : FitsC c) {k : Nat} {x : In} (hx : c.list[k]? = some x) : V 127 [eCd c,.int .i64 (k : Int)] = some (.bool (oE c x k),[]) := by
  have hk := aK hx
  have hl := hf.llen
  have hp := hf.plen
  have hs := hf.list x (List.mem_of_getElem? hx)
  have hself : aQ x.s x.s = true := by rw [ep]; simp
  rw [zj]
  unfold oE
  have hnm := mD hs
  have hnode := qL hp x.n
  by_cases h1 : x.op = 1
  · rw [if_pos h1]; simp (disch := first | omega | (simp only [List.length_append,List.length_cons,List.length_nil,List.length_map,ak,aa]; omega)) only [↓af,aj,↓ar,↓aH,↓aq,↓aF,↓ax,↓aw,↓a9,↓au,↓aR,ba,aJ,Bool.true_and,Bool.and_true,List.length_map,aa,↓al hx,hnode]; simp only [bA]
    show some (D.bool (_ && nz x.s && _),_) = _
    cases wi x.n 0 ((c.pool.length : Int) - 1) <;> cases x.i == 0 <;> cases nz x.s <;> rfl
  rw [if_neg h1]
  by_cases h2 : x.op = 2
  · rw [if_pos h2]; simp (disch := first | omega | (simp only [List.length_append,List.length_cons,List.length_nil,List.length_map,ak,aa]; omega)) only [↓af,aj,↓ar,↓ae,↓aH,↓aq,↓aF,↓ax,↓aw,↓a9,↓au,↓aR,ba,aJ,az,Bool.and_true,List.length_map,aa,↓al hx,d7]; simp only [bA]
    show some (D.bool (nz x.s && _),_) = _
    cases wi x.n 0 20 <;> cases wi x.i 0 3 <;> cases nz x.s <;> rfl
  rw [if_neg h2]
  by_cases h3 : x.op = 3
  · rw [if_pos h3]; simp (disch := first | omega | (simp only [List.length_append,List.length_cons,List.length_nil,List.length_map,ak,aa]; omega)) only [↓af,aj,↓ar,↓ae,↓aH,↓aq,↓aF,↓ax,↓aw,↓a9,↓au,↓aR,ba,aJ,az,Bool.true_and,Bool.and_true,List.length_map,aa,↓al hx,hnm,hself]; simp only [bA]
    cases x.n == 0 <;> cases x.i == 0 <;> cases vZ x.s <;> rfl
  rw [if_neg h3]
  by_cases h4 : x.op = 4
  · rw [if_pos (.inl h4),Qm]; simp (disch := first | omega | (simp only [List.length_append,List.length_cons,List.length_nil,List.length_map,ak,aa]; omega)) only [↓ar,↓ae,↓aH,↓aq,↓aF,↓ax,↓a9,↓au,↓aR,ba,aJ,az,Bool.true_and,Bool.and_true,List.length_map,aa,↓al hx]; simp only [bA]
    show some (D.bool (_ && nz x.s && _),_) = _
    cases decide (x.n > (k : Int)) <;> cases decide (x.n ≤ (c.list.length : Int)) <;> cases x.i == 0 <;> cases nz x.s <;> rfl
  by_cases h5 : x.op = 5
  · rw [if_pos (.inr h5),Qm]; simp (disch := first | omega | (simp only [List.length_append,List.length_cons,List.length_nil,List.length_map,ak,aa]; omega)) only [↓ar,↓ae,↓aH,↓aq,↓aF,↓ax,↓a9,↓au,↓aR,ba,aJ,az,Bool.true_and,Bool.and_true,List.length_map,aa,↓al hx]; simp only [bA]
    show some (D.bool (_ && nz x.s && _),_) = _
    cases decide (x.n > (k : Int)) <;> cases decide (x.n ≤ (c.list.length : Int)) <;> cases x.i == 0 <;> cases nz x.s <;> rfl
  rw [if_neg (by omega)]
  by_cases h6 : x.op = 6
  · rw [if_pos h6,QF]; simp (disch := first | omega | (simp only [List.length_append,List.length_cons,List.length_nil,List.length_map,ak,aa]; omega)) only [↓af,aj,↓ar,↓ae,↓aH,↓aq,↓aF,↓ax,↓aw,↓a9,↓au,↓aR,ba,aJ,az,Bool.and_true,List.length_map,aa,↓al hx,d7]; simp only [bA]
    show some (D.bool (nz x.s && _),_) = _
    cases decide (x.n > (k : Int)) <;> cases decide (x.n < (c.list.length : Int)) <;> cases wi x.i 0 4 <;> cases nz x.s <;> rfl
  rw [if_neg h6]
  by_cases h7 : x.op = 7
  · rw [if_pos h7]; simp (disch := first | omega | (simp only [List.length_append,List.length_cons,List.length_nil,List.length_map,ak,aa]; omega)) only [↓af,aj,↓ar,↓ae,↓aH,↓aq,↓aF,↓ax,↓aw,↓a9,↓au,↓aR,ba,aJ,az,Bool.true_and,Bool.and_true,List.length_map,aa,↓al hx,d7]; simp only [bA]
    show some (D.bool (_ && nz x.s && _),_) = _
    cases x.n == 0 <;> cases wi x.i 0 4 <;> cases nz x.s <;> rfl
  rw [if_neg h7]
  by_cases h8 : x.op = 8
  · rw [if_pos (.inl h8)]; simp (disch := first | omega | (simp only [List.length_append,List.length_cons,List.length_nil,List.length_map,ak,aa]; omega)) only [↓ar,↓ae,↓aH,↓aq,↓aF,↓ax,↓a9,↓au,↓aR,ba,aJ,az,Bool.true_and,Bool.and_true,List.length_map,aa,↓al hx]; rfl
  by_cases h9 : x.op = 9
  · rw [if_pos (.inr h9)]; simp (disch := first | omega | (simp only [List.length_append,List.length_cons,List.length_nil,List.length_map,ak,aa]; omega)) only [↓ar,↓ae,↓aH,↓aq,↓aF,↓ax,↓a9,↓au,↓aR,ba,aJ,az,Bool.true_and,Bool.and_true,List.length_map,aa,↓al hx]; rfl
  rw [if_neg (by omega)]
  simp (disch := first | omega | (simp only [List.length_append,List.length_cons,List.length_nil,List.length_map,ak,aa]; omega)) only [↓ae,↓aH,↓aq,↓aF,↓ax,↓a9,↓au,↓aR,ba,az,Bool.and_true,List.length_map,aa,↓al hx]

noncomputable def jP (c : Cd) : Nat → Nat → Bool
  | _,0 => true
  | i,k + 1 => (match c.list[i]? with | some x => oE c x i | none => true) && jP c (i + 1) k
noncomputable def D4 (c : Cd) (d : Df) (i : Int) : Bool := vZ d.name && (j5 c d.name == i && (wi d.at' 0 ((c.list.length : Int) - 1) && wi d.args 0 4))
noncomputable def gx (c : Cd) : Nat → Nat → Bool
  | _,0 => true
  | i,k + 1 => (match c.defs[i]? with | some d => D4 c d i | none => true) && gx c (i + 1) k
noncomputable def c9 (c : Cd) : Bool := aW c.pool && (decide (c.list.length ≤ 400) && (decide (c.defs.length ≤ 20) && (jP c 0 c.list.length && gx c 0 c.defs.length)))
theorem pq {c : Cd} (hf : FitsC c) : ∀ (k i : Nat),i + k = c.defs.length → gF (c.defs.map eDf) (ni (c.defs.map eDf).length) (i : Int) (c.pool.map eN) (c.list.map eIn) (c.defs.map eDf) = some (.bool (gx c i k),[])
  | 0,i,hi => by
    have hd := hf.dlen
    rw [kF]
    simp (disch := first | omega | (simp only [List.length_append,List.length_cons,List.length_nil,List.length_map,ak,aa]; omega)) only [↓ae,cJ,List.length_map,aa]
    rfl
  | k + 1,i,hi => by
    have hd := hf.dlen
    have hll := hf.llen
    obtain ⟨x,hx⟩ := aA (l := c.defs) (i := i) (by omega)
    have ih := pq hf k (i + 1) (by omega)
    rw [List.length_map] at ih
    have hw : IntKind.wrap IntKind.i64 ((i : Int) + 1) = ((i + 1 : Nat) : Int) := dG (by omega)
    have hdf := tl hf x.name
    have hnm := mC (hf.defs x (List.mem_of_getElem? hx))
    rw [kF]
    simp only [gx,hx,D4]
    cases e1 : vZ x.name with
    | false => rw [e1] at hnm; simp (disch := first | omega | (simp only [List.length_append,List.length_cons,List.length_nil,List.length_map,ak,aa]; omega)) only [↓af,aj,↓ar,↓aH,↓aq,↓aF,↓ax,↓aw,↓a9,↓au,↓aR,ba,Bool.and_true,Bool.false_and,Bool.not_false,List.length_map,aa,↓al hx,hnm]
    | true =>
      rw [e1] at hnm
      by_cases e2 : j5 c x.name = (i : Int)
      · rw [e2] at hdf
        simp (disch := first | omega | (simp only [List.length_append,List.length_cons,List.length_nil,List.length_map,ak,aa]; omega)) only [↓af,aj,↓ar,↓ae,↓aH,↓aq,↓aF,↓ax,↓aw,↓a9,↓au,↓aR,ba,aJ,cq,Bool.true_and,Bool.and_true,Bool.not_true,List.length_map,wS,aa,↓al hx,hnm,hdf,e2,bH,hw,ih]
        cases wi x.at' 0 ((c.list.length : Int) - 1) <;> cases wi x.args 0 4 <;> rfl
      · simp (disch := first | omega | (simp only [List.length_append,List.length_cons,List.length_nil,List.length_map,ak,aa]; omega)) only [↓af,aj,↓ar,↓ae,↓aH,↓aq,↓aF,↓ax,↓aw,↓a9,↓au,↓aR,ba,az,c7,Bool.and_true,Bool.false_and,Bool.and_false,Bool.not_true,List.length_map,aa,↓al hx,hnm,hdf]
theorem qt {c : Cd} (hf : FitsC c) : ∀ (k i : Nat),i + k = c.defs.length → iv (i : Int) (c.pool.map eN) (c.list.map eIn) (c.defs.map eDf) = some (.bool (gx c i k),[])
  | 0,i,hi => by
    have hd := hf.dlen
    rw [mh]
    simp (disch := first | omega | (simp only [List.length_append,List.length_cons,List.length_nil,List.length_map,ak,aa]; omega)) only [↓ae,cJ,List.length_map,aa]
    rfl
  | k + 1,i,hi => by
    have hd := hf.dlen
    have hll := hf.llen
    obtain ⟨x,hx⟩ := aA (l := c.defs) (i := i) (by omega)
    have ih := qt hf k (i + 1) (by omega)
    have hw : IntKind.wrap IntKind.i64 ((i : Int) + 1) = ((i + 1 : Nat) : Int) := dG (by omega)
    have hdf := tj hf x.name
    have hnm := mD (hf.defs x (List.mem_of_getElem? hx))
    rw [mh]
    simp only [gx,hx,D4]
    cases e1 : vZ x.name with
    | false => rw [e1] at hnm; simp (disch := first | omega | (simp only [List.length_append,List.length_cons,List.length_nil,List.length_map,ak,aa]; omega)) only [↓af,aj,↓ar,↓aH,↓aq,↓aF,↓ax,↓aw,↓a9,↓au,↓aR,ba,Bool.and_true,Bool.false_and,Bool.not_false,List.length_map,aa,↓al hx,hnm]
    | true =>
      rw [e1] at hnm
      by_cases e2 : j5 c x.name = (i : Int)
      · rw [e2] at hdf
        simp (disch := first | omega | (simp only [List.length_append,List.length_cons,List.length_nil,List.length_map,ak,aa]; omega)) only [↓af,aj,↓ar,↓ae,↓aH,↓aq,↓aF,↓ax,↓aw,↓a9,↓au,↓aR,ba,aJ,cq,Bool.true_and,Bool.and_true,Bool.not_true,List.length_map,wS,aa,↓al hx,hnm,hdf,e2,d7,hw,ih]
        cases wi x.at' 0 ((c.list.length : Int) - 1) <;> cases wi x.args 0 4 <;> rfl
      · simp (disch := first | omega | (simp only [List.length_append,List.length_cons,List.length_nil,List.length_map,ak,aa]; omega)) only [↓af,aj,↓ar,↓ae,↓aH,↓aq,↓aF,↓ax,↓aw,↓a9,↓au,↓aR,ba,az,c7,Bool.and_true,Bool.false_and,Bool.and_false,Bool.not_true,List.length_map,aa,↓al hx,hnm,hdf]
theorem ru {c : Cd} (hf : FitsC c) : ∀ (k i : Nat),i + k = c.list.length → iC (ni (c.list.map eIn).length) (i : Int) (c.pool.map eN) (c.list.map eIn) (c.defs.map eDf) = some (.bool (jP c i k && gx c 0 c.defs.length),[])
  | 0,i,hi => by
    have hll := hf.llen
    have h := pq hf c.defs.length 0 (Nat.zero_add _)
    rw [Int.natCast_zero,List.length_map] at h
    rw [me]
    simp (disch := first | omega | (simp only [List.length_append,List.length_cons,List.length_nil,List.length_map,ak,aa]; omega)) only [↓ae,cJ,List.length_map,aa,h]
    rfl
  | k + 1,i,hi => by
    have hll := hf.llen
    obtain ⟨x,hx⟩ := aA (l := c.list) (i := i) (by omega)
    have ih := ru hf k (i + 1) (by omega)
    rw [List.length_map] at ih
    have hw : IntKind.wrap IntKind.i64 ((i : Int) + 1) = ((i + 1 : Nat) : Int) := dG (by omega)
    have hi := xj hf hx
    rw [me]
    simp only [jP,hx]
    cases e1 : oE c x i with
    | false => rw [e1] at hi; simp (disch := first | omega | (simp only [List.length_append,List.length_cons,List.length_nil,List.length_map,ak,aa]; omega)) only [↓af,aj,↓ar,↓aq,↓aw,ba,Bool.false_and,Bool.not_false,List.length_map,aa,hi]
    | true => rw [e1] at hi; simp (disch := first | omega | (simp only [List.length_append,List.length_cons,List.length_nil,List.length_map,ak,aa]; omega)) only [↓af,aj,↓ar,↓ae,↓aq,↓aw,ba,Bool.true_and,Bool.not_true,List.length_map,aa,hi,hw,ih]
theorem rF {c : Cd} (hf : FitsC c) : ∀ (k i : Nat),i + k = c.list.length → iL (i : Int) (c.pool.map eN) (c.list.map eIn) (c.defs.map eDf) = some (.bool (jP c i k && gx c 0 c.defs.length),[])
  | 0,i,hi => by
    have hll := hf.llen
    have h := qt hf c.defs.length 0 (Nat.zero_add _)
    rw [Int.natCast_zero] at h
    rw [md]
    simp (disch := first | omega | (simp only [List.length_append,List.length_cons,List.length_nil,List.length_map,ak,aa]; omega)) only [↓ae,cJ,List.length_map,aa,h]
    rfl
  | k + 1,i,hi => by
    have hll := hf.llen
    obtain ⟨x,hx⟩ := aA (l := c.list) (i := i) (by omega)
    have ih := rF hf k (i + 1) (by omega)
    have hw : IntKind.wrap IntKind.i64 ((i : Int) + 1) = ((i + 1 : Nat) : Int) := dG (by omega)
    have hi := MR hf hx
    rw [md]
    simp only [jP,hx]
    cases e1 : oE c x i with
    | false => rw [e1] at hi; simp (disch := first | omega | (simp only [List.length_append,List.length_cons,List.length_nil,List.length_map,ak,aa]; omega)) only [↓af,aj,↓ar,↓aq,↓aw,ba,Bool.false_and,Bool.not_false,List.length_map,aa,hi]
    | true => rw [e1] at hi; simp (disch := first | omega | (simp only [List.length_append,List.length_cons,List.length_nil,List.length_map,ak,aa]; omega)) only [↓af,aj,↓ar,↓ae,↓aq,↓aw,ba,Bool.true_and,Bool.not_true,List.length_map,aa,hi,hw,ih]
theorem yV {c : Cd} (hf : FitsC c) : V 54 [eCd c] = some (.bool (c9 c),[]) := by
  have hp := jq hf.pool hf.plen
  have h := ru hf c.list.length 0 (Nat.zero_add _)
  rw [Int.natCast_zero,List.length_map] at h
  rw [Dh]
  unfold c9
  cases e1 : aW c.pool with
  | false => rw [e1] at hp; simp (disch := first | omega | (simp only [List.length_append,List.length_cons,List.length_nil,List.length_map,ak,aa]; omega)) only [↓af,aj,↓ar,↓aq,↓aw,Bool.false_and,Bool.not_false,hp]
  | true =>
    rw [e1] at hp
    by_cases e2 : c.list.length ≤ 400
    · by_cases e3 : c.defs.length ≤ 20
      · simp (disch := first | omega | (simp only [List.length_append,List.length_cons,List.length_nil,List.length_map,ak,aa]; omega)) only [↓af,aj,↓ae,↓aq,↓aw,ba,cJ,Bool.true_and,Bool.not_true,List.length_map,aa,hp,h]
      · simp (disch := first | omega | (simp only [List.length_append,List.length_cons,List.length_nil,List.length_map,ak,aa]; omega)) only [↓af,aj,↓ar,↓ae,↓aq,↓aw,ba,cJ,Bool.false_and,Bool.and_false,Bool.not_true,List.length_map,aa,hp]
    · simp (disch := first | omega | (simp only [List.length_append,List.length_cons,List.length_nil,List.length_map,ak,aa]; omega)) only [↓af,aj,↓ar,↓ae,↓aq,↓aw,ba,cJ,Bool.false_and,Bool.and_false,Bool.not_true,List.length_map,aa,hp]
theorem zA {c : Cd} (hf : FitsC c) : V 59 [eCd c] = some (.bool (c9 c),[]) := by
  have hp := mF hf.pool hf.plen
  have h := rF hf c.list.length 0 (Nat.zero_add _)
  rw [Int.natCast_zero] at h
  rw [DR]
  unfold c9
  cases e1 : aW c.pool with
  | false => rw [e1] at hp; simp (disch := first | omega | (simp only [List.length_append,List.length_cons,List.length_nil,List.length_map,ak,aa]; omega)) only [↓af,aj,↓ar,↓aq,↓aw,Bool.false_and,Bool.not_false,hp]
  | true =>
    rw [e1] at hp
    by_cases e2 : c.list.length ≤ 400
    · by_cases e3 : c.defs.length ≤ 20
      · simp (disch := first | omega | (simp only [List.length_append,List.length_cons,List.length_nil,List.length_map,ak,aa]; omega)) only [↓af,aj,↓ae,↓aq,↓aw,ba,cJ,Bool.true_and,Bool.not_true,List.length_map,aa,hp,h]
      · simp (disch := first | omega | (simp only [List.length_append,List.length_cons,List.length_nil,List.length_map,ak,aa]; omega)) only [↓af,aj,↓ar,↓ae,↓aq,↓aw,ba,cJ,Bool.false_and,Bool.and_false,Bool.not_true,List.length_map,aa,hp]
    · simp (disch := first | omega | (simp only [List.length_append,List.length_cons,List.length_nil,List.length_map,ak,aa]; omega)) only [↓af,aj,↓ar,↓ae,↓aq,↓aw,ba,cJ,Bool.false_and,Bool.and_false,Bool.not_true,List.length_map,aa,hp]

structure Mc where
  pool : List Nd
  at' : Int
  s : Int
  e : Int
  d : Int
  state : Int
  ask : Int
  arg : Int
noncomputable abbrev eMc (m : Mc) : D := .agg [.rs (5,0) (m.pool.map eN),.int .i64 m.at',.int .i64 m.s,.int .i64 m.e,.int .i64 m.d,.int .i64 m.state,.int .i64 m.ask,.int .i64 m.arg]
noncomputable abbrev oMc (m : Mc) : D := .agg [.os (5,0) (m.pool.map eN),.int .i64 m.at',.int .i64 m.s,.int .i64 m.e,.int .i64 m.d,.int .i64 m.state,.int .i64 m.ask,.int .i64 m.arg]
noncomputable def kI (p : List Nd) (v : Int) : Bool := wi v 0 ((p.length : Int) - 1)
noncomputable def pT (c : Cd) (m : Mc) : Bool :=
  if m.state = 0 then wi m.at' 0 ((c.list.length : Int) - 1) && (m.ask == 0 && m.arg == 0)
  else if m.state = 1 then wi m.at' 0 ((c.list.length : Int) - 1) && (wi m.ask 13 19 && ((m.ask != 18) && kI m.pool m.arg))
  else if m.state = 2 then m.at' == 0 && (m.ask == 0 && kI m.pool m.arg)
  else if m.state = 3 then m.at' == 0 && (wi m.ask 1 7 && m.arg == 0)
  else false
noncomputable def gu (c : Cd) (m : Mc) : Bool := c9 c && (aW m.pool && (kI m.pool m.s && (kI m.pool m.e && (kI m.pool m.d && pT c m))))
theorem Bj {c : Cd} (hl : c.list.length < 4611686018427387904) (n : Int) : V 57 [eCd c,.int .i64 n] = some (.bool (wi n 0 ((c.list.length : Int) - 1)),[]) := by
  rw [zi]
  simp (disch := first | omega | (simp only [List.length_append,List.length_cons,List.length_nil,List.length_map,ak,aa]; omega)) only [↓af,aj,↓aq,↓aw,List.length_map,wS,aa,bH]
theorem mI {c : Cd} (hf : FitsC c) {m : Mc} (hm : lu m.pool) (hl : m.pool.length < 4611686018427387904) : V 14 [eCd c,eMc m] = some (.bool (gu c m),[]) := by
  have hc := yV hf
  have hp := jq hm hl
  have h1 := jE hl m.s
  have h2 := jE hl m.e
  have h3 := jE hl m.d
  have h4 := jE hl m.arg
  have h5 := Bj hf.llen m.at'
  rw [wv]
  unfold gu kI
  cases e1 : c9 c with
  | false => rw [e1] at hc; simp (disch := first | omega | (simp only [List.length_append,List.length_cons,List.length_nil,List.length_map,ak,aa]; omega)) only [↓af,aj,↓ar,↓aq,↓aw,Bool.false_and,Bool.not_false,hc]
  | true =>
  rw [e1] at hc
  cases e2 : aW m.pool with
  | false => rw [e2] at hp; simp (disch := first | omega | (simp only [List.length_append,List.length_cons,List.length_nil,List.length_map,ak,aa]; omega)) only [↓af,aj,↓ar,↓ae,↓aq,↓aw,Bool.false_and,Bool.and_false,Bool.not_true,Bool.not_false,hc,hp]
  | true =>
  rw [e2] at hp
  cases e3 : wi m.s 0 ((m.pool.length : Int) - 1) with
  | false => rw [e3] at h1; simp (disch := first | omega | (simp only [List.length_append,List.length_cons,List.length_nil,List.length_map,ak,aa]; omega)) only [↓af,aj,↓ar,↓ae,↓aq,↓aw,Bool.false_and,Bool.and_false,Bool.not_true,Bool.not_false,hc,hp,h1]
  | true =>
  rw [e3] at h1
  cases e4 : wi m.e 0 ((m.pool.length : Int) - 1) with
  | false => rw [e4] at h2; simp (disch := first | omega | (simp only [List.length_append,List.length_cons,List.length_nil,List.length_map,ak,aa]; omega)) only [↓af,aj,↓ar,↓ae,↓aq,↓aw,Bool.false_and,Bool.and_false,Bool.not_true,Bool.not_false,hc,hp,h1,h2]
  | true =>
  rw [e4] at h2
  cases e5 : wi m.d 0 ((m.pool.length : Int) - 1) with
  | false => rw [e5] at h3; simp (disch := first | omega | (simp only [List.length_append,List.length_cons,List.length_nil,List.length_map,ak,aa]; omega)) only [↓af,aj,↓ar,↓ae,↓aq,↓aw,Bool.false_and,Bool.and_false,Bool.not_true,Bool.not_false,hc,hp,h1,h2,h3]
  | true =>
  rw [e5] at h3
  unfold pT kI
  by_cases s0 : m.state = 0
  · rw [if_pos s0]; simp (disch := first | omega | (simp only [List.length_append,List.length_cons,List.length_nil,List.length_map,ak,aa]; omega)) only [↓af,aj,↓ar,↓ae,↓aq,↓aw,aJ,Bool.true_and,Bool.not_true,hc,hp,h1,h2,h3,h5]; simp only [bA]
  rw [if_neg s0]
  by_cases s1 : m.state = 1
  · rw [if_pos s1]; simp (disch := first | omega | (simp only [List.length_append,List.length_cons,List.length_nil,List.length_map,ak,aa]; omega)) only [↓af,aj,↓ar,↓ae,↓aq,↓aw,aJ,az,Bool.true_and,Bool.not_true,hc,hp,h1,h2,h3,h4,h5,bH]; simp only [bA]
  rw [if_neg s1]
  by_cases s2 : m.state = 2
  · rw [if_pos s2]; simp (disch := first | omega | (simp only [List.length_append,List.length_cons,List.length_nil,List.length_map,ak,aa]; omega)) only [↓af,aj,↓ar,↓ae,↓aq,↓aw,aJ,az,Bool.true_and,Bool.not_true,hc,hp,h1,h2,h3,h4]; simp only [bA]
  rw [if_neg s2]
  by_cases s3 : m.state = 3
  · rw [if_pos s3]; simp (disch := first | omega | (simp only [List.length_append,List.length_cons,List.length_nil,List.length_map,ak,aa]; omega)) only [↓af,aj,↓ar,↓ae,↓aq,↓aw,aJ,az,Bool.true_and,Bool.not_true,hc,hp,h1,h2,h3,bH]; simp only [bA]
  rw [if_neg s3]
  simp (disch := first | omega | (simp only [List.length_append,List.length_cons,List.length_nil,List.length_map,ak,aa]; omega)) only [↓af,aj,↓ae,↓aq,↓aw,az,Bool.and_false,Bool.not_true,hc,hp,h1,h2,h3]
theorem nG {c : Cd} (hf : FitsC c) {m : Mc} (hm : lu m.pool) (hl : m.pool.length < 4611686018427387904) : V 15 [eCd c,eMc m] = some (.bool (gu c m),[]) := by
  have hll := hf.llen
  have hc := zA hf
  have hp := mF hm hl
  have h1 := qL hl m.s
  have h2 := qL hl m.e
  have h3 := qL hl m.d
  have h4 := qL hl m.arg
  rw [wm]
  unfold gu kI
  cases e1 : c9 c with
  | false => rw [e1] at hc; simp (disch := first | omega | (simp only [List.length_append,List.length_cons,List.length_nil,List.length_map,ak,aa]; omega)) only [↓af,aj,↓ar,↓aq,↓aw,Bool.false_and,Bool.not_false,hc]
  | true =>
  rw [e1] at hc
  cases e2 : aW m.pool with
  | false => rw [e2] at hp; simp (disch := first | omega | (simp only [List.length_append,List.length_cons,List.length_nil,List.length_map,ak,aa]; omega)) only [↓af,aj,↓ar,↓ae,↓aq,↓aw,Bool.false_and,Bool.and_false,Bool.not_true,Bool.not_false,hc,hp]
  | true =>
  rw [e2] at hp
  cases e3 : wi m.s 0 ((m.pool.length : Int) - 1) with
  | false => rw [e3] at h1; simp (disch := first | omega | (simp only [List.length_append,List.length_cons,List.length_nil,List.length_map,ak,aa]; omega)) only [↓af,aj,↓ar,↓ae,↓aq,↓aw,Bool.false_and,Bool.and_false,Bool.not_true,Bool.not_false,hc,hp,h1]
  | true =>
  rw [e3] at h1
  cases e4 : wi m.e 0 ((m.pool.length : Int) - 1) with
  | false => rw [e4] at h2; simp (disch := first | omega | (simp only [List.length_append,List.length_cons,List.length_nil,List.length_map,ak,aa]; omega)) only [↓af,aj,↓ar,↓ae,↓aq,↓aw,Bool.false_and,Bool.and_false,Bool.not_true,Bool.not_false,hc,hp,h1,h2]
  | true =>
  rw [e4] at h2
  cases e5 : wi m.d 0 ((m.pool.length : Int) - 1) with
  | false => rw [e5] at h3; simp (disch := first | omega | (simp only [List.length_append,List.length_cons,List.length_nil,List.length_map,ak,aa]; omega)) only [↓af,aj,↓ar,↓ae,↓aq,↓aw,Bool.false_and,Bool.and_false,Bool.not_true,Bool.not_false,hc,hp,h1,h2,h3]
  | true =>
  rw [e5] at h3
  unfold pT kI
  by_cases s0 : m.state = 0
  · rw [if_pos s0]; simp (disch := first | omega | (simp only [List.length_append,List.length_cons,List.length_nil,List.length_map,ak,aa]; omega)) only [↓af,aj,↓ar,↓ae,↓aq,↓aw,aJ,Bool.true_and,Bool.not_true,List.length_map,wS,aa,hc,hp,h1,h2,h3,d7]; simp only [bA]
  rw [if_neg s0]
  by_cases s1 : m.state = 1
  · rw [if_pos s1]; simp (disch := first | omega | (simp only [List.length_append,List.length_cons,List.length_nil,List.length_map,ak,aa]; omega)) only [↓af,aj,↓ar,↓ae,↓aq,↓aw,aJ,az,Bool.true_and,Bool.not_true,List.length_map,wS,aa,hc,hp,h1,h2,h3,h4,d7]; simp only [bA]
  rw [if_neg s1]
  by_cases s2 : m.state = 2
  · rw [if_pos s2]; simp (disch := first | omega | (simp only [List.length_append,List.length_cons,List.length_nil,List.length_map,ak,aa]; omega)) only [↓af,aj,↓ar,↓ae,↓aq,↓aw,aJ,az,Bool.true_and,Bool.not_true,List.length_map,wS,aa,hc,hp,h1,h2,h3,h4,d7]; simp only [bA]
  rw [if_neg s2]
  by_cases s3 : m.state = 3
  · rw [if_pos s3]; simp (disch := first | omega | (simp only [List.length_append,List.length_cons,List.length_nil,List.length_map,ak,aa]; omega)) only [↓af,aj,↓ar,↓ae,↓aq,↓aw,aJ,az,Bool.true_and,Bool.not_true,List.length_map,wS,aa,hc,hp,h1,h2,h3,d7]; simp only [bA]
  rw [if_neg s3]
  simp (disch := first | omega | (simp only [List.length_append,List.length_cons,List.length_nil,List.length_map,ak,aa]; omega)) only [↓af,aj,↓ae,↓aq,↓aw,az,Bool.and_false,Bool.not_true,List.length_map,wS,aa,hc,hp,h1,h2,h3,d7]
end Go.Eng
/-! numbers and texts as bytes,on both sides -/
namespace Go.Eng
open Go.Proofs Go.Proofs.Tryz

end Go.Eng
/-! how great a value is,the program's side -/
namespace Go.Eng
open Go.Proofs Go.Proofs.Tryz

end Go.Eng
/-! what is moved is as it was: the plain side -/
namespace Go.Eng

noncomputable def bF (p : List Nd) : Prop := ∀ (j : Nat) (x : Nd),p[j]? = some x → okN x j = true
theorem z9 {p : List Nd} (h : bF p) : ∀ (k i : Nat),mB p i k = true
  | 0,i => rfl
  | k + 1,i => by
    simp only [mB,z9 h k (i + 1),Bool.and_true]
    split
    · exact h _ _ ‹_›
    · rfl
theorem okPool_iff {p : List Nd} : aW p = true ↔ bF p ∧ p.length ≤ 3000 := by
  constructor
  · intro h; exact ⟨fun j x hx => gQ h hx,bV h⟩
  · rintro ⟨h,hl⟩
    simp only [aW,z9 h,Bool.true_and,decide_eq_true_eq]; omega
noncomputable def OU (q q' : List Nd) (m : List Bool) (to : List Int) : Prop := ∀ (i : Nat) (x : Nd),q[i]? = some x → m[i]? = some true → ∃ j : Nat,to[i]? = some (j : Int) ∧ q'[j]? = some (bn to x)
theorem xm {pre r : List Int} {x : Nd} {i : Nat} (ho : okN x i = true) (hp : i ≤ pre.length) : bn (pre ++ r) x = bn pre x := by
  have g : ∀ n : Int,0 ≤ n → n < i → (pre ++ r).getD n.toNat 0 = pre.getD n.toNat 0 := by
    intro n h0 h1
    simp only [List.getD_eq_getElem?_getD]
    rw [List.getElem?_append_left (by omega)]
  unfold bn
  split
  · rename_i h5
    have := dK ho h5
    rw [g _ (by omega) (by omega),g _ (by omega) (by omega)]
  · split
    · rename_i h6
      have := dR ho h6
      rw [g _ (by omega) (by omega)]
    · rfl
theorem MJ {pre : List Int} {x : Nd} {i h : Nat} (ho : okN x i = true) (h5 : x.kind = 5 → ∃ a b : Nat,pre[x.a.toNat]? = some (a : Int) ∧ pre[x.b.toNat]? = some (b : Int) ∧ a < h ∧ b < h)
    (h6 : x.kind = 6 ∨ x.kind = 7 → ∃ a : Nat,pre[x.a.toNat]? = some (a : Int) ∧ a < h) : okN (bn pre x) h = true := by
  by_cases k5 : x.kind = 5
  · obtain ⟨a,b,ha,hb,h1,h2⟩ := h5 k5
    simp only [bn,k5,if_true,List.getD_eq_getElem?_getD,ha,hb,Option.getD_some]
    simp [okN,k5] at ho ⊢
    exact ⟨ho.1,ho.2.1,wi_iff.2 ⟨by omega,by omega⟩,wi_iff.2 ⟨by omega,by omega⟩⟩
  · by_cases k6 : x.kind = 6 ∨ x.kind = 7
    · obtain ⟨a,ha,h1⟩ := h6 k6
      simp only [bn,k5,k6,if_true,if_false,List.getD_eq_getElem?_getD,ha,Option.getD_some]
      rcases k6 with k6 | k6
      · simp [okN,k6] at ho ⊢; exact ⟨ho.1,ho.2.1,wi_iff.2 ⟨by omega,by omega⟩,ho.2.2.2⟩
      · simp [okN,k6] at ho ⊢; exact ⟨ho.1,ho.2.1,wi_iff.2 ⟨by omega,by omega⟩,ho.2.2.2⟩
    · have k6' : ¬ x.kind = 6 := fun h => k6 (.inl h)
      have k7' : ¬ x.kind = 7 := fun h => k6 (.inr h)
      simp only [bn,k5,k6,if_false]
      simp only [okN,k5,k6',k7',if_false] at ho ⊢
      exact ho
theorem yf {q : List Nd} (hq : bF q) {m : List Bool} (hm : m.length = q.length) (hc : I4 q m) (d : Int) : ∀ (k : Nat) (pre : List Int) (acc : List Nd),pre.length + k = q.length → bF acc →
    (∀ (i : Nat) (x : Nd),i < pre.length → q[i]? = some x → m[i]? = some true → ∃ j : Nat,pre[i]? = some (j : Int) ∧ acc[j]? = some (bn pre x)) →
    bF (ee d q m k pre acc).2 ∧ OU q (ee d q m k pre acc).2 m (ee d q m k pre acc).1
  | 0,pre,acc,hk,ha,hi => by
    simp only [ee]
    exact ⟨ha,fun i x hx hmi => hi i x (by have := aK hx; omega) hx hmi⟩
  | k + 1,pre,acc,hk,ha,hi => by
    obtain ⟨x,hx⟩ := aA (l := q) (i := pre.length) (by omega)
    obtain ⟨b,hb⟩ := aA (l := m) (i := pre.length) (by omega)
    simp only [ee,hx,hb]
    have hox := hq _ _ hx
    have old : ∀ (u : Int) (acc' : List Nd),(∀ (j : Nat) (y : Nd),acc[j]? = some y → acc'[j]? = some y) → ∀ (i : Nat) (y : Nd),i < pre.length → q[i]? = some y → m[i]? = some true → ∃ j : Nat,(pre ++ [u])[i]? = some (j : Int) ∧ acc'[j]? = some (bn (pre ++ [u]) y) := by
      intro u acc' hacc i y hil hy hmi
      obtain ⟨j,h1,h2⟩ := hi i y hil hy hmi
      refine ⟨j,by rw [List.getElem?_append_left hil]; exact h1,?_⟩
      rw [xm (hq _ _ hy) (by omega)]
      exact hacc _ _ h2
    cases b with
    | false =>
      refine yf hq hm hc d k (pre ++ [d]) acc (by simp; omega) ha ?_
      intro i y hil hy hmi
      by_cases e : i = pre.length
      · subst e; rw [hb] at hmi; cases hmi
      · exact old d acc (fun _ _ h => h) i y (by simp at hil; omega) hy hmi
    | true =>
      have hcx := hc _ _ hx hb
      have kid : ∀ n : Int,On m n → 0 ≤ n → n < pre.length → ∃ a : Nat,pre[n.toNat]? = some (a : Int) ∧ a < acc.length := by
        intro n hn h0 h1
        obtain ⟨y,hy⟩ := aA (l := q) (i := n.toNat) (by omega)
        obtain ⟨j,h2,h3⟩ := hi n.toNat y (by omega) hy hn
        exact ⟨j,h2,aK h3⟩
      have hok : okN (bn pre x) acc.length = true := MJ hox
        (fun h5 => by
          have h := dK hox h5
          obtain ⟨a,ha1,ha2⟩ := kid x.a (hcx.1 h5).1 h.1 h.2.1
          obtain ⟨b,hb1,hb2⟩ := kid x.b (hcx.1 h5).2 h.2.2.1 h.2.2.2
          exact ⟨a,b,ha1,hb1,ha2,hb2⟩)
        (fun h6 => by
          have h := dR hox h6
          exact kid x.a (hcx.2 h6) h.1 h.2)
      have ha' : bF (acc ++ [bn pre x]) := by
        intro j y hy
        by_cases e : j < acc.length
        · rw [List.getElem?_append_left e] at hy; exact ha j y hy
        · have hl := aK hy
          have : j = acc.length := by simp at hl; omega
          subst this
          simp at hy; subst hy; exact hok
      refine yf hq hm hc d k (pre ++ [(acc.length : Int)]) (acc ++ [bn pre x]) (by simp; omega) ha' ?_
      intro i y hil hy hmi
      by_cases e : i = pre.length
      · subst e; rw [hx] at hy; cases hy
        refine ⟨acc.length,by simp,?_⟩
        rw [xm hox (Nat.le_refl _)]; simp
      · exact old _ _ (fun j z h => by rw [List.getElem?_append_left (aK h)]; exact h) i y (by simp at hil; omega) hy hmi
theorem xk (d : Int) (q : List Nd) (m : List Bool) : ∀ (k : Nat) (pre : List Int) (acc : List Nd),∃ r,(ee d q m k pre acc).2 = acc ++ r
  | 0,pre,acc => ⟨[],by simp [ee]⟩
  | k + 1,pre,acc => by
    simp only [ee]
    split
    · obtain ⟨r,h⟩ := xk d q m k (pre ++ [(acc.length : Int)]) (acc ++ [bn pre ‹Nd›])
      exact ⟨_,by rw [h,List.append_assoc]⟩
    · exact xk d q m k _ acc
theorem xd {q acc : List Nd} (hq : aW q = true) (ha : bF acc) (rs : List Int) (d : Int) : bF (eF d q rs acc).2 ∧ OU q (eF d q rs acc).2 (eH q rs) (eF d q rs acc).1 :=
  yf (okPool_iff.1 hq).1 (fp q rs) (gD hq rs) d q.length [] acc (Nat.zero_add _) ha (fun i x h => absurd h (by simp))

theorem KU (to : List Int) (x : Nd) : (bn to x).kind = x.kind ∧ (bn to x).n = x.n ∧ (bn to x).s = x.s := by
  unfold bn
  split
  · exact ⟨rfl,rfl,rfl⟩
  · split <;> exact ⟨rfl,rfl,rfl⟩
end Go.Eng
/-! what is kept is all reached,and as great as it was: the plain side -/
namespace Go.Eng

inductive Rch (q : List Nd) (rs : List Int) : Nat → Prop
  | root {r : Int} : r ∈ rs → Rch q rs r.toNat
  | a {i : Nat} {x : Nd} : Rch q rs i → q[i]? = some x → (x.kind = 5 ∨ x.kind = 6 ∨ x.kind = 7) → Rch q rs x.a.toNat
  | b {i : Nat} {x : Nd} : Rch q rs i → q[i]? = some x → x.kind = 5 → Rch q rs x.b.toNat
theorem sP {m : List Bool} {i j : Nat} (h : (m.set i true)[j]? = some true) : j = i ∨ m[j]? = some true := by
  by_cases e : i = j
  · exact .inl e.symm
  · rw [List.getElem?_set_ne e] at h; exact .inr h
theorem rn {q : List Nd} {rs : List Int} : ∀ (k : Nat) {m : List Bool},(∀ j : Nat,m[j]? = some true → Rch q rs j) → ∀ j : Nat,(cn q k m)[j]? = some true → Rch q rs j
  | 0,m,h,j,hj => h j hj
  | k + 1,m,h,j,hj => by
    simp only [cn] at hj
    refine rn k ?_ j hj
    intro i hi
    split at hi
    · rename_i x hx hm
      have hk := h k hm
      unfold ct at hi
      split at hi
      · rename_i h5
        rcases sP hi with e | hi
        · rw [e]; exact .b hk hx h5
        · rcases sP hi with e | hi
          · rw [e]; exact .a hk hx (.inl h5)
          · exact h i hi
      · split at hi
        · rename_i h6
          rcases sP hi with e | hi
          · rw [e]; exact .a hk hx (.inr h6)
          · exact h i hi
        · exact h i hi
    · exact h i hi
theorem s7 : ∀ {rs : List Int} {m : List Bool} {j : Nat},(nU rs m)[j]? = some true → m[j]? = some true ∨ ∃ r ∈ rs,r.toNat = j
  | [],m,j,h => .inl h
  | r :: rs,m,j,h => by
    have h' : (nU rs (m.set r.toNat true))[j]? = some true := h
    rcases s7 h' with h | ⟨s,hs,e⟩
    · rcases sP h with e | h
      · exact .inr ⟨r,by simp,e.symm⟩
      · exact .inl h
    · exact .inr ⟨s,by simp [hs],e⟩
theorem GZ {q : List Nd} {rs : List Int} {j : Nat} (h : (eH q rs)[j]? = some true) : Rch q rs j := by
  refine rn _ ?_ j h
  intro i hi
  rcases s7 hi with h | ⟨r,hr,e⟩
  · rw [List.getElem?_replicate] at h
    split at h <;> cases h
  · rw [← e]; exact .root hr
theorem ql {q : List Nd} (hq : aW q = true) {rs : List Int} (hr : bx q rs = true) {j : Nat} (h : Rch q rs j) : (eH q rs)[j]? = some true := by
  induction h with
  | root hm => exact jD hr _ hm
  | a h hx hk ih =>
    have hc := gD hq rs _ _ hx ih
    rcases hk with hk | hk
    · exact (hc.1 hk).1
    · exact hc.2 hk
  | b h hx hk ih => exact ((gD hq rs _ _ hx ih).1 hk).2

theorem um (d : Int) {q : List Nd} {m : List Bool} (hm : m.length = q.length) : ∀ (k : Nat) (pre : List Int) (acc : List Nd),pre.length + k = q.length →
    (∀ j : Nat,j < acc.length → ∃ i : Nat,m[i]? = some true ∧ pre[i]? = some (j : Int)) → ∀ j : Nat,j < (ee d q m k pre acc).2.length → ∃ i : Nat,m[i]? = some true ∧ (ee d q m k pre acc).1[i]? = some (j : Int)
  | 0,pre,acc,hk,h,j,hj => h j hj
  | k + 1,pre,acc,hk,h,j,hj => by
    obtain ⟨x,hx⟩ := aA (l := q) (i := pre.length) (by omega)
    obtain ⟨b,hb⟩ := aA (l := m) (i := pre.length) (by omega)
    simp only [ee,hx,hb] at hj ⊢
    have old : ∀ (u : Int) (j : Nat),j < acc.length → ∃ i : Nat,m[i]? = some true ∧ (pre ++ [u])[i]? = some (j : Int) := by
      intro u j hj
      obtain ⟨i,h1,h2⟩ := h j hj
      exact ⟨i,h1,by rw [List.getElem?_append_left (aK h2)]; exact h2⟩
    cases b with
    | false => exact um d hm k (pre ++ [d]) acc (by simp; omega) (old d) j hj
    | true =>
      refine um d hm k (pre ++ [(acc.length : Int)]) (acc ++ [bn pre x]) (by simp; omega) ?_ j hj
      intro i hi
      by_cases e : i < acc.length
      · exact old _ i e
      · have : i = acc.length := by simp at hi; omega
        subst this
        exact ⟨pre.length,hb,by simp⟩
theorem LH {q q' : List Nd} (hq : aW q = true) {rs : List Int} (hr : bx q rs = true) {to now : List Int} (hmv : OU q q' (eH q rs) to) (hn : ∀ r ∈ rs,to.getD r.toNat 0 ∈ now) {i : Nat} (h : Rch q rs i) : ∀ j : Nat,to[i]? = some (j : Int) → Rch q' now j := by
  have one : ∀ {i : Nat} {x : Nd},Rch q rs i → q[i]? = some x → ∃ j : Nat,to[i]? = some (j : Int) ∧ q'[j]? = some (bn to x) := fun h hx => hmv _ _ hx (ql hq hr h)
  induction h with
  | root hm =>
    rename_i r
    intro j hj
    have e : to.getD r.toNat 0 = (j : Int) := by rw [List.getD_eq_getElem?_getD,hj]; rfl
    have := Rch.root (q := q') (hn r hm)
    rw [e] at this
    exact this
  | a h hx hk ih =>
    rename_i i x
    intro j hj
    obtain ⟨ji,e1,e2⟩ := one h hx
    have h' := ih ji e1
    have ea : (bn to x).a.toNat = j := by
      rcases hk with hk | hk
      · simp only [bn,hk,if_true,List.getD_eq_getElem?_getD,hj,Option.getD_some,Int.toNat_natCast]
      · have h5 : ¬ x.kind = 5 := by omega
        simp only [bn,h5,hk,if_true,if_false,List.getD_eq_getElem?_getD,hj,Option.getD_some,Int.toNat_natCast]
    rw [← ea]
    exact .a h' e2 (by rw [(KU to x).1]; exact hk)
  | b h hx hk ih =>
    rename_i i x
    intro j hj
    obtain ⟨ji,e1,e2⟩ := one h hx
    have h' := ih ji e1
    have ea : (bn to x).b.toNat = j := by
      simp only [bn,hk,if_true,List.getD_eq_getElem?_getD,hj,Option.getD_some,Int.toNat_natCast]
    rw [← ea]
    exact .b h' e2 (by rw [(KU to x).1]; exact hk)
noncomputable def ids (n : Nat) : List Int := (List.range n).map fun k : Nat => (k : Int)
theorem AV {n i : Nat} (h : i < n) : (ids (n))[i]? = some (i : Int) := by
  rw [ids,List.getElem?_map,List.getElem?_range h]; rfl
theorem Lz {x : Nd} {i : Nat} (ho : okN x i = true) : bn (ids (i)) x = x := by
  have g : ∀ n : Int,0 ≤ n → n < i → (ids (i)).getD n.toNat 0 = n := by
    intro n h0 h1
    rw [List.getD_eq_getElem?_getD,AV (by omega)]
    simp; omega
  unfold bn
  split
  · rename_i h5
    have := dK ho h5
    rw [g _ (by omega) (by omega),g _ (by omega) (by omega)]
  · split
    · rename_i h6
      have := dR ho h6
      rw [g _ (by omega) (by omega)]
    · rfl
theorem Eh (d : Int) {q : List Nd} (hq : bF q) {m : List Bool} (hm : ∀ j : Nat,j < q.length → m[j]? = some true) : ∀ (k i : Nat),i + k = q.length →
    ee d q m k (ids (i)) (q.take i) = (ids (q.length),q)
  | 0,i,h => by
    have : i = q.length := by omega
    subst this
    simp [ee]
  | k + 1,i,h => by
    obtain ⟨x,hx⟩ := aA (l := q) (i := i) (by omega)
    have hl : (ids (i)).length = i := by simp [ids]
    have ht : (q.take i).length = i := by simp; omega
    have ih := Eh d hq hm k (i + 1) (by omega)
    have es : ids (i + 1) = ids i ++ [(i : Int)] := by simp [ids,List.range_succ]
    rw [es,ww hx] at ih
    simp only [ee,hl,hx,hm i (by omega),ht,Lz (hq _ _ hx)]
    exact ih
theorem Kw {q : List Nd} (hq : aW q = true) {rs : List Int} (hr : bx q rs = true) (d d' : Int) : aW (cE d q rs).1 = true ∧ bx (cE d q rs).1 (cE d q rs).2 = true ∧ cE d' (cE d q rs).1 (cE d q rs).2 = cE d q rs := by
  obtain ⟨h1,h2⟩ := xd hq (acc := []) (fun j x h => by simp at h) rs d
  have hlen := tp d q (eH q rs) q.length [] []
  have hok : aW (eF d q rs []).2 = true := okPool_iff.2 ⟨h1,by have := bV hq; have := hlen; simp [eF] at this ⊢; omega⟩
  have hto : ∀ r ∈ rs,∃ j : Nat,(eF d q rs []).1[r.toNat]? = some (j : Int) ∧ j < (eF d q rs []).2.length := by
    intro r hm
    have hl := kH hr r hm
    obtain ⟨x,hx⟩ := aA (l := q) (i := r.toNat) (by omega)
    obtain ⟨j,e1,e2⟩ := h2 _ x hx (jD hr r hm)
    exact ⟨j,e1,aK e2⟩
  have hgd : ∀ r ∈ rs,0 ≤ (eF d q rs []).1.getD r.toNat 0 ∧ (eF d q rs []).1.getD r.toNat 0 < ((eF d q rs []).2.length : Int) := by
    intro r hm
    obtain ⟨j,e1,e2⟩ := hto r hm
    rw [List.getD_eq_getElem?_getD,e1]; simp; omega
  have hri : bx (cE d q rs).1 (cE d q rs).2 = true := by
    unfold bx cE
    rw [List.all_map,List.all_eq_true]
    intro r hm
    have := hgd r hm
    exact wi_iff.2 ⟨this.1,by simp only; omega⟩
  refine ⟨hok,hri,?_⟩
  have hall : ∀ j : Nat,j < (cE d q rs).1.length → (eH (cE d q rs).1 (cE d q rs).2)[j]? = some true := by
    intro j hj
    obtain ⟨i,hi,ht⟩ := um d (fp q rs) q.length [] [] (Nat.zero_add _) (fun j h => by simp at h) j hj
    exact ql hok hri (LH hq hr h2 (fun r hm => List.mem_map.2 ⟨r,hm,rfl⟩) (GZ hi) j ht)
  have hm := Eh d' (okPool_iff.1 hok).1 hall (cE d q rs).1.length 0 (Nat.zero_add _)
  have e : eF d' (cE d q rs).1 (cE d q rs).2 [] = (ids ((cE d q rs).1.length),(cE d q rs).1) := hm
  have e2 : cE d' (cE d q rs).1 (cE d q rs).2 = ((cE d q rs).1,(cE d q rs).2.map fun r => (ids ((cE d q rs).1.length)).getD r.toNat 0) := by
    show (_,_) = _
    rw [e]
  rw [e2]
  refine Prod.ext rfl ?_
  show List.map _ (cE d q rs).2 = (cE d q rs).2
  have : ∀ r ∈ (cE d q rs).2,(ids ((cE d q rs).1.length)).getD r.toNat 0 = r := by
    intro r hm
    have := kH hri r hm
    rw [List.getD_eq_getElem?_getD,AV (by omega)]
    simp; omega
  rw [List.map_congr_left this,List.map_id']
end Go.Eng
/-! nodes as bytes,on both sides -/
namespace Go.Eng
open Go.Proofs Go.Proofs.Tryz
set_option maxHeartbeats 4000000

structure NdOk (x : Nd) (i : Nat) : Prop where
  k1 : 1 ≤ x.kind
  k9 : x.kind ≤ 9
  n3 : -1000000000 ≤ x.n
  n9 : x.n ≤ 1000000000
  n0 : x.kind ≠ 3 → 0 ≤ x.n
  a0 : 0 ≤ x.a
  a1 : x.a ≤ i
  b0 : 0 ≤ x.b
  b1 : x.b ≤ i
  s4 : x.s.size ≤ 12
end Go.Eng
/-! tidying,and machines as bytes,on both sides -/
namespace Go.Eng
open Go.Proofs Go.Proofs.Tryz
set_option maxHeartbeats 4000000

theorem JH {p : List Nd} (hl : p.length ≤ 4294967296) : V 131 [eP p] = some (oP p,[]) := by
  have h : V 181 [.rs (5,0) (p.map eN)] = some (.os (5,0) (p.map eN),[]) := by
    rw [ij,List.nil_append,av (decide_eq_true (by rw [cU,List.length_map]; simp only [ni]; omega)),be]
    exact J1 _ _
  rw [ya]
  simp (disch := first | omega | (simp only [List.length_append,List.length_cons,List.length_nil,List.length_map,ak,aa]; omega)) only [↓af,aj,↓aq,↓da,h]
theorem Pm {p : List Nd} (hl : p.length ≤ 4294967296) : V 147 [eP p] = some (oP p,[]) := by
  rw [B6,List.nil_append]
  simp (disch := first | omega | (simp only [List.length_append,List.length_cons,List.length_nil,List.length_map,ak,aa]; omega)) only [↓aH,↓be,ba,List.length_map,cU,aa]
theorem gB {m : Mc} (hl : m.pool.length ≤ 4294967296) : V 63 [eMc m] = some (oMc m,[]) := by
  rw [s9]
  simp (disch := first | omega | (simp only [List.length_append,List.length_cons,List.length_nil,List.length_map,ak,aa]; omega)) only [↓af,aj,↓aq,↓aF,↓da,↓au,JH hl]
theorem pP {m : Mc} (hl : m.pool.length ≤ 4294967296) : V 85 [eMc m] = some (oMc m,[]) := by
  rw [DZ]
  simp (disch := first | omega | (simp only [List.length_append,List.length_cons,List.length_nil,List.length_map,ak,aa]; omega)) only [↓af,aj,↓aq,↓aF,↓da,↓au,Pm hl]
noncomputable def holds (m : Mc) : Bool := decide (m.state = 1 ∨ m.state = 2)
noncomputable def bw (m : Mc) : List Int := if holds m = true then [m.s,m.e,m.d,m.arg] else [m.s,m.e,m.d]
noncomputable def tf (m : Mc) (r : Int) : Int := (eF (-1) m.pool (bw m) []).1.getD r.toNat 0
noncomputable def ye (m : Mc) : Mc := if aW m.pool = true ∧ bx m.pool (bw m) = true then
    ⟨(cE (-1) m.pool (bw m)).1,m.at',tf m m.s,tf m m.e,tf m m.d,m.state,m.ask,if holds m = true then tf m m.arg else m.arg⟩ else m
theorem nW (m : Mc) : (bw m).length ≤ 4 := by unfold bw; split <;> simp
theorem EF {m : Mc} (hf : lu m.pool) (hl : m.pool.length ≤ 4294967296) : V 18 [eMc m] = some (oMc (ye m),[]) := by
  have hr := My hf (by omega) (l := bw m) (by have := nW m; omega)
  have hc := gB hl
  have hk : ∀ h1 : aW m.pool = true,∀ h2 : bx m.pool (bw m) = true,_ := fun h1 h2 => Qo h1 (rs := bw m) (by have := nW m; omega) h2
  rw [JW]
  unfold ye
  by_cases h : aW m.pool = true ∧ bx m.pool (bw m) = true
  · rw [if_pos h]
    have hk := hk h.1 h.2
    rw [h.1,h.2] at hr
    unfold bw holds at hr hk
    by_cases s1 : m.state = 1
    · rw [if_pos (by simp [s1])] at hr hk
      have e : holds m = true := by simp [holds,s1]
      rw [if_pos e]
      have e2 : bw m = [m.s,m.e,m.d,m.arg] := by rw [bw,if_pos e]
      unfold tf
      rw [e2]
      simp only [cE,List.map_cons,List.map_nil] at hr hk ⊢
      simp (disch := first | omega | (simp only [List.length_append,List.length_cons,List.length_nil,List.length_map,ak,aa]; omega)) only [↓af,aj,↓ar,↓ae,↓aH,↓aq,↓aF,↓ax,↓aw,↓da,↓au,↓ku,↓cy,↓dq,↓dm,↓fk,cy,dq,dm,fk,ba,aJ,Bool.and_true,Bool.not_true,List.length_cons,List.length_nil,cU,aa,hr,hk]
    by_cases s2 : m.state = 2
    · rw [if_pos (by simp [s2])] at hr hk
      have e : holds m = true := by simp [holds,s2]
      rw [if_pos e]
      have e2 : bw m = [m.s,m.e,m.d,m.arg] := by rw [bw,if_pos e]
      unfold tf
      rw [e2]
      simp only [cE,List.map_cons,List.map_nil] at hr hk ⊢
      simp (disch := first | omega | (simp only [List.length_append,List.length_cons,List.length_nil,List.length_map,ak,aa]; omega)) only [↓af,aj,↓ar,↓ae,↓aH,↓aq,↓aF,↓ax,↓aw,↓da,↓au,↓ku,↓cy,↓dq,↓dm,↓fk,cy,dq,dm,fk,ba,aJ,az,Bool.and_true,Bool.not_true,List.length_cons,List.length_nil,cU,aa,hr,hk]
    · rw [if_neg (by simp [s1,s2])] at hr hk
      have e : ¬ holds m = true := by simp [holds,s1,s2]
      rw [if_neg e]
      have e2 : bw m = [m.s,m.e,m.d] := by rw [bw,if_neg e]
      unfold tf
      rw [e2]
      simp only [cE,List.map_cons,List.map_nil] at hr hk ⊢
      simp (disch := first | omega | (simp only [List.length_append,List.length_cons,List.length_nil,List.length_map,ak,aa]; omega)) only [↓af,aj,↓ae,↓aH,↓aq,↓aF,↓ax,↓aw,↓da,↓au,↓ku,↓cy,↓dq,↓dm,cy,dq,dm,ba,az,Bool.and_true,Bool.not_true,List.length_cons,List.length_nil,aa,hr,hk]
  · rw [if_neg h]
    have e : (aW m.pool && bx m.pool (bw m)) = false := by
      cases h1 : aW m.pool <;> cases h2 : bx m.pool (bw m) <;> first | rfl | exact absurd ⟨h1,h2⟩ h
    rw [e] at hr
    unfold bw holds at hr
    by_cases s1 : m.state = 1
    · rw [if_pos (by simp [s1])] at hr
      simp only [List.map_cons,List.map_nil] at hr
      simp (disch := first | omega | (simp only [List.length_append,List.length_cons,List.length_nil,List.length_map,ak,aa]; omega)) only [↓af,aj,↓ar,↓aH,↓aq,↓aF,↓ax,↓aw,↓da,↓au,ba,aJ,Bool.not_false,cU,aa,hr,hc]
    by_cases s2 : m.state = 2
    · rw [if_pos (by simp [s2])] at hr
      simp only [List.map_cons,List.map_nil] at hr
      simp (disch := first | omega | (simp only [List.length_append,List.length_cons,List.length_nil,List.length_map,ak,aa]; omega)) only [↓af,aj,↓ar,↓ae,↓aH,↓aq,↓aF,↓ax,↓aw,↓da,↓au,ba,aJ,az,Bool.not_false,cU,aa,hr,hc]
    · rw [if_neg (by simp [s1,s2])] at hr
      simp only [List.map_cons,List.map_nil] at hr
      simp (disch := first | omega | (simp only [List.length_append,List.length_cons,List.length_nil,List.length_map,ak,aa]; omega)) only [↓af,aj,↓ar,↓ae,↓aq,↓aF,↓ax,↓aw,↓da,↓au,az,Bool.not_false,hr,hc]
theorem Gr {m : Mc} (hf : lu m.pool) (hl : m.pool.length ≤ 4294967296) : V 28 [eMc m] = some (oMc (ye m),[]) := by
  have hr := MH hf (by omega) (l := bw m) (by have := nW m; omega)
  have hc := pP hl
  have hk : ∀ h1 : aW m.pool = true,∀ h2 : bx m.pool (bw m) = true,_ := fun h1 h2 => OX h1 (rs := bw m) (by have := nW m; omega) h2
  rw [JE]
  unfold ye
  by_cases h : aW m.pool = true ∧ bx m.pool (bw m) = true
  · rw [if_pos h]
    have hk := hk h.1 h.2
    rw [IY h.1 h.2 0 (-1)] at hk
    rw [h.1,h.2] at hr
    unfold bw holds at hr hk
    by_cases s1 : m.state = 1
    · rw [if_pos (by simp [s1])] at hr hk
      have e : holds m = true := by simp [holds,s1]
      rw [if_pos e]
      have e2 : bw m = [m.s,m.e,m.d,m.arg] := by rw [bw,if_pos e]
      unfold tf
      rw [e2]
      simp only [cE,List.map_cons,List.map_nil] at hr hk ⊢
      simp (disch := first | omega | (simp only [List.length_append,List.length_cons,List.length_nil,List.length_map,ak,aa]; omega)) only [↓af,aj,↓ar,↓ae,↓aH,↓aq,↓aF,↓ax,↓aw,↓da,↓au,↓ku,↓cy,↓dq,↓dm,↓fk,cy,dq,dm,fk,ba,aJ,Bool.and_true,Bool.not_true,List.length_cons,List.length_nil,cU,aa,hr,hk]
    by_cases s2 : m.state = 2
    · rw [if_pos (by simp [s2])] at hr hk
      have e : holds m = true := by simp [holds,s2]
      rw [if_pos e]
      have e2 : bw m = [m.s,m.e,m.d,m.arg] := by rw [bw,if_pos e]
      unfold tf
      rw [e2]
      simp only [cE,List.map_cons,List.map_nil] at hr hk ⊢
      simp (disch := first | omega | (simp only [List.length_append,List.length_cons,List.length_nil,List.length_map,ak,aa]; omega)) only [↓af,aj,↓ar,↓ae,↓aH,↓aq,↓aF,↓ax,↓aw,↓da,↓au,↓ku,↓cy,↓dq,↓dm,↓fk,cy,dq,dm,fk,ba,aJ,az,Bool.and_true,Bool.not_true,List.length_cons,List.length_nil,cU,aa,hr,hk]
    · rw [if_neg (by simp [s1,s2])] at hr hk
      have e : ¬ holds m = true := by simp [holds,s1,s2]
      rw [if_neg e]
      have e2 : bw m = [m.s,m.e,m.d] := by rw [bw,if_neg e]
      unfold tf
      rw [e2]
      simp only [cE,List.map_cons,List.map_nil] at hr hk ⊢
      simp (disch := first | omega | (simp only [List.length_append,List.length_cons,List.length_nil,List.length_map,ak,aa]; omega)) only [↓af,aj,↓ae,↓aH,↓aq,↓aF,↓ax,↓aw,↓da,↓au,↓ku,↓cy,↓dq,↓dm,cy,dq,dm,ba,az,Bool.and_true,Bool.not_true,List.length_cons,List.length_nil,aa,hr,hk]
  · rw [if_neg h]
    have e : (aW m.pool && bx m.pool (bw m)) = false := by
      cases h1 : aW m.pool <;> cases h2 : bx m.pool (bw m) <;> first | rfl | exact absurd ⟨h1,h2⟩ h
    rw [e] at hr
    unfold bw holds at hr
    by_cases s1 : m.state = 1
    · rw [if_pos (by simp [s1])] at hr
      simp only [List.map_cons,List.map_nil] at hr
      simp (disch := first | omega | (simp only [List.length_append,List.length_cons,List.length_nil,List.length_map,ak,aa]; omega)) only [↓af,aj,↓ar,↓aH,↓aq,↓aF,↓ax,↓aw,↓da,↓au,ba,aJ,Bool.not_false,cU,aa,hr,hc]
    by_cases s2 : m.state = 2
    · rw [if_pos (by simp [s2])] at hr
      simp only [List.map_cons,List.map_nil] at hr
      simp (disch := first | omega | (simp only [List.length_append,List.length_cons,List.length_nil,List.length_map,ak,aa]; omega)) only [↓af,aj,↓ar,↓ae,↓aH,↓aq,↓aF,↓ax,↓aw,↓da,↓au,ba,aJ,az,Bool.not_false,cU,aa,hr,hc]
    · rw [if_neg (by simp [s1,s2])] at hr
      simp only [List.map_cons,List.map_nil] at hr
      simp (disch := first | omega | (simp only [List.length_append,List.length_cons,List.length_nil,List.length_map,ak,aa]; omega)) only [↓af,aj,↓ar,↓ae,↓aq,↓aF,↓ax,↓aw,↓da,↓au,az,Bool.not_false,hr,hc]
theorem Jc {c : Cd} {m : Mc} (h : gu c m = true) : aW m.pool = true ∧ bx m.pool (bw m) = true ∧ 0 ≤ m.at' ∧ m.at' ≤ 400 ∧ 0 ≤ m.state ∧ m.state ≤ 3 ∧ 0 ≤ m.ask ∧ m.ask ≤ 19 ∧ 0 ≤ m.arg ∧ m.arg ≤ 3000 := by
  unfold gu c9 kI at h
  simp only [Bool.and_eq_true,decide_eq_true_eq] at h
  obtain ⟨⟨_,hlist,_⟩,hp,hs,he,hd,hst⟩ := h
  have hlen := bV hp
  refine ⟨hp,?_,?_⟩
  · unfold bw holds bx
    unfold pT kI at hst
    split
    · rename_i hh
      have hh := of_decide_eq_true hh
      have ha : wi m.arg 0 ((m.pool.length : Int) - 1) = true := by
        rcases hh with h1 | h1
        · simp [h1] at hst; exact hst.2.2.2
        · simp [h1] at hst; exact hst.2.2
      simp [hs,he,hd,ha]
    · simp [hs,he,hd]
  · unfold pT kI at hst
    repeat' split at hst
    all_goals (try simp only [Bool.and_eq_true,wi,decide_eq_true_eq,beq_iff_eq] at hst)
    all_goals (first | (cases hst; done) | omega)
theorem BG {c : Cd} {m : Mc} (h : gu c m = true) : gu c (ye m) = true := by
  obtain ⟨hp,hr,_⟩ := Jc h
  obtain ⟨a1,a2,_⟩ := Kw hp hr (-1) (-1)
  have hroot : ∀ r ∈ bw m,wi (tf m r) 0 (((cE (-1) m.pool (bw m)).1.length : Int) - 1) = true := by
    intro r hm
    have := List.all_eq_true.1 a2 (tf m r) (List.mem_map.2 ⟨r,hm,rfl⟩)
    exact this
  have h3 : m.s ∈ bw m ∧ m.e ∈ bw m ∧ m.d ∈ bw m := by unfold bw; split <;> simp
  have h4 : holds m = true → m.arg ∈ bw m := by intro hh; unfold bw; rw [if_pos hh]; simp
  unfold ye
  rw [if_pos ⟨hp,hr⟩]
  unfold gu pT kI at h ⊢
  simp only [Bool.and_eq_true] at h ⊢
  refine ⟨h.1,a1,hroot _ h3.1,hroot _ h3.2.1,hroot _ h3.2.2,?_⟩
  have hst := h.2.2.2.2.2
  by_cases s0 : m.state = 0
  · have e : ¬ holds m = true := by simp [holds,s0]
    rw [if_pos s0] at hst ⊢
    rw [if_neg e]; exact hst
  rw [if_neg s0] at hst ⊢
  by_cases s1 : m.state = 1
  · have e : holds m = true := by simp [holds,s1]
    rw [if_pos s1] at hst ⊢
    rw [if_pos e]
    simp only [Bool.and_eq_true] at hst ⊢
    exact ⟨hst.1,hst.2.1,hst.2.2.1,hroot _ (h4 e)⟩
  rw [if_neg s1] at hst ⊢
  by_cases s2 : m.state = 2
  · have e : holds m = true := by simp [holds,s2]
    rw [if_pos s2] at hst ⊢
    rw [if_pos e]
    simp only [Bool.and_eq_true] at hst ⊢
    exact ⟨hst.1,hst.2.1,hroot _ (h4 e)⟩
  rw [if_neg s2] at hst ⊢
  have e : ¬ holds m = true := by simp [holds,s1,s2]
  rw [if_neg e]
  exact hst
end Go.Eng
/-! words of a text,on both sides -/
namespace Go.Eng
open Go.Proofs Go.Proofs.Tryz
set_option maxHeartbeats 4000000

noncomputable def dU (x : UInt8) : Bool := decide (48 ≤ x.toNat) && decide (x.toNat ≤ 57)
noncomputable def Ru (acc : Nat) (l : List UInt8) : Nat := l.foldl (fun n x => 10 * n + (x.toNat - 48)) acc
noncomputable def Rh (l : List UInt8) : Option Nat := if l.length = 0 ∨ 10 < l.length ∨ (l[0]? = some 48 ∧ 1 < l.length) ∨ l.all dU = false then none else some (Ru 0 l)
end Go.Eng
/-! the node of a word,on both sides -/
namespace Go.Eng
open Go.Proofs Go.Proofs.Tryz
set_option maxHeartbeats 4000000

noncomputable def tb (l : List UInt8) : Bool := match Rh l with | some n => decide (n ≤ 1000000000) | none => vZ (mk l)
noncomputable def QV (a r : List UInt8) (v : Nat) : Int := if r.length = a.length then (v : Int) else -(v : Int)
noncomputable def Qn (a r : List UInt8) (v : Nat) : Bool := decide (LK (QV a r v) = a) && wi (QV a r v) (-1000000000) 1000000000
end Go.Eng
/-! sizes told: printed by mkz.py -/
namespace Go.Eng
open Go.Proofs Go.Proofs.Tryz
set_option maxHeartbeats 4000000
set_option maxRecDepth 100000

end Go.Eng
/-! reading a text,on both sides -/
namespace Go.Eng
open Go.Proofs Go.Proofs.Tryz
set_option maxHeartbeats 4000000

noncomputable def eJ : List Int → List Nd → Nat → List Nd × Nat
  | [],q,c => (q,c)
  | x :: r,q,c => eJ r (q ++ [⟨5,0,⟨#[]⟩,x,(c : Int)⟩]) q.length
noncomputable def aP (q : List Nd) (row : List Int) : List Nd × Nat := eJ row.reverse (q ++ [⟨1,0,⟨#[]⟩,0,0⟩]) q.length
theorem xx : ∀ (r : List Int) (q : List Nd) (c : Nat),(eJ r q c).1.length = q.length + r.length
  | [],q,c => rfl
  | x :: r,q,c => by rw [eJ,xx r]; simp only [List.length_append,List.length_cons,List.length_nil]; omega
theorem kw (q : List Nd) (row : List Int) : (aP q row).1.length = q.length + row.length + 1 := by
  rw [aP,xx]; simp only [List.length_append,List.length_cons,List.length_nil,List.length_reverse]; omega
theorem Gi {row : List Int} {k : Nat} {x : Int} (hx : row[k]? = some x) : (row.take (k + 1)).reverse = x :: (row.take k).reverse := by
  rw [List.take_add_one,hx]; simp
theorem Dl {q : List Nd} (h : q.length < 4294967296) (a b : Int) : V 94 [rP q,.int .i64 a,.int .i64 b] = some (.int .i64 q.length,[rP (q ++ [⟨5,0,⟨#[]⟩,a,b⟩])]) := by
  have := lm h ⟨5,0,⟨#[]⟩,a,b⟩
  rw [we,cj this]
theorem yF {row : List Int} (hr : row.length < 4294967296) : ∀ (k : Nat) (q : List Nd) (c : Nat),k ≤ row.length → q.length + k < 4294967296 →
    fx (row.map eI) (c : Int) ((k : Int) - 1) (q.map eN) = some (.int .i64 (eJ (row.take k).reverse q c).2,[rP (eJ (row.take k).reverse q c).1])
  | 0,q,c,_,_ => by rw [jS,ah (decide_eq_false (by omega))]; rfl
  | k + 1,q,c,hk,hq => by
    obtain ⟨x,hx⟩ := aA (l := row) (i := k) (by omega)
    have hp := Dl (q := q) (by omega) x c
    have ih := yF hr k (q ++ [⟨5,0,⟨#[]⟩,x,(c : Int)⟩]) q.length (by omega) (by simp only [List.length_append,List.length_cons,List.length_nil]; omega)
    have e : ((k + 1 : Nat) : Int) - 1 = (k : Int) := by omega
    rw [jS,e,ap (decide_eq_true (by omega)),av (by rw [List.length_map]; exact bG (by omega)),Int.toNat_natCast,al hx,ax,j8 hp,w64 (by omega) (by omega),ih,Gi hx,eJ]
theorem Dt {q : List Nd} {row : List Int} (h : q.length + row.length < 4294967290) : V 222 [rP q,.rs (1,0) (row.map eI)] = some (.int .i64 (aP q row).2,[rP (aP q row).1]) := by
  have ha := lm (p := q) (by omega) ⟨1,0,⟨#[]⟩,0,0⟩
  have hl := yF (row := row) (by omega) row.length (q ++ [⟨1,0,⟨#[]⟩,0,0⟩]) q.length (Nat.le_refl _) (by simp only [List.length_append,List.length_cons,List.length_nil]; omega)
  rw [List.take_length] at hl
  rw [wh,cj ha,List.length_map,w64 (by simp only [ni]; omega) (by simp only [ni]; omega)]
  exact hl
theorem xe {row : List Int} (hr : row.length < 4294967296) : ∀ (k : Nat) (q : List Nd) (c : Nat),k ≤ row.length → q.length + k < 4294967296 →
    i4 (row.map eI) (c : Int) ((k : Int) - 1) (q.map eN) = some (.int .i64 (eJ (row.take k).reverse q c).2,[rP (eJ (row.take k).reverse q c).1])
  | 0,q,c,_,_ => by rw [ma,ah (decide_eq_false (by omega))]; rfl
  | k + 1,q,c,hk,hq => by
    obtain ⟨x,hx⟩ := aA (l := row) (i := k) (by omega)
    have hp := cM (p := q) (by omega) ⟨5,0,⟨#[]⟩,x,(c : Int)⟩
    have ih := xe hr k (q ++ [⟨5,0,⟨#[]⟩,x,(c : Int)⟩]) q.length (by omega) (by simp only [List.length_append,List.length_cons,List.length_nil]; omega)
    have e : ((k + 1 : Nat) : Int) - 1 = (k : Int) := by omega
    rw [ma,e,ap (decide_eq_true (by omega)),av (by rw [List.length_map]; exact bG (by omega)),Int.toNat_natCast,al hx,ax,bm hp,w64 (by omega) (by omega),ih,Gi hx,eJ]
theorem sQ {q : List Nd} {row : List Int} (h : q.length + row.length < 4294967290) : V 210 [rP q,.rs (1,0) (row.map eI)] = some (.int .i64 (aP q row).2,[rP (aP q row).1]) := by
  have ha := cM (p := q) (by omega) ⟨1,0,⟨#[]⟩,0,0⟩
  have hl := xe (row := row) (by omega) row.length (q ++ [⟨1,0,⟨#[]⟩,0,0⟩]) q.length (Nat.le_refl _) (by simp only [List.length_append,List.length_cons,List.length_nil]; omega)
  rw [List.take_length] at hl
  rw [B9,bm ha,List.length_map,w64 (by simp only [ni]; omega) (by simp only [ni]; omega)]
  exact hl
inductive RdR where
  | err (c a : Int)
  | ok (q : List Nd) (row : List Int)
end Go.Eng
/-! a step of a machine,plain -/
namespace Go.Eng

noncomputable abbrev ndN : Nd := ⟨1,0,⟨#[]⟩,0,0⟩
noncomputable abbrev ndI (n : Int) : Nd := ⟨3,n,⟨#[]⟩,0,0⟩
noncomputable abbrev ndP (a b : Int) : Nd := ⟨5,0,⟨#[]⟩,a,b⟩
noncomputable abbrev ndF (n a : Int) : Nd := ⟨6,n,⟨#[]⟩,a,0⟩
noncomputable abbrev ndK (a : Int) : Nd := ⟨7,0,⟨#[]⟩,a,0⟩
noncomputable abbrev ndR (n : Int) : Nd := ⟨8,n,⟨#[]⟩,0,0⟩
noncomputable def ndB (b : Bool) : Nd := match b with | true => ⟨2,1,⟨#[]⟩,0,0⟩ | false => ⟨2,0,⟨#[]⟩,0,0⟩
noncomputable def nod (p : List Nd) (v : Int) : Nd := p.getD v.toNat ndN
noncomputable abbrev InP (p : List Nd) (v : Int) : Prop := 0 ≤ v ∧ v < (p.length : Int)

noncomputable def prNames : List (List UInt8) := [[43],[45],[42],[60],[61],[99,111,110,115],[99,97,114],[99,100,114],[110,117,108,108,63],[112,97,105,114,63],[101,113,63],[110,111,116],[112,114,105,110,116],[115,101,108,102],[115,101,110,100],[114,101,99,118],[115,112,97,119,110],[99,97,108,108,99,99],[103,111]]
noncomputable def gt (s : ByteArray) : Int := ut (fun x => aQ s (mk x)) prNames + 1
noncomputable def prArgs : List Int := [2,2,2,2,2,2,1,1,1,1,2,1,1,0,2,0,1,1,1]
noncomputable def bl (n : Int) : Int := if wi n 1 19 = true then prArgs.getD (n - 1).toNat 0 else -1

noncomputable def eW (out : List Int) (x : Nd) : Nd :=
  if x.kind = 5 then ⟨x.kind,x.n,x.s,out.getD x.a.toNat 0,out.getD x.b.toNat 0⟩
  else if x.kind = 6 ∨ x.kind = 7 then ⟨x.kind,x.n,x.s,out.getD x.a.toNat 0,x.b⟩ else x
noncomputable def jX (x y : Nd) : Bool := (x.kind == y.kind) && ((x.n == y.n) && (aQ x.s y.s && ((x.a == y.a) && (x.b == y.b))))
noncomputable def BJ : List Nd → List Int → List Nd → List Int × List Nd
  | [],out,keys => (out,keys)
  | x :: r,out,keys => BJ r (out ++ [match keys.findIdx? (fun y => jX y (eW out x)) with | some k => (k : Int) | none => (out.length : Int)]) (keys ++ [eW out x])
noncomputable def MO (p : List Nd) : List Int := (BJ p [] []).1
noncomputable def K7 (p : List Nd) (a b : Int) : Bool := (MO p).getD a.toNat 0 == (MO p).getD b.toNat 0

noncomputable def pg (p : List Nd) (n : Int) (l : List Int) : Except Int (List Nd × Int) :=
  let x := nod p (l.getD 0 0); let y := nod p (l.getD 1 0)
  if n ≤ 5 then
    if x.kind = 3 ∧ y.kind = 3 then
      let z := if n = 1 then ndI (x.n + y.n) else if n = 2 then ndI (x.n - y.n) else if n = 3 then ndI (x.n * y.n) else if n = 4 then ndB (decide (x.n < y.n)) else ndB (x.n == y.n)
      if wi z.n (-1000000000) 1000000000 = true then .ok (p ++ [z],p.length) else .error 4
    else .error 3
  else if n = 6 then .ok (p ++ [ndP (l.getD 0 0) (l.getD 1 0)],p.length)
  else if n = 7 ∨ n = 8 then
    if x.kind = 5 then .ok (p,if n = 7 then x.a else x.b) else .error 3
  else if n = 9 then .ok (p ++ [ndB (x.kind == 1)],p.length)
  else if n = 10 then .ok (p ++ [ndB (x.kind == 5)],p.length)
  else if n = 11 then .ok (p ++ [ndB (K7 p (l.getD 0 0) (l.getD 1 0))],p.length)
  else .ok (p ++ [ndB (x.kind == 2 && x.n == 0)],p.length)

noncomputable def sG (m : Mc) (v : Int) : Mc := ⟨m.pool ++ [ndP v m.s],m.at',m.pool.length,m.e,m.d,m.state,m.ask,m.arg⟩
noncomputable def gz (m : Mc) : Option (Int × Mc) := if (nod m.pool m.s).kind = 5 then some ((nod m.pool m.s).a,⟨m.pool,m.at',(nod m.pool m.s).b,m.e,m.d,m.state,m.ask,m.arg⟩) else none
noncomputable def iJ : Nat → Mc → Option (List Int × Mc)
  | 0,m => some ([],m)
  | k + 1,m => match gz m with
    | none => none
    | some (v,m') => match iJ k m' with
      | none => none
      | some (l,m'') => some (v :: l,m'')
noncomputable def pj (p : List Nd) : Nat → Int → Option Int
  | 0,v => if (nod p v).kind = 5 then some (nod p v).a else none
  | k + 1,v => if (nod p v).kind = 5 then pj p k (nod p v).b else none
noncomputable def uW (p : List Nd) : Nat → Int → List Int × Bool
  | 0,v => ([],false)
  | k + 1,v => if (nod p v).kind = 5 then ((nod p v).a :: (uW p k (nod p v).b).1,(uW p k (nod p v).b).2) else ([],(nod p v).kind == 1)
noncomputable def ke (p : List Nd) (v : Int) : List Int × Bool := uW p (v.toNat + 1) v
noncomputable def dt (c : Cd) (n : Int) : Bool := wi n 0 ((c.list.length : Int) - 1)
noncomputable def nJ (c : Cd) (p : List Nd) (v : Int) (many : Nat) : Option (Int × List Int) := match ke p v with
  | (a :: r,true) => if r.length + 1 = many ∧ (nod p a).kind = 3 ∧ dt c (nod p a).n = true then some ((nod p a).n,r) else none
  | _ => none

noncomputable def Ep (m : Mc) (o i : Int) : Except Int Mc := match pj m.pool o.toNat m.e with
  | none => .error 7
  | some fr => match pj m.pool i.toNat fr with
    | none => .error 7
    | some v => .ok (sG m v)
noncomputable def qc (c : Cd) (m : Mc) (s : ByteArray) : Except Int Mc :=
  if 0 ≤ j5 c s then
    let d := c.defs.getD (j5 c s).toNat ⟨⟨#[]⟩,0,0⟩
    .ok (sG ⟨m.pool ++ [ndN] ++ [ndF (8 * d.at' + d.args) m.pool.length],m.at',m.s,m.e,m.d,m.state,m.ask,m.arg⟩ (m.pool.length + 1))
  else if gt s = 0 then .error 1
  else .ok (sG ⟨m.pool ++ [ndR (gt s)],m.at',m.s,m.e,m.d,m.state,m.ask,m.arg⟩ m.pool.length)
noncomputable def oG (c : Cd) (m : Mc) (f : Nd) (l : List Int) : Except Int Mc :=
  if f.n % 8 ≠ (l.length : Int) then .error 2
  else if dt c (f.n / 8) = false then .error 7
  else
    let b := aP (m.pool ++ [ndI (m.at' + 1)]) [(m.pool.length : Int),m.s,m.e]
    let v := aP (b.1 ++ [ndP b.2 m.d]) l
    .ok ⟨v.1 ++ [ndP v.2 f.a] ++ [ndN],f.n / 8,((v.1.length : Int) + 1),v.1.length,b.1.length,m.state,m.ask,m.arg⟩
noncomputable def DP (c : Cd) (m : Mc) (st : Int) (l : List Int) : Except Int Mc :=
  if l.length ≠ 1 then .error 2
  else match nJ c m.pool st 4 with
    | some (n,[s,e,d]) => .ok (sG ⟨m.pool,n,s,e,d,m.state,m.ask,m.arg⟩ (l.getD 0 0))
    | _ => .error 7
noncomputable def gT (c : Cd) : Nat → Mc → Int → List Int → Except Int Mc
  | 0,_,_,_ => .error 0
  | k + 1,m,f,l =>
    let x := nod m.pool f
    if x.kind = 6 then oG c m x l
    else if x.kind = 8 then
      if bl x.n ≠ (l.length : Int) then .error 2
      else if x.n = 18 then
        let st := aP (m.pool ++ [ndI (m.at' + 1)]) [(m.pool.length : Int),m.s,m.e,m.d]
        gT c k ⟨st.1 ++ [ndK st.2],m.at',m.s,m.e,m.d,m.state,m.ask,m.arg⟩ (l.getD 0 0) [(st.1.length : Int)]
      else if x.n > 12 then
        let r := aP m.pool l
        .ok ⟨r.1,m.at',m.s,m.e,m.d,1,x.n,r.2⟩
      else match pg m.pool x.n l with
        | .error h => .error (h + 1)
        | .ok (p,v) => .ok ⟨p ++ [ndP v m.s],m.at' + 1,p.length,m.e,m.d,m.state,m.ask,m.arg⟩
    else if x.kind = 7 then DP c m x.a l
    else .error 3
noncomputable def fg (c : Cd) (m : Mc) (many : Nat) : Except Int Mc :=
  if dt c (m.at' + 1) = false then .error 7
  else match iJ (many + 1) m with
    | none => .error 7
    | some (l,m') => gT c 3 m' (l.reverse.getD 0 0) (l.reverse.drop 1)
noncomputable def pd (c : Cd) (m : Mc) : Except Int Mc := match gz m with
  | none => .error 7
  | some (v,m1) =>
    let d := nod m1.pool m1.d
    if d.kind = 1 then .ok ⟨m1.pool,0,m1.s,m1.e,m1.d,2,m1.ask,v⟩
    else if d.kind ≠ 5 then .error 7
    else match nJ c m1.pool d.a 3 with
      | some (n,[s,e]) => .ok (sG ⟨m1.pool,n,s,e,d.b,m1.state,m1.ask,m1.arg⟩ v)
      | _ => .error 7
noncomputable def fM (d : Int) (q : List Nd) (v : Int) (acc : List Nd) : List Nd × Int := ((eF d q [v] acc).2,(eF d q [v] acc).1.getD v.toNat 0)
noncomputable def Rk (c : Cd) (m : Mc) (v : Int) : Mc := sG ⟨(fM (-1) c.pool v m.pool).1,m.at',m.s,m.e,m.d,m.state,m.ask,m.arg⟩ (fM (-1) c.pool v m.pool).2
noncomputable def goM (c : Cd) (r : Except Int Mc) (next : Int) : Except Int Mc := match r with
  | .error h => .error h
  | .ok m => if dt c next = true then .ok ⟨m.pool,next,m.s,m.e,m.d,m.state,m.ask,m.arg⟩ else .error 7
noncomputable def lr (c : Cd) (m : Mc) (x : In) : Except Int Mc :=
  if x.op = 1 then goM c (.ok (Rk c m x.n)) (m.at' + 1)
  else if x.op = 2 then goM c (Ep m x.n x.i) (m.at' + 1)
  else if x.op = 3 then goM c (qc c m x.s) (m.at' + 1)
  else if x.op = 5 then goM c (.ok m) x.n
  else if x.op = 6 then goM c (.ok (sG ⟨m.pool ++ [ndF (8 * x.n + x.i) m.e],m.at',m.s,m.e,m.d,m.state,m.ask,m.arg⟩ m.pool.length)) (m.at' + 1)
  else match gz m with
    | none => .error 7
    | some (v,m1) => goM c (.ok m1) (if x.op = 4 ∧ (nod m1.pool v).kind = 2 ∧ (nod m1.pool v).n = 0 then x.n else m.at' + 1)
noncomputable def AF (m : Mc) (h : Int) : Mc := ⟨m.pool,0,m.s,m.e,m.d,3,h,0⟩
noncomputable def doM (c : Cd) (m : Mc) : Except Int Mc :=
  let x := c.list.getD m.at'.toNat ⟨0,0,0,⟨#[]⟩⟩
  if x.op = 7 then fg c m x.i.toNat else if x.op = 8 then pd c m else lr c m x
noncomputable def jN (c : Cd) (m : Mc) : Mc := match doM c m with
  | .error h => AF m h
  | .ok m' => if m'.pool.length ≤ 3000 then m' else AF m 6
noncomputable def NK : Mc := ⟨[],0,0,0,0,3,7,0⟩
noncomputable def z8 (c : Cd) (m : Mc) : Mc := if gu c m = true then (if m.state = 0 then jN c m else m) else NK
noncomputable def d5 (m : Mc) : Mc := if m.pool.length ≤ 2000 then m else ye m
noncomputable def g9 (c : Cd) : Nat → Mc → Mc × Nat
  | 0,m => (m,0)
  | k + 1,m => if m.state = 0 then ((g9 c k (d5 (jN c m))).1,(g9 c k (d5 (jN c m))).2 + 1) else (m,0)
noncomputable def xq (c : Cd) (m : Mc) (steps : Int) : Mc × Nat := if gu c m = true then g9 c (mnI steps 2000).toNat m else (NK,0)
end Go.Eng
/-! a step of a machine: the program's side: the stack,the frames,lists -/
namespace Go.Eng
open Go.Proofs Go.Proofs.Tryz
set_option maxHeartbeats 4000000

noncomputable abbrev eSt (c : Cd) (m : Mc) : D := .op [.os (5,0) (m.pool.map eN),.int .i64 m.at',.int .i64 m.s,.int .i64 m.e,.int .i64 m.d,.int .i64 m.state,.int .i64 m.ask,.int .i64 m.arg,.rs (5,0) (c.pool.map eN),.rs (4,0) (c.list.map eIn),.rs (3,0) (c.defs.map eDf)]
noncomputable def sx (c : Cd) (X : Option Ret) (r : Except Int Mc) : Prop := match r with
  | .ok m => X = some (.int .i64 0,[eSt c m])
  | .error h => h ≠ 0 ∧ ∃ m',X = some (.int .i64 h,[eSt c m'])
theorem qK {p : List Nd} {v : Int} (h : InP p v) : p[v.toNat]? = some (nod p v) := by
  have : v.toNat < p.length := by omega
  simp [nod,List.getD_eq_getElem?_getD,List.getElem?_eq_getElem this]
theorem lb {p : List Nd} (hp : bF p) {v : Int} (h : InP p v) : okN (nod p v) v = true := by
  have := hp _ _ (qK h)
  rwa [Int.toNat_of_nonneg h.1] at this
theorem pt {p : List Nd} (hp : bF p) {v : Int} (h : InP p v) (hk : (nod p v).kind = 5 ∨ (nod p v).kind = 6 ∨ (nod p v).kind = 7) : InP p (nod p v).a := by
  rcases hk with hk | hk
  · have := dK (lb hp h) hk; exact ⟨by omega,by omega⟩
  · have := dR (lb hp h) hk; exact ⟨by omega,by omega⟩
theorem sR {p : List Nd} (hp : bF p) {v : Int} (h : InP p v) (hk : (nod p v).kind = 5) : InP p (nod p v).b := by
  have := dK (lb hp h) hk; exact ⟨by omega,by omega⟩
theorem Pz {p q : List Nd} {v : Int} (h : InP p v) : nod (p ++ q) v = nod p v := by
  have : v.toNat < p.length := by omega
  simp [nod,List.getD_eq_getElem?_getD,List.getElem?_append_left this]
theorem bc {p : List Nd} (q : List Nd) {v : Int} (h : InP p v) : InP (p ++ q) v := ⟨h.1,by simp only [List.length_append]; omega⟩
section
variable {R : Type} {p : List Nd} {v : Int}
theorem IQ (h : InP p v) : (decide (0 ≤ v) && decide (v < ni (p.map eN).length)) = true := by
  rw [List.length_map]; simp only [ni,Bool.and_eq_true,decide_eq_true_eq]; exact ⟨h.1,h.2⟩
theorem jd (h : InP p v) (K : Int → Int → ByteArray → Int → Int → Option R) : grd (decide (0 ≤ v) && decide (v < ni (p.map eN).length)) (am (p.map eN) v.toNat fun x => tk1 x fun n4 n7 s10 n13 n16 => (K n4 n7 s10 n13 n16)) = K (nod p v).kind (nod p v).n (nod p v).s (nod p v).a (nod p v).b := by
  rw [av (IQ h),al (qK h),o5]
theorem sA (h : InP p v) (K : Int → Option R) : grd (decide (0 ≤ v) && decide (v < ni (p.map eN).length)) (am (p.map eN) v.toNat fun x => asAgg x fun l => am l 0 fun y => asI .i64 y fun n => K n) = K (nod p v).kind := by
  rw [av (IQ h),al (qK h),Rq]
theorem Mf (h : InP p v) (K : Int → Option R) : grd (decide (0 ≤ v) && decide (v < ni (p.map eN).length)) (am (p.map eN) v.toNat fun x => asAgg x fun l => am l 1 fun y => asI .i64 y fun n => K n) = K (nod p v).n := by
  rw [av (IQ h),al (qK h),Rj]
theorem Oj (h : InP p v) (K : Int → Option R) : grd (decide (0 ≤ v) && decide (v < ni (p.map eN).length)) (am (p.map eN) v.toNat fun x => asAgg x fun l => am l 3 fun y => asI .i64 y fun n => K n) = K (nod p v).a := by
  rw [av (IQ h),al (qK h),Rc]
theorem OG (h : InP p v) (K : Int → Option R) : grd (decide (0 ≤ v) && decide (v < ni (p.map eN).length)) (am (p.map eN) v.toNat fun x => asAgg x fun l => am l 4 fun y => asI .i64 y fun n => K n) = K (nod p v).b := by
  rw [av (IQ h),al (qK h),Rl]
end

theorem jQ {c : Cd} {m : Mc} (hl : m.pool.length < 4294967296) (v : Int) : V 185 [eSt c m,.int .i64 v] = some (.tup [],[eSt c (sG m v)]) := by
  have h := Dl hl v m.s
  rw [s5,j8 h]
  rfl
theorem uI {c : Cd} {m : Mc} (hs : InP m.pool m.s) {v : Int} {m' : Mc} (h : gz m = some (v,m')) : V 182 [eSt c m] = some (.tup [.int .i64 v,.bool true],[eSt c m']) := by
  unfold gz at h
  rw [kM,jd hs]
  split at h
  · rename_i h5
    cases h
    rw [ah (cq h5)]
  · cases h
theorem oH {c : Cd} {m : Mc} (hs : InP m.pool m.s) (h : gz m = none) : V 182 [eSt c m] = some (.tup [.int .i64 0,.bool false],[eSt c m]) := by
  unfold gz at h
  rw [kM,jd hs]
  split at h
  · cases h
  · rename_i h5
    rw [ap (c7 h5)]
theorem FG {m : Mc} (hp : bF m.pool) (hs : InP m.pool m.s) {v : Int} {m' : Mc} (h : gz m = some (v,m')) : InP m.pool v ∧ m'.pool = m.pool ∧ InP m.pool m'.s ∧ m'.e = m.e ∧ m'.d = m.d ∧ m'.at' = m.at' ∧ m'.state = m.state ∧ m'.ask = m.ask ∧ m'.arg = m.arg := by
  unfold gz at h
  split at h
  · rename_i h5
    cases h
    exact ⟨pt hp hs (.inl h5),rfl,sR hp hs h5,rfl,rfl,rfl,rfl,rfl,rfl⟩
  · cases h
noncomputable def alD (r : Option Int) : D := match r with | some v => .tup [.int .i64 v,.bool true] | none => .tup [.int .i64 0,.bool false]
theorem rJ {c : Cd} {m : Mc} (hp : bF m.pool) : ∀ (k : Nat) (v : Int),InP m.pool v → k < 4611686018427387904 →
    dQ v (k : Int) m.at' m.s m.e m.d m.state m.ask m.arg (c.pool.map eN) (c.list.map eIn) (c.defs.map eDf) (m.pool.map eN) = some (alD (pj m.pool k v),[eSt c m])
  | 0,v,hv,hk => by
    rw [gw,ah (decide_eq_false (by omega)),sA hv]
    unfold pj
    by_cases h5 : (nod m.pool v).kind = 5
    · rw [if_pos h5,ah (cq h5),Oj hv]; rfl
    · rw [if_neg h5,ap (c7 h5)]; rfl
  | k + 1,v,hv,hk => by
    have hw : IntKind.wrap IntKind.i64 (((k + 1 : Nat) : Int) - 1) = (k : Int) := by rw [w64 (by omega) (by omega)]; omega
    rw [gw,ap (decide_eq_true (by omega)),sA hv]
    unfold pj
    by_cases h5 : (nod m.pool v).kind = 5
    · have ih := rJ (c := c) hp k (nod m.pool v).b (sR hp hv h5) (by omega)
      rw [if_pos h5,ah (cq h5),OG hv,hw,ih]
    · rw [if_neg h5,ap (c7 h5)]; rfl
theorem yJ {c : Cd} {m : Mc} (hp : bF m.pool) {v : Int} (hv : InP m.pool v) {n : Int} (h0 : 0 ≤ n) (h1 : n < 4611686018427387904) : V 207 [eSt c m,.int .i64 v,.int .i64 n] = some (alD (pj m.pool n.toNat v),[eSt c m]) := by
  have := rJ (c := c) hp n.toNat v hv (by omega)
  rw [Int.toNat_of_nonneg h0] at this
  rw [q6]
  exact this
theorem s6 {p : List Nd} (hp : bF p) : ∀ (k : Nat) (v a : Int),InP p v → pj p k v = some a → InP p a
  | 0,v,a,hv,h => by
    unfold pj at h
    split at h
    · cases h; exact pt hp hv (.inl ‹_›)
    · cases h
  | k + 1,v,a,hv,h => by
    unfold pj at h
    split at h
    · exact s6 hp k _ a (sR hp hv ‹_›) h
    · cases h
theorem zd {c : Cd} {m : Mc} (hp : bF m.pool) (hl : m.pool.length < 4294967296) (he : InP m.pool m.e) {o i : Int} (o0 : 0 ≤ o) (o1 : o < 4611686018427387904) (i0 : 0 ≤ i) (i1 : i < 4611686018427387904) :
    sx c (V 186 [eSt c m,.int .i64 o,.int .i64 i]) (Ep m o i) := by
  have h1 := yJ (c := c) hp he o0 o1
  rw [nQ]
  unfold Ep
  cases e1 : pj m.pool o.toNat m.e with
  | none =>
    rw [e1] at h1; simp only [alD] at h1
    exact ⟨by decide,m,by rw [ga h1]; rfl⟩
  | some fr =>
    rw [e1] at h1; simp only [alD] at h1
    have h2 := yJ (c := c) hp (s6 hp _ _ _ he e1) i0 i1
    rw [ga h1,Bool.not_true,ae]
    cases e2 : pj m.pool i.toNat fr with
    | none =>
      rw [e2] at h2; simp only [alD] at h2
      simp only [e2]
      exact ⟨by decide,m,by rw [ga h2]; rfl⟩
    | some v =>
      rw [e2] at h2; simp only [alD] at h2
      simp only [e2]
      have h3 := jQ (c := c) hl v
      show _ = _
      rw [ga h2,Bool.not_true,ae,dg h3]

theorem Lm {p : List Nd} (hp : bF p) : ∀ (k : Nat) (v : Int),InP p v → ∀ x ∈ (uW p k v).1,InP p x
  | 0,v,hv,x,hx => by simp [uW] at hx
  | k + 1,v,hv,x,hx => by
    unfold uW at hx
    split at hx
    · rename_i h5
      rcases List.mem_cons.1 hx with rfl | hx
      · exact pt hp hv (.inl h5)
      · exact Lm hp k _ (sR hp hv h5) x hx
    · simp at hx
theorem vN {p : List Nd} (hp : bF p) (hl : p.length < 4294967290) : ∀ (k : Nat) (v : Int) (acc : List Int),InP p v → v < k → acc.length + k < 4294967296 →
    eh v (acc.map eI) (p.map eN) = some (.tup [.os (1,0) ((acc ++ (uW p k v).1).map eI),.bool (uW p k v).2],[rP p])
  | 0,v,acc,hv,hk,ha => by omega
  | k + 1,v,acc,hv,hk,ha => by
    rw [ol,sA hv]
    unfold uW
    by_cases h5 : (nod p v).kind = 5
    · have hb := dK (lb hp hv) h5
      have ih := vN hp hl k (nod p v).b (acc ++ [(nod p v).a]) (sR hp hv h5) (by omega) (by simp only [List.length_append,List.length_cons,List.length_nil]; omega)
      have ea : acc.map eI ++ [D.int .i64 (nod p v).a] = (acc ++ [(nod p v).a]).map eI := by simp
      have hlim : decide (ni ((acc ++ [(nod p v).a]).map eI).length ≤ LIM) = true := decide_eq_true (by rw [cU]; simp only [ni,List.length_map,List.length_append,List.length_cons,List.length_nil]; omega)
      rw [if_pos h5,ap (aJ h5),Oj hv,ea,av hlim,be,OG hv,ih]
      simp
    · rw [if_neg h5,ah (az h5),sA hv]
      simp
theorem Fi {p : List Nd} (hp : bF p) (hl : p.length < 2147483648) {v : Int} (hv : InP p v) : V 119 [rP p,.int .i64 v] = some (.tup [.os (1,0) ((ke p v).1.map eI),.bool (ke p v).2],[rP p]) := by
  have := vN hp (by omega) (v.toNat + 1) v [] hv (by omega) (by simp only [List.length_nil]; omega)
  rw [sJ]
  exact this
end Go.Eng
/-! which nodes are alike: both sides -/
namespace Go.Eng
open Go.Proofs Go.Proofs.Tryz
set_option maxHeartbeats 4000000

theorem ndEq_iff {x y : Nd} : jX x y = true ↔ x = y := by
  unfold jX
  rw [ep]
  constructor
  · intro h
    simp only [Bool.and_eq_true,beq_iff_eq,decide_eq_true_eq] at h
    obtain ⟨h1,h2,h3,h4,h5⟩ := h
    cases x; cases y
    simp only at h1 h2 h3 h4 h5
    subst h1; subst h2; subst h3; subst h4; subst h5
    rfl
  · rintro rfl
    simp
noncomputable abbrev kC (y : Nd) : List D := [.int .i64 y.kind,.int .i64 y.n,.str y.s,.int .i64 y.a,.int .i64 y.b]
theorem O5 (x y : Nd) : kO (kC x) (kC y) = jX y x := by
  have e : ∀ a b : Int,(a == b) = (b == a) := fun a b => by
    by_cases h : a = b
    · subst h; rfl
    · rw [az h,az (fun e => h e.symm)]
  have e2 : aQ x.s y.s = aQ y.s x.s := by
    rw [ep,ep]
    exact decide_eq_decide.2 ⟨Eq.symm,Eq.symm⟩
  simp only [kO,yH,jX,Bool.and_true]
  rw [e x.kind,e x.n,e x.a,e x.b,e2]
noncomputable def Ar (x : D) (q : List D) : Option Int := match x with
  | .tup [.agg ks,.int _ v] => if kO q ks = true then some v else none
  | _ => none
theorem qe (x : D) (r q : List D) : dl (x :: r) q = match Ar x q with | some v => some v | none => dl r q := by
  by_cases hx : ∃ ks k v,x = .tup [.agg ks,.int k v]
  · obtain ⟨ks,k,v,rfl⟩ := hx
    simp only [dl,Ar]
    cases kO q ks <;> rfl
  · have e1 : Ar x q = none := by
      unfold Ar
      split
      · exact absurd ⟨_,_,_,rfl⟩ hx
      · rfl
    rw [e1,dl]
    intro ks k v h
    exact hx ⟨ks,k,v,h⟩
theorem wT (key q : List D) (v : Int) : ∀ xs : List D,dl (pf xs key v) q = match dl xs q with | some u => some u | none => if kO q key = true then some v else none
  | [] => by
    show dl [_] q = _
    rw [qe]
    simp only [Ar,dl]
    cases kO q key <;> rfl
  | x :: xs => by
    have ih := wT key q v xs
    show dl (x :: pf xs key v) q = _
    rw [qe,qe,ih]
    cases Ar x q <;> rfl
noncomputable def oe (ents : List D) (keys : List Nd) : Prop := ∀ x : Nd,dl ents (kC x) = (keys.findIdx? (fun y => jX y x)).map (fun k => (k : Int))
theorem Jl : oe [] [] := fun x => by simp [dl]
theorem zU (keys : List Nd) (y x : Nd) : (keys ++ [y]).findIdx? (fun z => jX z x) = match keys.findIdx? (fun z => jX z x) with | some k => some k | none => if jX y x = true then some keys.length else none := by
  rw [List.findIdx?_append]
  cases h : keys.findIdx? (fun z => jX z x) with
  | some k => simp
  | none =>
    simp only [Option.none_or,List.findIdx?_cons,List.findIdx?_nil]
    cases jX y x <;> simp
theorem Ja {ents : List D} {keys : List Nd} (h : oe ents keys) {y : Nd} {k : Nat} (hk : keys.findIdx? (fun z => jX z y) = some k) : oe ents (keys ++ [y]) := by
  intro x
  rw [h x,zU]
  cases hx : keys.findIdx? (fun z => jX z x) with
  | some j => rfl
  | none =>
    simp only
    cases hyx : jX y x with
    | false => simp
    | true =>
      rw [ndEq_iff.1 hyx,hx] at hk
      cases hk
theorem Kq {ents : List D} {keys : List Nd} (h : oe ents keys) {y : Nd} (hk : keys.findIdx? (fun z => jX z y) = none) : oe (pf ents (kC y) keys.length) (keys ++ [y]) := by
  intro x
  rw [wT,h x,zU]
  cases hx : keys.findIdx? (fun z => jX z x) with
  | some j => rfl
  | none =>
    simp only [O5]
    cases hyx : jX y x <;> simp
noncomputable def clV (keys : List Nd) (y : Nd) (i : Nat) : Int := match keys.findIdx? (fun z => jX z y) with | some k => (k : Int) | none => (i : Int)
theorem Ef {l : List Int} (h : l.length < 4294967290) (x : Int) : decide (ni (l.map eI ++ [D.int .i64 x]).length ≤ LIM) = true :=
  decide_eq_true (by rw [cU]; simp only [ni,List.length_append,List.length_map,List.length_cons,List.length_nil]; omega)
theorem tu {ents : List D} {keys : List Nd} {out : List Int} {i : Nat} (h : oe ents keys) (ho : out.length = i) (hk : keys.length = i) (hl : i < 4294967290) (a b : Int) (s : ByteArray) (c d : Int) (F : List D → List D → Option Ret) :
    ∃ ents',oe ents' (keys ++ [⟨a,b,s,c,d⟩]) ∧ br (!gn ents [.int .i64 a,.int .i64 b,.str s,.int .i64 c,.int .i64 d])
      (grd (!gn ents [.int .i64 a,.int .i64 b,.str s,.int .i64 c,.int .i64 d]) (nam (pf ents [.int .i64 a,.int .i64 b,.str s,.int .i64 c,.int .i64 d] (i : Int)) fun l21 => grd (decide (ni (out.map eI ++ [D.int .i64 (i : Int)]).length ≤ LIM)) (nam (out.map eI ++ [D.int .i64 (i : Int)]) fun l22 => F l21 l22)))
      (grd (decide (ni (out.map eI ++ [D.int .i64 (iu ents [.int .i64 a,.int .i64 b,.str s,.int .i64 c,.int .i64 d])]).length ≤ LIM)) (nam (out.map eI ++ [D.int .i64 (iu ents [.int .i64 a,.int .i64 b,.str s,.int .i64 c,.int .i64 d])]) fun l23 => F ents l23)) =
      F ents' ((out ++ [clV keys ⟨a,b,s,c,d⟩ i]).map eI) := by
  have hx := h ⟨a,b,s,c,d⟩
  have el : ∀ v : Int,out.map eI ++ [D.int .i64 v] = (out ++ [v]).map eI := fun v => by simp
  unfold clV
  cases hf : keys.findIdx? (fun z => jX z ⟨a,b,s,c,d⟩) with
  | some k =>
    rw [hf] at hx
    obtain ⟨e1,e2⟩ := Ij (xs := ents) (ks := [.int .i64 a,.int .i64 b,.str s,.int .i64 c,.int .i64 d]) hx
    refine ⟨ents,Ja h hf,?_⟩
    rw [e2,e1,Bool.not_true,ae,av (Ef (by omega) _),be,el]
  | none =>
    rw [hf] at hx
    obtain ⟨e1,e2⟩ := GA (xs := ents) (ks := [.int .i64 a,.int .i64 b,.str s,.int .i64 c,.int .i64 d]) hx
    refine ⟨_,Kq h hf,?_⟩
    rw [e2,Bool.not_false,ar,aH,be,av (Ef (by omega) _),be,el,hk]
theorem eR {R : Type} {l : List Int} {v : Int} (h0 : 0 ≤ v) (h1 : v < (l.length : Int)) (K : Int → Option R) : grd (decide (0 ≤ v) && decide (v < ni (l.map eI).length)) (am (l.map eI) v.toNat fun x => asI .i64 x fun n => K n) = K (l.getD v.toNat 0) := by
  obtain ⟨x,hx⟩ := aA (l := l) (i := v.toNat) (by omega)
  rw [av (by rw [List.length_map]; simp only [ni,Bool.and_eq_true,decide_eq_true_eq]; exact ⟨h0,h1⟩),al hx,ax,List.getD_eq_getElem?_getD,hx]; rfl
theorem uF (x : Nd) (r : List Nd) (out : List Int) (keys : List Nd) : BJ (x :: r) out keys = BJ r (out ++ [clV keys (eW out x) out.length]) (keys ++ [eW out x]) := rfl
theorem rm {p : List Nd} (hp : bF p) (hl : p.length < 4294967290) : ∀ (k i : Nat) (ents : List D) (keys : List Nd) (out : List Int),i + k = p.length → out.length = i → keys.length = i → oe ents keys →
    aY (p.map eN) (ni (p.map eN).length) (i : Int) ents (out.map eI) = some (.os (1,0) ((BJ (p.drop i) out keys).1.map eI),[])
  | 0,i,ents,keys,out,hi,ho,hk,h => by
    rw [kJ,ah (by rw [List.length_map]; exact fJ (by omega)),List.drop_of_length_le (by omega)]
    rfl
  | k + 1,i,ents,keys,out,hi,ho,hk,h => by
    obtain ⟨x,hx⟩ := aA (l := p) (i := i) (by omega)
    have hxo := hp i x hx
    have ih := fun ents keys out ho hk h => rm hp hl k (i + 1) ents keys out (by omega) ho hk h
    rw [kJ,ap (by rw [List.length_map]; exact ez (by omega)),av (by rw [List.length_map]; exact bG (by omega)),Int.toNat_natCast,al hx,o5,iz hx,uF,dG (by omega),ho]
    have fin : ∀ (y : Nd) (X : Option Ret),y = eW out x → (∃ ents',oe ents' (keys ++ [y]) ∧ X = aY (p.map eN) (ni (p.map eN).length) ((i + 1 : Nat) : Int) ents' ((out ++ [clV keys y i]).map eI)) →
        X = some (.os (1,0) ((BJ (p.drop (i + 1)) (out ++ [clV keys (eW out x) i]) (keys ++ [eW out x])).1.map eI),[]) := by
      rintro y X rfl ⟨ents',h1,rfl⟩
      exact ih ents' _ _ (by simp [ho]) (by simp [hk]) h1
    by_cases h5 : x.kind = 5
    · have hb := dK hxo h5
      rw [ap (aJ h5),eR hb.1 (by omega),eR hb.2.2.1 (by omega)]
      exact fin ⟨x.kind,x.n,x.s,out.getD x.a.toNat 0,out.getD x.b.toNat 0⟩ _ (by simp only [eW,h5,if_true]) (tu h ho hk (by omega) x.kind x.n x.s _ _ fun e o => aY (p.map eN) (ni (p.map eN).length) ((i + 1 : Nat) : Int) e o)
    · rw [ah (az h5)]
      by_cases h6 : x.kind = 6
      · have hb := dR hxo (.inl h6)
        rw [ap (aJ h6),ap (aJ h6),eR hb.1 (by omega)]
        exact fin ⟨x.kind,x.n,x.s,out.getD x.a.toNat 0,x.b⟩ _ (by simp only [eW,h6,true_or,if_true]; simp) (tu h ho hk (by omega) x.kind x.n x.s _ x.b fun e o => aY (p.map eN) (ni (p.map eN).length) ((i + 1 : Nat) : Int) e o)
      · rw [ah (az h6)]
        by_cases h7 : x.kind = 7
        · have hb := dR hxo (.inr h7)
          rw [ap (aJ h7),eR hb.1 (by omega)]
          exact fin ⟨x.kind,x.n,x.s,out.getD x.a.toNat 0,x.b⟩ _ (by simp only [eW,h7]; simp) (tu h ho hk (by omega) x.kind x.n x.s _ x.b fun e o => aY (p.map eN) (ni (p.map eN).length) ((i + 1 : Nat) : Int) e o)
        · rw [ah (az h7)]
          exact fin x _ (by simp only [eW,h5,h6,h7,if_false,or_self]) (tu h ho hk (by omega) x.kind x.n x.s x.a x.b fun e o => aY (p.map eN) (ni (p.map eN).length) ((i + 1 : Nat) : Int) e o)
theorem Na {p : List Nd} (hp : bF p) (hl : p.length < 4294967290) : V 247 [eP p] = some (.os (1,0) ((MO p).map eI),[]) := by
  rw [yW]
  exact rm hp hl p.length 0 [] [] [] (Nat.zero_add _) rfl rfl Jl
theorem GD : ∀ (r : List Nd) (out : List Int) (keys : List Nd),(BJ r out keys).1.length = out.length + r.length
  | [],out,keys => rfl
  | x :: r,out,keys => by
    rw [uF,GD r]; simp only [List.length_append,List.length_cons,List.length_nil]; omega
theorem sW (p : List Nd) : (MO p).length = p.length := by
  unfold MO; rw [GD]; simp
noncomputable def Lk (p : List Nd) (a b : Int) : Bool := aW p && (kI p a && (kI p b && K7 p a b))
theorem FH {p : List Nd} (hf : lu p) (hl : p.length < 4611686018427387904) (a b : Int) : V 242 [eP p,.int .i64 a,.int .i64 b] = some (.bool (Lk p a b),[]) := by
  have h1 := jq hf hl
  have h2 := jE hl a
  have h3 := jE hl b
  rw [Jj,vy h1]
  unfold Lk kI
  cases e1 : aW p with
  | false => rfl
  | true =>
    have hlen := bV e1
    have h4 := Na (okPool_iff.1 e1).1 (by omega)
    rw [Bool.not_true,ae,pQ h2]
    cases e2 : wi a 0 ((p.length : Int) - 1) with
    | false => rfl
    | true =>
      rw [Bool.not_true,ae,pQ h3]
      cases e3 : wi b 0 ((p.length : Int) - 1) with
      | false => rfl
      | true =>
        have b2 := wi_iff.1 e2
        have b3 := wi_iff.1 e3
        rw [Bool.not_true,ae,Cx h4,eR b2.1 (by rw [sW]; omega),eR b3.1 (by rw [sW]; omega)]
        rfl

theorem PG (x : Nd) {R : Type} (K : Int → Int → ByteArray → Int → Int → Option R) : tk1 (eN x) (fun n4 n7 s10 n13 n16 => (K n4 n7 s10 n13 n16)) = K x.kind x.n x.s x.a x.b := rfl
theorem KO {keys : List Nd} (h : keys.length < 4294967290) (y : Nd) : decide (ni (keys.map eN ++ [eN y]).length ≤ LIM) = true :=
  decide_eq_true (by rw [cU]; simp only [ni,List.length_append,List.length_map,List.length_cons,List.length_nil]; omega)
theorem qB {p keys : List Nd} {out : List Int} {i : Nat} (hi : i < 4294967290) (hk : keys.length = i) (ho : out.length = i) (y : Nd) : ∀ (k j : Nat),j + k = i → (∀ t,t < j → ∀ z,keys[t]? = some z → jX z y = false) →
    bM (i : Int) (i : Int) (j : Int) (p.map eN) (out.map eI) (keys.map eN) y.kind y.n y.s y.a y.b = dn ((i + 1 : Nat) : Int) (p.map eN) ((out ++ [clV keys y i]).map eI) ((keys ++ [y]).map eN)
  | 0,j,hj,hn => by
    have hnone : keys.findIdx? (fun z => jX z y) = none := by
      rw [List.findIdx?_eq_none_iff]
      intro z hz
      obtain ⟨t,ht⟩ := List.getElem?_of_mem hz
      exact hn t (by have := aK ht; omega) z ht
    have ek : keys.map eN ++ [D.agg [D.int .i64 y.kind,D.int .i64 y.n,D.str y.s,D.int .i64 y.a,D.int .i64 y.b]] = (keys ++ [y]).map eN := by simp
    have el : out.map eI ++ [D.int .i64 (i : Int)] = (out ++ [clV keys y i]).map eI := by simp [clV,hnone]
    have hkl : decide (ni ((keys ++ [y]).map eN).length ≤ LIM) = true := by have := KO (keys := keys) (by omega) y; simpa using this
    have hol := Ef (l := out) (by omega) (i : Int)
    rw [i9,ah (decide_eq_false (by omega)),ek,av hkl,be,av hol,be,el,dG (by omega)]
  | k + 1,j,hj,hn => by
    obtain ⟨z,hz⟩ := aA (l := keys) (i := j) (by omega)
    have ek : keys.map eN ++ [D.agg [D.int .i64 y.kind,D.int .i64 y.n,D.str y.s,D.int .i64 y.a,D.int .i64 y.b]] = (keys ++ [y]).map eN := by simp
    have hkl : decide (ni ((keys ++ [y]).map eN).length ≤ LIM) = true := by have := KO (keys := keys) (by omega) y; simpa using this
    have hol := Ef (l := out) (by omega) (j : Int)
    rw [i9,ap (decide_eq_true (by omega)),av (by rw [List.length_map]; exact bG (by omega)),Int.toNat_natCast,al hz,PG]
    have et : (z.kind == y.kind && (z.n == y.n && (aQ z.s y.s && (z.a == y.a && (z.b == y.b && true))))) = jX z y := by simp [jX]
    rw [et]
    cases hq : jX z y with
    | false =>
      rw [ae,dG (by omega)]
      refine qB hi hk ho y k (j + 1) (by omega) (fun t ht u hu => ?_)
      rcases Nat.lt_or_ge t j with h | h
      · exact hn t h u hu
      · have : t = j := by omega
        subst this
        rw [hz] at hu; cases hu; exact hq
    | true =>
      have hsome : keys.findIdx? (fun z => jX z y) = some j := by
        rw [List.findIdx?_eq_some_iff_getElem]
        have hlt := aK hz
        refine ⟨hlt,?_,fun t ht => ?_⟩
        · rw [List.getElem?_eq_getElem hlt] at hz; cases hz; exact hq
        · have htl : t < keys.length := by omega
          have := hn t ht keys[t] (List.getElem?_eq_getElem htl)
          simp [this]
      have el : out.map eI ++ [D.int .i64 (j : Int)] = (out ++ [clV keys y i]).map eI := by simp [clV,hsome]
      rw [ar,ek,av hkl,be,av hol,be,el,dG (by omega)]
theorem rC {p : List Nd} (hp : bF p) (hl : p.length < 4294967290) : ∀ (k i : Nat) (keys : List Nd) (out : List Int),i + k = p.length → out.length = i → keys.length = i →
    dn (i : Int) (p.map eN) (out.map eI) (keys.map eN) = some (.os (1,0) ((BJ (p.drop i) out keys).1.map eI),[])
  | 0,i,keys,out,hi,ho,hk => by
    rw [jz,ah (by rw [List.length_map]; exact fJ (by omega)),List.drop_of_length_le (by omega)]
    rfl
  | k + 1,i,keys,out,hi,ho,hk => by
    obtain ⟨x,hx⟩ := aA (l := p) (i := i) (by omega)
    have hxo := hp i x hx
    rw [jz,ap (by rw [List.length_map]; exact ez (by omega)),av (by rw [List.length_map]; exact bG (by omega)),Int.toNat_natCast,al hx,o5,iz hx,uF,ho]
    have fin : ∀ (y : Nd),y = eW out x → bM (i : Int) (i : Int) 0 (p.map eN) (out.map eI) (keys.map eN) y.kind y.n y.s y.a y.b = some (.os (1,0) ((BJ (p.drop (i + 1)) (out ++ [clV keys (eW out x) i]) (keys ++ [eW out x])).1.map eI),[]) := by
      rintro y rfl
      have h1 := qB (p := p) (i := i) (by omega) hk ho (eW out x) i 0 (Nat.zero_add _) (fun t ht => by omega)
      rw [Int.natCast_zero] at h1
      rw [h1]
      exact rC hp hl k (i + 1) _ _ (by omega) (by simp [ho]) (by simp [hk])
    by_cases h5 : x.kind = 5
    · have hb := dK hxo h5
      rw [ap (aJ h5),eR hb.1 (by omega),eR hb.2.2.1 (by omega)]
      exact fin ⟨x.kind,x.n,x.s,out.getD x.a.toNat 0,out.getD x.b.toNat 0⟩ (by simp only [eW,h5,if_true])
    · rw [ah (az h5)]
      by_cases h6 : x.kind = 6
      · have hb := dR hxo (.inl h6)
        rw [ap (aJ h6),ap (aJ h6),eR hb.1 (by omega)]
        exact fin ⟨x.kind,x.n,x.s,out.getD x.a.toNat 0,x.b⟩ (by simp only [eW,h6]; simp)
      · rw [ah (az h6)]
        by_cases h7 : x.kind = 7
        · have hb := dR hxo (.inr h7)
          rw [ap (aJ h7),eR hb.1 (by omega)]
          exact fin ⟨x.kind,x.n,x.s,out.getD x.a.toNat 0,x.b⟩ (by simp only [eW,h7]; simp)
        · rw [ah (az h7)]
          exact fin x (by simp only [eW,h5,h6,h7,if_false,or_self])
theorem FF {p : List Nd} (hp : bF p) (hl : p.length < 4294967290) : V 252 [eP p] = some (.os (1,0) ((MO p).map eI),[]) := by
  have h := rC hp hl p.length 0 [] [] (Nat.zero_add _) rfl rfl
  rw [Int.natCast_zero] at h
  rw [wb]
  exact h
end Go.Eng
