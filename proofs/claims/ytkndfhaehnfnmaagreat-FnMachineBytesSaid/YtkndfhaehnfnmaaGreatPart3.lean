/- the program and the reference on plain data, part 3 -/
import Derived.Test.YtkndfhaehnfnmaaGreatPart2
import Derived.Test.YtkndfhaehnfnmaaGreatPart1
import Derived.Test.YtkndfhaehnfnmaaGreatEngC
/-! what is reached,on both sides -/
namespace Go.Eng
noncomputable section
open Go.Proofs Go.Proofs.Tryz

theorem ZJ {α : Type} {l : List α} {p : α -> Bool} : decide (ya p l >= 0) = l.any p := by
 unfold ya
 cases h : l.findIdx? p with
 | none =>
  have := List.findIdx?_eq_none_iff.1 h
  symm
  simpa [List.any_eq_false] using this
 | some k =>
  have h2 : l.any p = true := by
   rw [List.findIdx?_eq_some_iff_getElem] at h
   obtain ⟨hk,h3,_⟩ := h
   exact List.any_eq_true.2 ⟨l[k],List.getElem_mem hk,h3⟩
  rw [h2]
  simp

abbrev eI : Int -> D := D.int .i64
theorem wi_iff {n lo hi : Int} : wi n lo hi = true ↔ lo <= n /\ n <= hi := by simp [wi]

theorem Qz {p : List Nd} : ∀ {k i j : Nat} {x : Nd},GU p i k = true -> i <= j -> j < i + k -> p[j]? = some x -> okN x j = true
 | 0,i,j,x,_,h1,h2,_ => by omega
 | k + 1,i,j,x,h,h1,h2,hx => by
  simp only [GU,Bool.and_eq_true] at h
  by_cases e : i = j
  ·subst e; rw [hx] at h; exact h.1
  ·exact Qz h.2 (by omega) (by omega) hx
theorem Ak {p : List Nd} (h : yV p = true) {j : Nat} {x : Nd} (hx : p[j]? = some x) : okN x j = true := by
 simp only [yV,Bool.and_eq_true] at h
 exact Qz h.1 (Nat.zero_le _) (by have := aQ hx; omega) hx
theorem y0 {p : List Nd} (h : yV p = true) : p.length <= 3000 := by
 simp only [yV,Bool.and_eq_true,decide_eq_true_eq] at h; omega
theorem Ay {x : Nd} {h : Int} (ho : okN x h = true) (hk : x.kind = 5) : 0 <= x.a /\ x.a < h /\ 0 <= x.b /\ x.b < h := by
 simp [okN,hk,wi] at ho; omega
theorem AL {x : Nd} {h : Int} (ho : okN x h = true) (hk : x.kind = 6 \/ x.kind = 7) : 0 <= x.a /\ x.a < h := by
 rcases hk with hk | hk <;> simp [okN,hk,wi] at ho <;> omega

def y5 (p : List Nd) (rs : List Int) : Bool := rs.all fun r => wi r 0 ((p.length : Int) - 1)
theorem IP {p : List Nd} (hl : p.length < 4611686018427387904) (r : Int) : V 56 [eP p,iN r] = some (.bool (wi r 0 ((p.length : Int) - 1)),[]) := by
 rw [Tn,zi (zk _ _ _),lnM,w64 (by simp only [ni]; omega) (by simp only [ni]; omega)]
theorem Fk {p : List Nd} (hl : p.length < 4611686018427387904) (r : Int) : V 61 [eP p,iN r] = some (.bool (wi r 0 ((p.length : Int) - 1)),[]) := by
 rw [VI,zT (Al _ _ _),lnM,w64 (by simp only [ni]; omega) (by simp only [ni]; omega)]
theorem QG {p : List Nd} (hl : p.length < 4611686018427387904) {l : List Int} (h2 : l.length < 4611686018427387904) : ∀ (k i : Nat),i + k = l.length -> Ax (l.map eI) (p.map eN) (ni (l.map eI).length) (i : Int) = some (iN (dQ (fun r => !wi r 0 ((p.length : Int) - 1)) l i),[])
 | 0,i,hi => by
  rw [CX,xb (by rw [lnM]; exact yr (by omega)),w8 (by omega)]
 | k + 1,i,hi => by
  obtain ⟨x,hx⟩ := xx (l := l) (i := i) (by omega)
  have ih := QG hl h2 k (i + 1) (by omega)
  have hr : V 136 [iN x,.bp [.rs (5,0) (p.map eN)]] = some (.bool (!wi x 0 ((p.length : Int) - 1)),[]) := by
   rw [XC,Wx (IP hl x)]
  rw [CX,xK (by rw [lnM]; exact yz (by omega)),yu (by rw [lnM]; exact yx (by omega)),Int.toNat_natCast,xW hx,ye,Qt hr]
  cases h : (!wi x 0 ((p.length : Int) - 1)) with
  | true => rw [yk,w9 hx h]
  | false => rw [xJ,yM (by omega),ih,wJ hx h]
theorem Z4 {p : List Nd} (hf : zZ p) (hl : p.length < 4611686018427387904) {l : List Int} (h2 : l.length < 4611686018427387904) : V 65 [eP p,.rs (1,0) (l.map eI)] = some (.bool (yV p && y5 p l),[]) := by
 have h : V 188 [.rs (1,0) (l.map eI),.fn 136 [.bp [.rs (5,0) (p.map eN)]]] = some (iN (ya (fun r => !wi r 0 ((p.length : Int) - 1)) l),[]) := by
  rw [Lv,<- wK]
  exact QG hl h2 l.length 0 (Nat.zero_add _)
 have h3 : V 135 [.rs (1,0) (l.map eI),.fn 136 [.bp [.rs (5,0) (p.map eN)]]] = some (.bool (l.any fun r => !wi r 0 ((p.length : Int) - 1)),[]) := by
  rw [Jv,Fi h,ZJ]
 rw [Ra,Ww (GY hf hl),DL h3,zd]
 congr 3
 unfold y5
 rw [List.any_eq_not_all_not,Bool.not_not]
 simp
theorem Jt {p : List Nd} (hf : zZ p) (hl : p.length < 4611686018427387904) {l : List Int} (h2 : l.length < 4611686018427387904) : ∀ (k i : Nat),i + k = l.length -> Bq (l.map eI) (i : Int) (p.map eN) = some (.bool ((l.drop i).all (fun r => wi r 0 ((p.length : Int) - 1)) && yV p),[])
 | 0,i,hi => by
  rw [FF,xb (by rw [lnM]; exact yr (by omega)),List.drop_of_length_le (by omega),BV (zK hf hl)]; rfl
 | k + 1,i,hi => by
  obtain ⟨x,hx⟩ := xx (l := l) (i := i) (by omega)
  rw [FF,xK (by rw [lnM]; exact yz (by omega)),yu (by rw [lnM]; exact yx (by omega)),Int.toNat_natCast,xW hx,ye,Jb (Fk hl x),yM (by omega),Jt hf hl h2 k (i + 1) (by omega),Km,Bool.not_not,tU hx,List.all_cons,Bool.and_assoc]
theorem ZZ {p : List Nd} (hf : zZ p) (hl : p.length < 4611686018427387904) {l : List Int} (h2 : l.length < 4611686018427387904) : V 84 [eP p,.rs (1,0) (l.map eI)] = some (.bool (yV p && y5 p l),[]) := by
 have h : Bq (l.map eI) 0 (p.map eN) = _ := Jt hf hl h2 l.length 0 (Nat.zero_add _)
 rw [Rv,h,Bool.and_comm]; rfl

def zD (x : Nd) (m : List Bool) : List Bool := if x.kind = 5 then (m.set x.a.toNat true).set x.b.toNat true else if x.kind = 6 \/ x.kind = 7 then m.set x.a.toNat true else m
def zB (p : List Nd) : Nat -> List Bool -> List Bool
 | 0,m => m
 | k + 1,m => zB p k (match p[k]?,m[k]? with | some x,some true => zD x m | _,_ => m)
def Jl (rs : List Int) (m : List Bool) : List Bool := rs.foldl (fun m r => m.set r.toNat true) m
def Bh (p : List Nd) (rs : List Int) : List Bool := zB p p.length (Jl rs (List.replicate p.length false))
theorem KY (x : Nd) (m : List Bool) : (zD x m).length = m.length := by
 unfold zD
 split
 ·simp
 ·split <;> simp
theorem JZ {p : List Nd} : ∀ (k : Nat) (m : List Bool),(zB p k m).length = m.length
 | 0,m => rfl
 | k + 1,m => by
  simp only [zB]
  rw [JZ k]
  split
  ·exact KY _ _
  ·rfl
theorem GV : ∀ (rs : List Int) (m : List Bool),(Jl rs m).length = m.length
 | [],m => rfl
 | r :: rs,m => by
  have := GV rs (m.set r.toNat true)
  simpa [Jl] using this
theorem AV {n : Int} {l : Nat} (h0 : 0 <= n) (h1 : n < l) : (decide (0 <= n) && decide (n < ni l)) = true := by
 simp only [ni,Bool.and_eq_true,decide_eq_true_eq]; omega
theorem Ci {α : Type} {l : List α} {n : Int} (h0 : 0 <= n) (h1 : n < l.length) : ∃ x,l[n.toNat]? = some x := xx (by omega)
theorem DW {m : List Bool} {j : Nat} : List.set (m.map D.bool) j (D.bool true) = (m.set j true).map D.bool := by rw [List.map_set]

theorem Ar {p : List Nd} (hp : yV p = true) : ∀ (k : Nat) (m : List Bool) (i : Int),i = (k : Int) - 1 -> k <= p.length -> m.length = p.length -> zX i (p.map eN) (m.map D.bool) = some (.os (1,0) ((zB p k m).map D.bool),[])
 | 0,m,i,hi,hk,hm => by
  rw [Ia,xb (decide_eq_false (by omega))]; rfl
 | k + 1,m,i,hi,hk,hm => by
  have hl := y0 hp
  have ei : i = (k : Int) := by omega
  subst ei
  obtain ⟨x,hx⟩ := xx (l := p) (i := k) (by omega)
  obtain ⟨b,hb⟩ := xx (l := m) (i := k) (by omega)
  have ho := Ak hp hx
  have hw : w6 ((k : Int) - 1) = (k : Int) - 1 := w64 (by omega) (by omega)
  rw [Ia,xK (decide_eq_true (by omega)),yu (by rw [lnM]; exact yx (by omega)),Int.toNat_natCast,xW hb,xI,hw]
  simp only [zB,hx,hb]
  cases b with
  | false => rw [Bool.not_false,yk]; exact Ar hp k m _ rfl (by omega) hm
  | true =>
   show _ = some (D.os (1,0) ((zB p k (zD x m)).map D.bool),[])
   rw [Bool.not_true,xJ,yu (by rw [lnM]; exact yx (by omega)),xW hx,JR]
   by_cases h5 : x.kind = 5
   ·obtain ⟨a0,a1,b0,b1⟩ := Ay ho h5
    obtain ⟨u,hu⟩ := Ci (l := m) (n := x.a) a0 (by omega)
    obtain ⟨v,hv⟩ := Ci (l := m.set x.a.toNat true) (n := x.b) b0 (by simp; omega)
    rw [xK (by simp [h5]),yu (by rw [List.length_map]; exact AV a0 (by omega)),xW hu,yA,DW,yu (by rw [List.length_map]; exact AV b0 (by simp; omega)),xW hv,yA,DW]
    simp only [zD,h5,if_true]
    exact Ar hp k _ _ rfl (by omega) (by simp; omega)
   rw [xb (by simp [h5])]
   by_cases h6 : x.kind = 6
   ·obtain ⟨a0,a1⟩ := AL ho (.inl h6)
    obtain ⟨u,hu⟩ := Ci (l := m) (n := x.a) a0 (by omega)
    rw [xK (by simp [h6]),xK (by simp [h6]),yu (by rw [List.length_map]; exact AV a0 (by omega)),xW hu,yA,DW]
    have e : zD x m = m.set x.a.toNat true := by simp [zD,h6]
    rw [e]
    exact Ar hp k _ _ rfl (by omega) (by simp; omega)
   rw [xb (by simp [h6])]
   by_cases h7 : x.kind = 7
   ·obtain ⟨a0,a1⟩ := AL ho (.inr h7)
    obtain ⟨u,hu⟩ := Ci (l := m) (n := x.a) a0 (by omega)
    rw [xK (by simp [h7]),yu (by rw [List.length_map]; exact AV a0 (by omega)),xW hu,yA,DW]
    have e : zD x m = m.set x.a.toNat true := by simp [zD,h7]
    rw [e]
    exact Ar hp k _ _ rfl (by omega) (by simp; omega)
   rw [xb (by simp [h7])]
   have e : zD x m = m := by simp [zD,h5,h6,h7]
   rw [e]
   exact Ar hp k _ _ rfl (by omega) hm
theorem Aw {p : List Nd} (hp : yV p = true) : ∀ (k : Nat) (m : List Bool) (i : Int),i = (k : Int) - 1 -> k <= p.length -> m.length = p.length -> zG i (p.map eN) (m.map D.bool) = some (.os (1,0) ((zB p k m).map D.bool),[])
 | 0,m,i,hi,hk,hm => by
  rw [FE,xb (decide_eq_false (by omega))]; rfl
 | k + 1,m,i,hi,hk,hm => by
  have hl := y0 hp
  have ei : i = (k : Int) := by omega
  subst ei
  obtain ⟨x,hx⟩ := xx (l := p) (i := k) (by omega)
  obtain ⟨b,hb⟩ := xx (l := m) (i := k) (by omega)
  have ho := Ak hp hx
  have hw : w6 ((k : Int) - 1) = (k : Int) - 1 := w64 (by omega) (by omega)
  rw [FE,xK (decide_eq_true (by omega)),yu (by rw [lnM]; exact yx (by omega)),Int.toNat_natCast,xW hx,JR,yu (by rw [lnM]; exact yx (by omega)),xW hb,xI,hw]
  simp only [zB,hx,hb]
  cases b with
  | false => rw [Bool.not_false,yk]; exact Aw hp k m _ rfl (by omega) hm
  | true =>
   show _ = some (D.os (1,0) ((zB p k (zD x m)).map D.bool),[])
   rw [Bool.not_true,xJ]
   by_cases h5 : x.kind = 5
   ·obtain ⟨a0,a1,b0,b1⟩ := Ay ho h5
    obtain ⟨u,hu⟩ := Ci (l := m) (n := x.a) a0 (by omega)
    obtain ⟨v,hv⟩ := Ci (l := m.set x.a.toNat true) (n := x.b) b0 (by simp; omega)
    rw [xK (by simp [h5]),yu (by rw [List.length_map]; exact AV a0 (by omega)),xW hu,yA,DW,yu (by rw [List.length_map]; exact AV b0 (by simp; omega)),xW hv,yA,DW]
    simp only [zD,h5,if_true]
    exact Aw hp k _ _ rfl (by omega) (by simp; omega)
   rw [xb (by simp [h5])]
   by_cases h6 : x.kind = 6
   ·obtain ⟨a0,a1⟩ := AL ho (.inl h6)
    obtain ⟨u,hu⟩ := Ci (l := m) (n := x.a) a0 (by omega)
    rw [xK (by simp [h6]),xK (by simp [h6]),yu (by rw [List.length_map]; exact AV a0 (by omega)),xW hu,yA,DW]
    have e : zD x m = m.set x.a.toNat true := by simp [zD,h6]
    rw [e]
    exact Aw hp k _ _ rfl (by omega) (by simp; omega)
   rw [xb (by simp [h6])]
   by_cases h7 : x.kind = 7
   ·obtain ⟨a0,a1⟩ := AL ho (.inr h7)
    obtain ⟨u,hu⟩ := Ci (l := m) (n := x.a) a0 (by omega)
    rw [xK (by simp [h7]),yu (by rw [List.length_map]; exact AV a0 (by omega)),xW hu,yA,DW]
    have e : zD x m = m.set x.a.toNat true := by simp [zD,h7]
    rw [e]
    exact Aw hp k _ _ rfl (by omega) (by simp; omega)
   rw [xb (by simp [h7])]
   have e : zD x m = m := by simp [zD,h5,h6,h7]
   rw [e]
   exact Aw hp k _ _ rfl (by omega) hm

theorem JM {p : List Nd} (hp : yV p = true) {l : List Int} (h2 : l.length < 4611686018427387904) (hr : y5 p l = true) : ∀ (k i : Nat) (m : List Bool),i + k = l.length -> m.length = p.length -> Cw (l.map eI) (ni (l.map eI).length) (i : Int) (p.map eN) (m.map D.bool) = some (.os (1,0) ((zB p p.length (Jl (l.drop i) m)).map D.bool),[])
 | 0,i,m,hi,hm => by
  have hl := y0 hp
  rw [GZ,xb (by rw [lnM]; exact yr (by omega)),List.drop_of_length_le (by omega),lnM,w64 (by simp only [ni]; omega) (by simp only [ni]; omega)]
  exact Ar hp p.length m _ rfl (Nat.le_refl _) hm
 | k + 1,i,m,hi,hm => by
  obtain ⟨x,hx⟩ := xx (l := l) (i := i) (by omega)
  have hx2 := wi_iff.1 (List.all_eq_true.1 hr x (List.mem_of_getElem? hx))
  obtain ⟨u,hu⟩ := Ci (l := m) (n := x) hx2.1 (by omega)
  rw [GZ,xK (by rw [lnM]; exact yz (by omega)),yu (by rw [lnM]; exact yx (by omega)),Int.toNat_natCast,xW hx,ye,yu (by rw [lnM]; exact AV hx2.1 (by omega)),xW hu,yA,DW,yM (by omega),tU hx]
  exact JM hp h2 hr k (i + 1) _ (by omega) (by simp; omega)
theorem J7 {p : List Nd} (hp : yV p = true) {l : List Int} (h2 : l.length < 4611686018427387904) (hr : y5 p l = true) : ∀ (k i : Nat) (m : List Bool),i + k = l.length -> m.length = p.length -> Bm (l.map eI) (i : Int) (p.map eN) (m.map D.bool) = some (.os (1,0) ((zB p p.length (Jl (l.drop i) m)).map D.bool),[])
 | 0,i,m,hi,hm => by
  have hl := y0 hp
  rw [FC,xb (by rw [lnM]; exact yr (by omega)),List.drop_of_length_le (by omega),lnM,w64 (by simp only [ni]; omega) (by simp only [ni]; omega)]
  exact Aw hp p.length m _ rfl (Nat.le_refl _) hm
 | k + 1,i,m,hi,hm => by
  obtain ⟨x,hx⟩ := xx (l := l) (i := i) (by omega)
  have hx2 := wi_iff.1 (List.all_eq_true.1 hr x (List.mem_of_getElem? hx))
  obtain ⟨u,hu⟩ := Ci (l := m) (n := x) hx2.1 (by omega)
  rw [FC,xK (by rw [lnM]; exact yz (by omega)),yu (by rw [lnM]; exact yx (by omega)),Int.toNat_natCast,xW hx,ye,yu (by rw [lnM]; exact AV hx2.1 (by omega)),xW hu,yA,DW,yM (by omega),tU hx]
  exact J7 hp h2 hr k (i + 1) _ (by omega) (by simp; omega)
theorem Pm {α : Type} {f : α -> D} {l : List α} (h : l.length <= 4294967296) : (decide (0 <= ni (l.map f).length) && decide (ni (l.map f).length <= LIM)) = true := by
 rw [Bool.and_eq_true]
 exact ⟨decide_eq_true (by simp only [ni]; omega),decide_eq_true (by rw [pE,lnM]; simp only [ni]; omega)⟩
theorem SC {n : Nat} : List.replicate (Int.toNat (ni n)) (D.bool false) = (List.replicate n false).map D.bool := by simp [ni]
theorem abC {p : List Nd} (hp : yV p = true) {l : List Int} (h2 : l.length < 4611686018427387904) (hr : y5 p l = true) : V 189 [eP p,.rs (1,0) (l.map eI)] = some (.os (1,0) ((Bh p l).map D.bool),[]) := by
 have hl := y0 hp
 have h : Cw (l.map eI) (ni (l.map eI).length) 0 (p.map eN) ((List.replicate p.length false).map D.bool) = _ := JM hp h2 hr l.length 0 _ (Nat.zero_add _) (by simp)
 have e : (p.map eN).length = p.length := lnM _
 rw [Vz,yu (Pm (by omega)),SC,e,h]; rfl
theorem SK {p : List Nd} (hp : yV p = true) {l : List Int} (h2 : l.length < 4611686018427387904) (hr : y5 p l = true) : V 149 [eP p,.rs (1,0) (l.map eI)] = some (.os (1,0) ((Bh p l).map D.bool),[]) := by
 have hl := y0 hp
 have h : Bm (l.map eI) 0 (p.map eN) ((List.replicate p.length false).map D.bool) = _ := J7 hp h2 hr l.length 0 _ (Nat.zero_add _) (by simp)
 have e : (p.map eN).length = p.length := lnM _
 rw [Ru,yu (Pm (by omega)),SC,e,h]; rfl
end
end Go.Eng
/-! what is moved into another pool,on both sides -/
namespace Go.Eng
open Go.Proofs Go.Proofs.Tryz

theorem YK {p : List Nd} (h : p.length < 4294967296) (x : D) : decide (ni (p.map eN ++ [x]).length <= LIM) = true :=
 decide_eq_true (by rw [pE]; simp only [ni,lnA,lnM,lnC,lnN]; omega)
theorem Zb {p : List Nd} (h : p.length < 4294967296) (x : Nd) : V 157 [rP p,eN x] = some (iN p.length,[rP (p ++ [x])]) := by
 rw [PM,yu (YK h _),yA]
 have : w6 (ni (p.map eN ++ [eN x]).length - 1) = p.length := by
  rw [w64 (by simp only [ni]; omega) (by simp only [ni,lnA,lnM,lnC,lnN]; omega)]
  simp [ni]
 rw [this]; simp
theorem zo {p : List Nd} (h : p.length < 4294967296) (x : Nd) : V 158 [rP p,eN x] = some (iN p.length,[rP (p ++ [x])]) := by
 rw [VH,yu (YK h _),yA]
 have : w6 (ni (p.map eN ++ [eN x]).length - 1) = p.length := by
  rw [w64 (by simp only [ni]; omega) (by simp only [ni,lnA,lnM,lnC,lnN]; omega)]
  simp [ni]
 rw [this]; simp

noncomputable def y8 (pre : List Int) (x : Nd) : Nd :=
 if x.kind = 5 then ⟨x.kind,x.n,x.s,pre.getD x.a.toNat 0,pre.getD x.b.toNat 0⟩
 else if x.kind = 6 \/ x.kind = 7 then ⟨x.kind,x.n,x.s,pre.getD x.a.toNat 0,x.b⟩ else x
noncomputable def AI (d : Int) (q : List Nd) (m : List Bool) : Nat -> List Int -> List Nd -> List Int × List Nd
 | 0,pre,acc => (pre,acc)
 | k + 1,pre,acc => match q[pre.length]?,m[pre.length]? with
  | some x,some true => AI d q m k (pre ++ [(acc.length : Int)]) (acc ++ [y8 pre x])
  | _,_ => AI d q m k (pre ++ [d]) acc
theorem UT {pre r : List Int} {v u : Int} {i : Nat} (h : pre.length = i) : (pre ++ u :: r).set i v = pre ++ v :: r := by
 subst h; simp
theorem Uv {pre r : List Int} {u : Int} {i : Nat} (h : pre.length = i) : (pre ++ u :: r)[i]? = some u := by
 subst h; simp
theorem D8 {pre r : List Int} {j : Nat} (h : j < pre.length) : (pre ++ r)[j]? = pre[j]? := List.getElem?_append_left h
theorem GF {l pre : List Int} {n : Int} (h0 : 0 <= n) (h1 : n < pre.length) (h : ∀ j,j < pre.length -> l[j]? = pre[j]?) : ∃ u,l[n.toNat]? = some u /\ pre[n.toNat]? = some u := by
 obtain ⟨u,hu⟩ := xx (l := pre) (i := n.toNat) (by omega)
 exact ⟨u,by rw [h _ (by omega),hu],hu⟩
theorem AU {q : List Nd} (hp : yV q = true) {m : List Bool} (hm : m.length = q.length) : ∀ (k i : Nat) (pre : List Int) (acc : List Nd),pre.length = i -> i + k = q.length -> acc.length + k < 4294967296 ->
  zf (q.map eN) (ni (q.map eN).length) (i : Int) ((pre ++ List.replicate k 0).map eI) (m.map D.bool) (acc.map eN) = some (.os (1,0) ((AI (-1) q m k pre acc).1.map eI),[rP (AI (-1) q m k pre acc).2])
 | 0,i,pre,acc,hpre,hi,hc => by
  rw [De,xb (by rw [lnM]; exact yr (by omega))]
  simp [AI]
 | k + 1,i,pre,acc,hpre,hi,hc => by
  have hl := y0 hp
  obtain ⟨x,hx⟩ := xx (l := q) (i := i) (by omega)
  obtain ⟨b,hb⟩ := xx (l := m) (i := i) (by omega)
  have ho := Ak hp hx
  have s1 : List.set ((pre ++ List.replicate (k + 1) 0).map eI) i (eI (-1)) = (pre ++ (-1) :: List.replicate k 0).map eI := by
   rw [<- List.map_set,List.replicate_succ,UT hpre]
  have s2 : ∀ v : Int,List.set ((pre ++ (-1) :: List.replicate k 0).map eI) i (eI v) = (pre ++ [v] ++ List.replicate k 0).map eI := by
   intro v; rw [<- List.map_set,UT hpre]; simp
  have hz : (pre ++ List.replicate (k + 1) 0)[i]? = some 0 := by rw [List.replicate_succ,Uv hpre]
  have hz2 : (pre ++ (-1) :: List.replicate k 0)[i]? = some (-1) := Uv hpre
  rw [De,xK (by rw [lnM]; exact yz (by omega)),yu (by rw [lnM]; exact yx (by omega)),Int.toNat_natCast,xW hx,JR,yu (by rw [lnM]; exact yx (by simp; omega)),xW hz,yA,s1,yu (by rw [lnM]; exact yx (by omega)),xW hb,xI]
  cases b with
  | false =>
   rw [Bool.not_false,yk,yM (by omega)]
   have ih := AU hp hm k (i + 1) (pre ++ [-1]) acc (by simp [hpre]) (by omega) (by omega)
   simp only [AI,hpre,hx,hb]
   simpa using ih
  | true =>
   rw [Bool.not_true,xJ]
   by_cases h5 : x.kind = 5
   ·obtain ⟨a0,a1,b0,b1⟩ := Ay ho h5
    obtain ⟨u,hu,hu'⟩ := GF (l := (pre ++ (-1) :: List.replicate k 0)) (pre := pre) a0 (by omega) (by intro j hj; exact D8 hj)
    obtain ⟨v,hv,hv'⟩ := GF (l := (pre ++ (-1) :: List.replicate k 0)) (pre := pre) b0 (by omega) (by intro j hj; exact D8 hj)
    have e : y8 pre x = ⟨x.kind,x.n,x.s,u,v⟩ := by simp [y8,h5,hu',hv']
    rw [xK (by simp [h5]),yu (by rw [List.length_map]; exact AV a0 (by simp; omega)),xW hu,ye,yu (by rw [List.length_map]; exact AV b0 (by simp; omega)),xW hv,ye]
    have ha := Zb (p := acc) (by omega) ⟨x.kind,x.n,x.s,u,v⟩
    have ih := AU hp hm k (i + 1) (pre ++ [(acc.length : Int)]) (acc ++ [⟨x.kind,x.n,x.s,u,v⟩]) (by simp [hpre]) (by omega) (by simp; omega)
    rw [GH ha,yu (by rw [lnM]; exact yx (by simp; omega)),xW hz2,yA,s2,yM (by omega)]
    simp only [AI,hpre,hx,hb,e]
    exact ih
   rw [xb (by simp [h5])]
   by_cases h6 : x.kind = 6
   ·obtain ⟨a0,a1⟩ := AL ho (.inl h6)
    obtain ⟨u,hu,hu'⟩ := GF (l := (pre ++ (-1) :: List.replicate k 0)) (pre := pre) a0 (by omega) (by intro j hj; exact D8 hj)
    have e : y8 pre x = ⟨x.kind,x.n,x.s,u,x.b⟩ := by simp [y8,h6,hu']
    rw [xK (by simp [h6]),xK (by simp [h6]),yu (by rw [List.length_map]; exact AV a0 (by simp; omega)),xW hu,ye]
    have ha := Zb (p := acc) (by omega) ⟨x.kind,x.n,x.s,u,x.b⟩
    have ih := AU hp hm k (i + 1) (pre ++ [(acc.length : Int)]) (acc ++ [⟨x.kind,x.n,x.s,u,x.b⟩]) (by simp [hpre]) (by omega) (by simp; omega)
    rw [GH ha,yu (by rw [lnM]; exact yx (by simp; omega)),xW hz2,yA,s2,yM (by omega)]
    simp only [AI,hpre,hx,hb,e]
    exact ih
   rw [xb (by simp [h6])]
   by_cases h7 : x.kind = 7
   ·obtain ⟨a0,a1⟩ := AL ho (.inr h7)
    obtain ⟨u,hu,hu'⟩ := GF (l := (pre ++ (-1) :: List.replicate k 0)) (pre := pre) a0 (by omega) (by intro j hj; exact D8 hj)
    have e : y8 pre x = ⟨x.kind,x.n,x.s,u,x.b⟩ := by simp [y8,h7,hu']
    rw [xK (by simp [h7]),yu (by rw [List.length_map]; exact AV a0 (by simp; omega)),xW hu,ye]
    have ha := Zb (p := acc) (by omega) ⟨x.kind,x.n,x.s,u,x.b⟩
    have ih := AU hp hm k (i + 1) (pre ++ [(acc.length : Int)]) (acc ++ [⟨x.kind,x.n,x.s,u,x.b⟩]) (by simp [hpre]) (by omega) (by simp; omega)
    rw [GH ha,yu (by rw [lnM]; exact yx (by simp; omega)),xW hz2,yA,s2,yM (by omega)]
    simp only [AI,hpre,hx,hb,e]
    exact ih
   rw [xb (by simp [h7])]
   ·have e : y8 pre x = x := by simp [y8,h5,h6,h7]
    have ha := Zb (p := acc) (by omega) x
    have ih := AU hp hm k (i + 1) (pre ++ [(acc.length : Int)]) (acc ++ [x]) (by simp [hpre]) (by omega) (by simp; omega)
    rw [GH ha,yu (by rw [lnM]; exact yx (by simp; omega)),xW hz2,yA,s2,yM (by omega)]
    simp only [AI,hpre,hx,hb,e]
    exact ih
theorem AW {q : List Nd} (hp : yV q = true) {m : List Bool} (hm : m.length = q.length) : ∀ (k i : Nat) (pre : List Int) (acc : List Nd),pre.length = i -> i + k = q.length -> acc.length + k < 4294967296 ->
  zM (m.map D.bool) (i : Int) (q.map eN) ((pre ++ List.replicate k 0).map eI) (acc.map eN) = some (.os (1,0) ((AI 0 q m k pre acc).1.map eI),[rP (AI 0 q m k pre acc).2])
 | 0,i,pre,acc,hpre,hi,hc => by
  rw [Gz,xb (by rw [lnM]; exact yr (by omega))]
  simp [AI]
 | k + 1,i,pre,acc,hpre,hi,hc => by
  have hl := y0 hp
  obtain ⟨x,hx⟩ := xx (l := q) (i := i) (by omega)
  obtain ⟨b,hb⟩ := xx (l := m) (i := i) (by omega)
  have ho := Ak hp hx
  have s2 : ∀ v : Int,List.set ((pre ++ List.replicate (k + 1) 0).map eI) i (eI v) = (pre ++ [v] ++ List.replicate k 0).map eI := by
   intro v; rw [<- List.map_set,List.replicate_succ,UT hpre]; simp
  have hz2 : (pre ++ List.replicate (k + 1) 0)[i]? = some 0 := by rw [List.replicate_succ,Uv hpre]
  rw [Gz,xK (by rw [lnM]; exact yz (by omega)),yu (by rw [lnM]; exact yx (by omega)),Int.toNat_natCast,xW hb,xI]
  cases b with
  | false =>
   rw [Bool.not_false,yk,yM (by omega)]
   have ih := AW hp hm k (i + 1) (pre ++ [0]) acc (by simp [hpre]) (by omega) (by omega)
   simp only [AI,hpre,hx,hb]
   simpa [List.replicate_succ] using ih
  | true =>
   rw [Bool.not_true,xJ,yu (by rw [lnM]; exact yx (by omega)),xW hx,JR]
   by_cases h5 : x.kind = 5
   ·obtain ⟨a0,a1,b0,b1⟩ := Ay ho h5
    obtain ⟨u,hu,hu'⟩ := GF (l := (pre ++ List.replicate (k + 1) 0)) (pre := pre) a0 (by omega) (by intro j hj; exact D8 hj)
    obtain ⟨v,hv,hv'⟩ := GF (l := (pre ++ List.replicate (k + 1) 0)) (pre := pre) b0 (by omega) (by intro j hj; exact D8 hj)
    have e : y8 pre x = ⟨x.kind,x.n,x.s,u,v⟩ := by simp [y8,h5,hu',hv']
    rw [xK (by simp [h5]),yu (by rw [List.length_map]; exact AV a0 (by simp; omega)),xW hu,ye,yu (by rw [List.length_map]; exact AV b0 (by simp; omega)),xW hv,ye]
    have ha := zo (p := acc) (by omega) ⟨x.kind,x.n,x.s,u,v⟩
    have ih := AW hp hm k (i + 1) (pre ++ [(acc.length : Int)]) (acc ++ [⟨x.kind,x.n,x.s,u,v⟩]) (by simp [hpre]) (by omega) (by simp; omega)
    rw [y1 ha,yu (by rw [lnM]; exact yx (by simp; omega)),xW hz2,yA,s2,yM (by omega)]
    simp only [AI,hpre,hx,hb,e]
    exact ih
   rw [xb (by simp [h5])]
   by_cases h6 : x.kind = 6
   ·obtain ⟨a0,a1⟩ := AL ho (.inl h6)
    obtain ⟨u,hu,hu'⟩ := GF (l := (pre ++ List.replicate (k + 1) 0)) (pre := pre) a0 (by omega) (by intro j hj; exact D8 hj)
    have e : y8 pre x = ⟨x.kind,x.n,x.s,u,x.b⟩ := by simp [y8,h6,hu']
    rw [xK (by simp [h6]),xK (by simp [h6]),yu (by rw [List.length_map]; exact AV a0 (by simp; omega)),xW hu,ye]
    have ha := zo (p := acc) (by omega) ⟨x.kind,x.n,x.s,u,x.b⟩
    have ih := AW hp hm k (i + 1) (pre ++ [(acc.length : Int)]) (acc ++ [⟨x.kind,x.n,x.s,u,x.b⟩]) (by simp [hpre]) (by omega) (by simp; omega)
    rw [y1 ha,yu (by rw [lnM]; exact yx (by simp; omega)),xW hz2,yA,s2,yM (by omega)]
    simp only [AI,hpre,hx,hb,e]
    exact ih
   rw [xb (by simp [h6])]
   by_cases h7 : x.kind = 7
   ·obtain ⟨a0,a1⟩ := AL ho (.inr h7)
    obtain ⟨u,hu,hu'⟩ := GF (l := (pre ++ List.replicate (k + 1) 0)) (pre := pre) a0 (by omega) (by intro j hj; exact D8 hj)
    have e : y8 pre x = ⟨x.kind,x.n,x.s,u,x.b⟩ := by simp [y8,h7,hu']
    rw [xK (by simp [h7]),yu (by rw [List.length_map]; exact AV a0 (by simp; omega)),xW hu,ye]
    have ha := zo (p := acc) (by omega) ⟨x.kind,x.n,x.s,u,x.b⟩
    have ih := AW hp hm k (i + 1) (pre ++ [(acc.length : Int)]) (acc ++ [⟨x.kind,x.n,x.s,u,x.b⟩]) (by simp [hpre]) (by omega) (by simp; omega)
    rw [y1 ha,yu (by rw [lnM]; exact yx (by simp; omega)),xW hz2,yA,s2,yM (by omega)]
    simp only [AI,hpre,hx,hb,e]
    exact ih
   rw [xb (by simp [h7])]
   ·have e : y8 pre x = x := by simp [y8,h5,h6,h7]
    have ha := zo (p := acc) (by omega) x
    have ih := AW hp hm k (i + 1) (pre ++ [(acc.length : Int)]) (acc ++ [x]) (by simp [hpre]) (by omega) (by simp; omega)
    rw [y1 ha,yu (by rw [lnM]; exact yx (by simp; omega)),xW hz2,yA,s2,yM (by omega)]
    simp only [AI,hpre,hx,hb,e]
    exact ih
end Go.Eng
/-! what is kept: both sides keep the same -/
namespace Go.Eng
noncomputable section
open Go.Proofs Go.Proofs.Tryz

theorem Bw (p : List Nd) (rs : List Int) : (Bh p rs).length = p.length := by
 unfold Bh; rw [JZ,GV]; simp
def Bz (d : Int) (q : List Nd) (rs : List Int) (acc : List Nd) : List Int × List Nd := AI d q (Bh q rs) q.length [] acc
theorem WY {n : Nat} : List.replicate (Int.toNat (ni n)) (iN 0) = (List.replicate n (0 : Int)).map eI := by simp [ni]
theorem aa4 {q acc : List Nd} (hp : yV q = true) {rs : List Int} (h2 : rs.length < 4611686018427387904) (hr : y5 q rs = true) (hc : acc.length + q.length < 4294967296) :
  V 137 [rP acc,eP q,.rs (1,0) (rs.map eI)] = some (.os (1,0) ((Bz (-1) q rs acc).1.map eI),[rP (Bz (-1) q rs acc).2]) := by
 have e : (q.map eN).length = q.length := lnM _
 have h := AU hp (Bw q rs) q.length 0 [] acc rfl (Nat.zero_add _) hc
 rw [List.nil_append] at h
 rw [Mf,yu (Pm (by omega)),XU (abC hp h2 hr)]
 have h0 : List.replicate (Int.toNat (ni (q.map eN).length)) (iN 0) = (List.replicate q.length (0 : Int)).map eI := by rw [e]; exact WY
 rw [h0]
 exact h
theorem Xb {q acc : List Nd} (hp : yV q = true) {rs : List Int} (hc : acc.length + q.length < 4294967296) :
  V 148 [rP acc,eP q,.rs (1,0) ((Bh q rs).map D.bool)] = some (.os (1,0) ((Bz 0 q rs acc).1.map eI),[rP (Bz 0 q rs acc).2]) := by
 have e : (q.map eN).length = q.length := lnM _
 have h := AW hp (Bw q rs) q.length 0 [] acc rfl (Nat.zero_add _) hc
 rw [List.nil_append] at h
 have h0 : List.replicate (Int.toNat (ni (q.map eN).length)) (iN 0) = (List.replicate q.length (0 : Int)).map eI := by rw [e]; exact WY
 rw [Um,yu (Pm (by omega)),h0]
 exact h

theorem Ee (d : Int) (q : List Nd) (m : List Bool) : ∀ (k : Nat) (pre : List Int) (acc : List Nd),(AI d q m k pre acc).1.length = pre.length + k
 | 0,pre,acc => rfl
 | k + 1,pre,acc => by
  simp only [AI]
  split
  ·rw [Ee d q m k]; simp; omega
  ·rw [Ee d q m k]; simp; omega
theorem MG (d : Int) (q : List Nd) (m : List Bool) : ∀ (k : Nat) (pre : List Int) (acc : List Nd),(AI d q m k pre acc).2.length <= acc.length + k
 | 0,pre,acc => Nat.le_refl _
 | k + 1,pre,acc => by
  simp only [AI]
  split
  ·have := MG d q m k (pre ++ [(acc.length : Int)]) (acc ++ [y8 pre ‹Nd›]); simp at this; omega
  ·have := MG d q m k (pre ++ [d]) acc; omega

def zn (d : Int) (q : List Nd) (rs : List Int) : List Nd × List Int := ((Bz d q rs []).2,rs.map fun r => (Bz d q rs []).1.getD r.toNat 0)
theorem YM {l : List Int} (h : l.length < 4294967296) (x : D) : decide (ni (l.map eI ++ [x]).length <= LIM) = true :=
 decide_eq_true (by rw [pE]; simp only [ni,lnA,lnM,lnC,lnN]; omega)
theorem JL {n : Nat} {a : List Int} (ha : a.length = n) {p : List D} {l : List Int} (h2 : l.length < 4294967296) (hr : ∀ r ∈ l,0 <= r /\ r < (n : Int)) : ∀ (k i : Nat) (out : List Int),i + k = l.length -> out.length = i -> Fh (l.map eI) (ni (l.map eI).length) (i : Int) (a.map eI) (out.map eI) p = some (.tup [.agg [.os (5,0) p],.os (1,0) ((out ++ (l.drop i).map fun r => a.getD r.toNat 0).map eI)],[])
 | 0,i,out,hi,ho => by
  rw [Jp,xb (by rw [lnM]; exact yr (by omega)),List.drop_of_length_le (by omega)]; simp
 | k + 1,i,out,hi,ho => by
  obtain ⟨x,hx⟩ := xx (l := l) (i := i) (by omega)
  have hx2 := hr x (List.mem_of_getElem? hx)
  obtain ⟨u,hu⟩ := Ci (l := a) (n := x) hx2.1 (by omega)
  have e : out.map eI ++ [iN u] = (out ++ [u]).map eI := by simp
  have eg : a.getD x.toNat 0 = u := by simp [hu]
  rw [Jp,xK (by rw [lnM]; exact yz (by omega)),yu (by rw [lnM]; exact yx (by omega)),Int.toNat_natCast,xW hx,ye,yu (by rw [lnM]; exact AV hx2.1 (by omega)),xW hu,ye,yu (YM (by omega) _),yA,yM (by omega),e,tU hx,List.map_cons,eg]
  have ih := JL ha (p := p) h2 hr k (i + 1) (out ++ [u]) (by omega) (by simp; omega)
  rw [List.append_assoc] at ih
  exact ih
theorem J6 {n : Nat} {a : List Int} (ha : a.length = n) {p : List D} {l : List Int} (h2 : l.length < 4294967296) (hr : ∀ r ∈ l,0 <= r /\ r < (n : Int)) : ∀ (k i : Nat) (out : List Int),i + k = l.length -> out.length = i -> Dv (l.map eI) (i : Int) (a.map eI) (out.map eI) p = some (.tup [.agg [.os (5,0) p],.os (1,0) ((out ++ (l.drop i).map fun r => a.getD r.toNat 0).map eI)],[])
 | 0,i,out,hi,ho => by
  rw [GA,xb (by rw [lnM]; exact yr (by omega)),List.drop_of_length_le (by omega)]; simp
 | k + 1,i,out,hi,ho => by
  obtain ⟨x,hx⟩ := xx (l := l) (i := i) (by omega)
  have hx2 := hr x (List.mem_of_getElem? hx)
  obtain ⟨u,hu⟩ := Ci (l := a) (n := x) hx2.1 (by omega)
  have e : out.map eI ++ [iN u] = (out ++ [u]).map eI := by simp
  have eg : a.getD x.toNat 0 = u := by simp [hu]
  rw [GA,xK (by rw [lnM]; exact yz (by omega)),yu (by rw [lnM]; exact yx (by omega)),Int.toNat_natCast,xW hx,ye,yu (by rw [lnM]; exact AV hx2.1 (by omega)),xW hu,ye,yu (YM (by omega) _),yA,yM (by omega),e,tU hx,List.map_cons,eg]
  have ih := J6 ha (p := p) h2 hr k (i + 1) (out ++ [u]) (by omega) (by simp; omega)
  rw [List.append_assoc] at ih
  exact ih
theorem Gd {p : List Nd} {rs : List Int} (hr : y5 p rs = true) : ∀ r ∈ rs,0 <= r /\ r < (p.length : Int) := by
 intro r h
 have := wi_iff.1 (List.all_eq_true.1 hr r h)
 omega
theorem ab6 {q : List Nd} (hp : yV q = true) {rs : List Int} (h2 : rs.length < 4294967296) (hr : y5 q rs = true) :
  V 66 [eP q,.rs (1,0) (rs.map eI)] = some (.tup [oP (zn (-1) q rs).1,.os (1,0) ((zn (-1) q rs).2.map eI)],[]) := by
 have hl := y0 hp
 have hm : V 137 [.op [.os (5,0) []],eP q,.rs (1,0) (rs.map eI)] = _ := aa4 (acc := []) hp (rs := rs) (by omega) hr (by simp; omega)
 have h := JL (Ee (-1) q (Bh q rs) q.length [] []) (p := (Bz (-1) q rs []).2.map eN) h2 (by simpa using Gd hr) rs.length 0 [] (Nat.zero_add _) rfl
 rw [XB,Qr hm]
 exact h
theorem aa2 {q : List Nd} (hp : yV q = true) {rs : List Int} (h2 : rs.length < 4294967296) (hr : y5 q rs = true) :
  V 86 [eP q,.rs (1,0) (rs.map eI)] = some (.tup [oP (zn 0 q rs).1,.os (1,0) ((zn 0 q rs).2.map eI)],[]) := by
 have hl := y0 hp
 have hm : V 148 [.op [.os (5,0) []],eP q,.rs (1,0) ((Bh q rs).map D.bool)] = _ := Xb (acc := []) hp (rs := rs) (by simp; omega)
 have h := J6 (Ee 0 q (Bh q rs) q.length [] []) (p := (Bz 0 q rs []).2.map eN) h2 (by simpa using Gd hr) rs.length 0 [] (Nat.zero_add _) rfl
 rw [Un,MY (SK hp (by omega) hr),OG hm]
 exact h

def On (m : List Bool) (n : Int) : Prop := m[n.toNat]? = some true
theorem QI {m : List Bool} {j i : Nat} (h : m[j]? = some true) : (m.set i true)[j]? = some true := by
 by_cases e : i = j
 ·subst e; simp [aQ h]
 ·rw [List.getElem?_set_ne e]; exact h
theorem QJ {m : List Bool} {i : Nat} (h : i < m.length) : (m.set i true)[i]? = some true := by simp [h]
theorem Zt {x : Nd} {m : List Bool} {j : Nat} (h : m[j]? = some true) : (zD x m)[j]? = some true := by
 unfold zD
 split
 ·exact QI (QI h)
 ·split
  ·exact QI h
  ·exact h
theorem Ga {p : List Nd} : ∀ (k : Nat) {m : List Bool} {j : Nat},m[j]? = some true -> (zB p k m)[j]? = some true
 | 0,m,j,h => h
 | k + 1,m,j,h => by
  simp only [zB]
  apply Ga k
  split
  ·exact Zt h
  ·exact h
theorem Zr {p : List Nd} (hp : yV p = true) {k : Nat} {x : Nd} (hx : p[k]? = some x) {m : List Bool} {j : Nat} (h : k <= j) : (zD x m)[j]? = m[j]? := by
 have ho := Ak hp hx
 unfold zD
 split
 ·rename_i h5
  have := Ay ho h5
  rw [List.getElem?_set_ne (by omega),List.getElem?_set_ne (by omega)]
 ·split
  ·rename_i h6
   have := AL ho h6
   rw [List.getElem?_set_ne (by omega)]
  ·rfl
theorem QE {p : List Nd} (hp : yV p = true) : ∀ (k : Nat) {m : List Bool} {j : Nat},k <= j -> (zB p k m)[j]? = m[j]?
 | 0,m,j,h => rfl
 | k + 1,m,j,h => by
  simp only [zB]
  rw [QE hp k (by omega)]
  split
  ·rename_i x hx _; exact Zr hp ‹_› (by omega)
  ·rfl
def Xl (p : List Nd) (m : List Bool) : Prop := ∀ (i : Nat) (x : Nd),p[i]? = some x -> m[i]? = some true -> (x.kind = 5 -> On m x.a /\ On m x.b) /\ (x.kind = 6 \/ x.kind = 7 -> On m x.a)
theorem JY {p : List Nd} (hp : yV p = true) : ∀ (k : Nat) {m : List Bool},m.length = p.length -> ∀ (i : Nat) (x : Nd),i < k -> p[i]? = some x -> (zB p k m)[i]? = some true -> (x.kind = 5 -> On (zB p k m) x.a /\ On (zB p k m) x.b) /\ (x.kind = 6 \/ x.kind = 7 -> On (zB p k m) x.a)
 | 0,m,hm,i,x,hi,_,_ => by omega
 | k + 1,m,hm,i,x,hi,hx,hr => by
  by_cases e : i = k
  ·subst e
   have ho := Ak hp hx
   rw [zB] at hr ⊢
   have hmi : m[i]? = some true := by
    rw [QE hp i (Nat.le_refl _)] at hr
    split at hr
    ·assumption
    ·exact hr
   rw [hx,hmi]
   show (_ -> On (zB p i (zD x m)) x.a /\ On (zB p i (zD x m)) x.b) /\ (_ -> On (zB p i (zD x m)) x.a)
   have hlt := aQ hx
   refine ⟨fun h5 => ?_,fun h6 => ?_⟩
   ·have := Ay ho h5
    have ea : (zD x m)[x.a.toNat]? = some true := by
     simp only [zD,h5,if_true]
     exact QI (QJ (by omega))
    have eb : (zD x m)[x.b.toNat]? = some true := by
     simp only [zD,h5,if_true]
     exact QJ (by simp; omega)
    exact ⟨Ga i ea,Ga i eb⟩
   ·have := AL ho h6
    have ea : (zD x m)[x.a.toNat]? = some true := by
     have h5 : ¬ x.kind = 5 := by omega
     simp only [zD,h5,h6,if_false,if_true]
     exact QJ (by omega)
    exact Ga i ea
  ·rw [zB] at hr ⊢
   refine JY hp k ?_ i x (by omega) hx hr
   split
   ·rw [KY]; exact hm
   ·exact hm
theorem CJ {p : List Nd} (hp : yV p = true) (rs : List Int) : Xl p (Bh p rs) := by
 intro i x hx hr
 exact JY hp p.length (by rw [GV]; simp) i x (aQ hx) hx hr
theorem ZR {rs : List Int} : ∀ {m : List Bool} {r : Int},(r ∈ rs /\ r.toNat < m.length) \/ m[r.toNat]? = some true -> (Jl rs m)[r.toNat]? = some true := by
 induction rs with
 | nil => intro m r h; rcases h with h | h; exact absurd h.1 (by simp); exact h
 | cons q rs ih =>
  intro m r h
  show (Jl rs (m.set q.toNat true))[r.toNat]? = some true
  apply ih
  rcases h with ⟨h,hl⟩ | h
  ·rcases List.mem_cons.1 h with rfl | h
   ·right; simp [hl]
   ·left; exact ⟨h,by simpa using hl⟩
  ·right; exact QI h
theorem Eu {p : List Nd} {rs : List Int} (hr : y5 p rs = true) : ∀ r ∈ rs,On (Bh p rs) r := by
 intro r h
 have := Gd hr r h
 exact Ga _ (ZR (.inl ⟨h,by simp; omega⟩))

theorem Kt {q : List Nd} (hp : yV q = true) {m : List Bool} (hc : Xl q m) (hm : m.length = q.length) (d d' : Int) : ∀ (k : Nat) (pre pre' : List Int) (acc : List Nd),pre.length = pre'.length -> pre.length + k = q.length -> (∀ j : Nat,m[j]? = some true -> pre[j]? = pre'[j]?) ->
  (AI d q m k pre acc).2 = (AI d' q m k pre' acc).2 /\ ∀ j : Nat,m[j]? = some true -> (AI d q m k pre acc).1[j]? = (AI d' q m k pre' acc).1[j]?
 | 0,pre,pre',acc,hl,hk,h => ⟨rfl,h⟩
 | k + 1,pre,pre',acc,hl,hk,h => by
  obtain ⟨x,hx⟩ := xx (l := q) (i := pre.length) (by omega)
  obtain ⟨b,hb⟩ := xx (l := m) (i := pre.length) (by omega)
  have step : ∀ (u u' : Int),(b = true -> u = u') -> ∀ j : Nat,m[j]? = some true -> (pre ++ [u])[j]? = (pre' ++ [u'])[j]? := by
   intro u u' huu j hj
   rcases Nat.lt_trichotomy j pre.length with h1 | h1 | h1
   ·rw [List.getElem?_append_left h1,List.getElem?_append_left (by omega)]; exact h j hj
   ·subst h1
    rw [hb] at hj; cases hj
    rw [List.getElem?_append_right (Nat.le_refl _),hl,List.getElem?_append_right (Nat.le_refl _),huu rfl]
   ·rw [List.getElem?_eq_none (by simp; omega),List.getElem?_eq_none (by simp; omega)]
  have hb' := hb
  have hx' := hx
  rw [hl] at hb' hx'
  simp only [AI,hx,hb,hx',hb']
  cases b with
  | false => exact Kt hp hc hm d d' k _ _ acc (by simp; omega) (by simp; omega) (step d d' (fun h => by cases h))
  | true =>
   have hcl := hc _ x hx hb
   have e : y8 pre x = y8 pre' x := by
    unfold y8
    split
    ·rename_i h5
     have h1 := h _ (hcl.1 h5).1
     have h2 := h _ (hcl.1 h5).2
     simp only [List.getD_eq_getElem?_getD,h1,h2]
    ·split
     ·rename_i h6
      have h1 := h _ (hcl.2 h6)
      simp only [List.getD_eq_getElem?_getD,h1]
     ·rfl
   have ih := Kt hp hc hm d d' k (pre ++ [(acc.length : Int)]) (pre' ++ [(acc.length : Int)]) (acc ++ [y8 pre x]) (by simp; omega) (by simp; omega) (step _ _ (fun _ => rfl))
   rw [e] at ih
   simp only [e]
   exact ih
theorem XM {q : List Nd} (hp : yV q = true) {rs : List Int} (hr : y5 q rs = true) (d d' : Int) : zn d q rs = zn d' q rs := by
 have h := Kt hp (CJ hp rs) (Bw q rs) d d' q.length [] [] [] rfl (Nat.zero_add _) (fun _ _ => rfl)
 unfold zn
 refine Prod.ext h.1 ?_
 apply List.map_congr_left
 intro r hm
 have := h.2 r.toNat (Eu hr r hm)
 simp only [List.getD_eq_getElem?_getD]
 exact congrArg (fun o => Option.getD o 0) this
end
end Go.Eng
/-! decimal digits,on both sides -/
namespace Go.Eng
open Go.Proofs Go.Proofs.Tryz

theorem ab0 (n : Nat) : Int.tdiv (n : Int) 10 = ((n / 10 : Nat) : Int) := by
 rw [Int.tdiv_eq_ediv_of_nonneg (by omega)]; omega
theorem ab4 (n : Nat) : Int.tmod (n : Int) 10 = ((n % 10 : Nat) : Int) := by
 rw [Int.tmod_eq_emod_of_nonneg (by omega)]; omega
theorem YL {a b : List UInt8} (ha : a.length <= 1000) (hb : b.length <= 1000) : decide (ni ((mk a).size + (mk b).size) <= LIM) = true :=
 decide_eq_true (by rw [pE,yO,yO]; simp only [ni]; omega)
theorem PH {n : Nat} (h : n < 1000000000000000000) : (Iw n).length <= 20 := by
 have := Vq 18 n (by omega)
 omega
theorem aaZ {d : Nat} (h : d < 10) : IntKind.wrap .u8 (w6 (48 + (d : Int))) = 48 + (d : Int) := by
 rw [w64 (by omega) (by omega),KE (by omega) (by omega)]
theorem Vv : ∀ (n : Nat) (acc : List UInt8),n < 1000000000000000000 -> acc.length + (if n = 0 then [] else Iw n).length <= 1000 -> Ch (n : Int) (mk acc) = some (.str (mk ((if n = 0 then [] else Iw n) ++ acc)),[]) := by
 intro n
 induction n using Nat.strongRecOn with
 | _ n ih =>
  intro acc hn hl
  by_cases h0 : n = 0
  ·subst h0
   rw [EZ,xb (by rfl),if_pos rfl]; rfl
  ·have hd : Iw n = (if n / 10 = 0 then [] else Iw (n / 10)) ++ [UInt8.ofNat (48 + n % 10)] := by
    by_cases h : n < 10
    ·rw [AC h,if_pos (by omega),show n % 10 = n by omega]; rfl
    ·rw [JE h,if_neg (by omega)]
   rw [if_neg h0,hd] at hl
   simp only [lnA,lnC,lnN] at hl
   rw [EZ,xK (decide_eq_true (by omega)),yu (by decide),ab4,aaZ (by omega),XT]
   have e : UInt8.ofNat (48 + ((n % 10 : Nat) : Int)).toNat = UInt8.ofNat (48 + n % 10) := by congr 1
   rw [e,yu (YL (by simp) (by omega)),yu (by decide),ab0,w64 (by omega) (by omega),Se,ih (n / 10) (by omega) _ (by omega) (by simp only [lnA,lnC,lnN]; omega),if_neg h0,hd]
   simp
theorem Mz {n : Nat} (h : n < 1000000000000000000) : V 202 [iN (n : Int)] = some (.str (mk (Iw n)),[]) := by
 rw [JG,xb (decide_eq_false (by omega))]
 by_cases h0 : n = 0
 ·subst h0
  rw [xK (by rfl),AC (by omega)]; rfl
 ·have := Vv n [] h (by have := PH h; rw [if_neg h0]; simp; omega)
  rw [if_neg h0,List.append_nil] at this
  rw [xb (by simp; omega)]
  exact this
theorem QR {n : Int} (h : n.natAbs < 1000000000000000000) : V 202 [iN n] = some (.str (mk (IV n)),[]) := by
 by_cases h0 : n < 0
 ·have hd := Mz h
  rw [JG,xK (decide_eq_true h0),show (0 : Int) - n = (n.natAbs : Int) by omega,w64 (by omega) (by omega),GT hd]
  rw [<- show mk [45] = ⟨#[45]⟩ from rfl,yu (YL (a := [45]) (by simp) (by have := PH h; omega)),Se,IV,if_pos h0]
  rfl
 ·have := Mz h
  rw [show (n.natAbs : Int) = n by omega] at this
  rw [this,IV,if_neg h0]
end Go.Eng
/-! what is written of a value: the reference's side -/
namespace Go.Eng
open Go.Proofs Go.Proofs.Tryz

noncomputable def ach (x : Nd) : List UInt8 :=
 if x.kind = 1 then [40,41]
 else if x.kind = 2 then (if x.n = 1 then [35,116] else [35,102])
 else if x.kind = 3 then IV x.n
 else if x.kind = 4 then x.s.data.toList
 else if x.kind = 6 then [35,102,117,110] ++ IV x.n
 else if x.kind = 7 then [35,107,111,110,116] ++ IV x.n
 else if x.kind = 8 then [35,112,114,105,109] ++ IV x.n
 else [35,112,105,100] ++ IV x.n
noncomputable def wr (p : List Nd) : Nat -> Bool -> Nat -> List UInt8 -> List UInt8
 | 0,_,_,out => out
 | g + 1,false,v,out => if out.length > 400 then out else
  match p[v]? with
  | some x => if x.kind = 5 then wr p g true x.b.toNat (wr p g false x.a.toNat (out ++ [40])) else out ++ ach x
  | none => out
 | g + 1,true,v,out =>
  match p[v]? with
  | some x => if x.kind = 5 /\ out.length <= 400 then wr p g true x.b.toNat (wr p g false x.a.toNat (out ++ [32]))
   else if x.kind = 1 then out ++ [41] else wr p g false v (out ++ [32,46,32]) ++ [41]
  | none => out
theorem aaD {s : ByteArray} (h : Jy s = true) : s.size <= 12 := by
 simp only [Jy,Bool.and_eq_true,wi,decide_eq_true_eq] at h; omega
theorem aaJ {x : Nd} {h : Int} (ho : okN x h = true) (hk : x.kind = 4) : Jy x.s = true := by
 simp [okN,hk] at ho; exact ho.2.1
theorem aaI {x : Nd} {h : Int} (ho : okN x h = true) : 1 <= x.kind /\ x.kind <= 9 := by
 unfold okN at ho
 repeat' split at ho
 all_goals (first | omega | (cases ho))
end Go.Eng
/-! what is written of a value: the program's side,as plain lists -/
namespace Go.Eng
open Go.Proofs Go.Proofs.Tryz

end Go.Eng
/-! what is written of a value: the program's side -/
namespace Go.Eng
open Go.Proofs Go.Proofs.Tryz

theorem lit (l : List UInt8) : (ByteArray.mk l.toArray) = mk l := rfl
end Go.Eng
/-! code and machines: when they are right,on both sides -/
namespace Go.Eng
noncomputable section
open Go.Proofs Go.Proofs.Tryz
set_option maxHeartbeats 4000000

structure In where
 op : Int
 n : Int
 i : Int
 s : ByteArray
structure Df where
 name : ByteArray
 at' : Int
 args : Int
structure Cd where
 pool : List Nd
 list : List In
 defs : List Df
abbrev eIn (x : In) : D := .agg [iN x.op,iN x.n,iN x.i,.str x.s]
abbrev eDf (x : Df) : D := .agg [.str x.name,iN x.at',iN x.args]
abbrev eCd (c : Cd) : D := .agg [.rs (5,0) (c.pool.map eN),.rs (4,0) (c.list.map eIn),.rs (3,0) (c.defs.map eDf)]
abbrev oCd (c : Cd) : D := .agg [.os (5,0) (c.pool.map eN),.os (4,0) (c.list.map eIn),.os (3,0) (c.defs.map eDf)]
structure FitsC (c : Cd) : Prop where
 pool : zZ c.pool
 plen : c.pool.length < 4611686018427387904
 list : ∀ x ∈ c.list,x.s.size < 4611686018427387904
 llen : c.list.length < 4611686018427387904
 defs : ∀ x ∈ c.defs,x.name.size < 4611686018427387904
 dlen : c.defs.length < 4611686018427387904
section
variable {R : Type}
theorem abX (x : In) (K : Int -> Int -> Int -> ByteArray -> Option R) : tk3 (eIn x) (fun n4 n7 n10 s13 => (K n4 n7 n10 s13)) = K x.op x.n x.i x.s := rfl
end
def Dw (c : Cd) (s : ByteArray) : Int := ya (fun d : Df => kc d.name s) c.defs
theorem KV {l : List Df} (hl : l.length < 4611686018427387904) (s : ByteArray) : ∀ (k i : Nat),i + k = l.length -> AZ (l.map eDf) s (ni (l.map eDf).length) (i : Int) = some (iN (dQ (fun d : Df => kc d.name s) l i),[])
 | 0,i,hi => by
  rw [DF,w8 (by omega)]
  simp (disch := first | omega | (simp only [lnA,lnC,lnN,lnM,yO,wY]; omega)) only [↓xJ,yI,lnM,wY]
 | k + 1,i,hi => by
  obtain ⟨x,hx⟩ := xx (l := l) (i := i) (by omega)
  have ih := KV hl s k (i + 1) (by omega)
  have hd : V 179 [eDf x,.bp [.str s]] = some (.bool (kc x.name s),[]) := by rw [aas]
  have hw : w6 ((i : Int) + 1) = ((i + 1 : Nat) : Int) := yM (by omega)
  rw [DF]
  cases h : kc x.name s with
  | true => rw [w9 hx h]; rw [h] at hd; simp (disch := first | omega | (simp only [lnA,lnC,lnN,lnM,yO,wY]; omega)) only [↓wZ,xi,↓yk,↓xP,↓yo,↓yb,↓ye,↓xI,↓yi,↓xu,↓xX,yJ,Bool.and_true,lnM,wY,↓xW hx,hd]
  | false =>
   rw [h] at hd
   rw [wJ hx h,<- ih,lnM]; simp (disch := first | omega | (simp only [lnA,lnC,lnN,lnM,yO,wY]; omega)) only [↓wZ,xi,↓yk,↓xJ,↓xP,↓yo,↓yb,↓ye,↓xI,↓yi,↓xu,↓xX,yJ,Bool.and_true,wY,↓xW hx,hd,hw]
theorem U4 {c : Cd} (hf : FitsC c) (s : ByteArray) : V 125 [eCd c,.str s] = some (iN (Dw c s),[]) := by
 have h := KV hf.dlen s c.defs.length 0 (Nat.zero_add _)
 rw [wK,Int.natCast_zero] at h
 have h2 : V 178 [.rs (3,0) (c.defs.map eDf),.fn 179 [.bp [.str s]]] = some (iN (Dw c s),[]) := by
  rw [NA]; exact h
 rw [Vy]
 simp (disch := first | omega | (simp only [lnA,lnC,lnN,lnM,yO,wY]; omega)) only [↓wZ,xi,↓yo,↓ye,h2]
theorem Lh {l : List Df} (hl : l.length < 4611686018427387904) (s : ByteArray) (p q : List D) : ∀ (k i : Nat),i + k = l.length -> DQ s (i : Int) p q (l.map eDf) = some (iN (dQ (fun d : Df => kc d.name s) l i),[])
 | 0,i,hi => by
  rw [Ic,w8 (by omega)]
  simp (disch := first | omega | (simp only [lnA,lnC,lnN,lnM,yO,wY]; omega)) only [↓xJ,yI,lnM,wY]
 | k + 1,i,hi => by
  obtain ⟨x,hx⟩ := xx (l := l) (i := i) (by omega)
  have ih := Lh hl s p q k (i + 1) (by omega)
  have hw : w6 ((i : Int) + 1) = ((i + 1 : Nat) : Int) := yM (by omega)
  rw [Ic]
  cases h : kc x.name s with
  | true => rw [w9 hx h]; simp (disch := first | omega | (simp only [lnA,lnC,lnN,lnM,yO,wY]; omega)) only [↓yk,↓xP,↓yi,↓xu,↓xz,xz,↓xX,yJ,Bool.and_true,lnM,wY,↓xW hx,h]
  | false => rw [wJ hx h,<- ih]; simp (disch := first | omega | (simp only [lnA,lnC,lnN,lnM,yO,wY]; omega)) only [↓yk,↓xJ,↓xP,↓yi,↓xu,↓xz,xz,↓xX,yJ,Bool.and_true,lnM,wY,↓xW hx,h,hw]
theorem Fp {c : Cd} (hf : FitsC c) (s : ByteArray) : V 129 [eCd c,.str s] = some (iN (Dw c s),[]) := by
 have h := Lh hf.dlen s (c.pool.map eN) (c.list.map eIn) c.defs.length 0 (Nat.zero_add _)
 rw [wK,Int.natCast_zero] at h
 rw [VE]
 exact h

def Jf (c : Cd) (x : In) (k : Int) : Bool :=
 if x.op = 1 then wi x.n 0 ((c.pool.length : Int) - 1) && (x.i == 0 && nz x.s)
 else if x.op = 2 then wi x.n 0 20 && (wi x.i 0 3 && nz x.s)
 else if x.op = 3 then x.n == 0 && (x.i == 0 && Jy x.s)
 else if x.op = 4 \/ x.op = 5 then wi x.n (k + 1) (c.list.length : Int) && (x.i == 0 && nz x.s)
 else if x.op = 6 then wi x.n (k + 1) ((c.list.length : Int) - 1) && (wi x.i 0 4 && nz x.s)
 else if x.op = 7 then x.n == 0 && (wi x.i 0 4 && nz x.s)
 else if x.op = 8 \/ x.op = 9 then x.n == 0 && (x.i == 0 && nz x.s)
 else false
theorem abQ (n k h : Int) : wi n (k + 1) h = (decide (n > k) && decide (n <= h)) := by
 unfold wi
 congr 1
theorem aca (n k h : Int) : wi n (k + 1) (h - 1) = (decide (n > k) && decide (n < h)) := by
 unfold wi
 congr 1
 exact decide_eq_decide.2 (by omega)
theorem QP {c : Cd} (hf : FitsC c) {k : Nat} {x : In} (hx : c.list[k]? = some x) : V 123 [eCd c,iN (k : Int)] = some (.bool (Jf c x k),[]) := by
 have hk := aQ hx
 have hl := hf.llen
 have hp := hf.plen
 have hs := hf.list x (List.mem_of_getElem? hx)
 rw [Q8]
 unfold Jf
 have hnm := GX hs
 have hnode := IP hp x.n
 by_cases h1 : x.op = 1
 ·rw [if_pos h1]; simp (disch := first | omega | (simp only [lnA,lnC,lnN,lnM,yO,wY]; omega)) only [↓wZ,xi,↓yk,↓xP,↓yo,↓yb,↓ye,↓xI,↓yi,↓xu,↓xX,yJ,yF,Bool.and_true,lnM,wY,↓xW hx,hnode]; simp only [zd]; rfl
 rw [if_neg h1]
 by_cases h2 : x.op = 2
 ·rw [if_pos h2]; simp (disch := first | omega | (simp only [lnA,lnC,lnN,lnM,yO,wY]; omega)) only [↓wZ,xi,↓yk,↓xJ,↓xP,↓yo,↓yb,↓ye,↓xI,↓yi,↓xu,↓xX,yJ,yF,yE,Bool.and_true,lnM,wY,↓xW hx,zk]; simp only [zd]; rfl
 rw [if_neg h2]
 by_cases h3 : x.op = 3
 ·rw [if_pos h3]; simp (disch := first | omega | (simp only [lnA,lnC,lnN,lnM,yO,wY]; omega)) only [↓wZ,xi,↓yk,↓xJ,↓xP,↓yo,↓yb,↓ye,↓xI,↓yi,↓xu,↓xX,yJ,yF,yE,Bool.and_true,lnM,wY,↓xW hx,hnm]; simp only [zd]
 rw [if_neg h3]
 by_cases h4 : x.op = 4
 ·rw [if_pos (.inl h4)]; simp (disch := first | omega | (simp only [lnA,lnC,lnN,lnM,yO,wY]; omega)) only [↓wZ,xi,↓yk,↓xJ,↓xP,↓yo,↓yb,↓ye,↓xI,↓yi,↓xu,↓xX,yJ,yF,yE,Bool.and_true,lnM,wS,wY,↓xW hx,zk]; simp only [zd]; rfl
 by_cases h5 : x.op = 5
 ·rw [if_pos (.inr h5)]; simp (disch := first | omega | (simp only [lnA,lnC,lnN,lnM,yO,wY]; omega)) only [↓wZ,xi,↓yk,↓xJ,↓xP,↓yo,↓yb,↓ye,↓xI,↓yi,↓xu,↓xX,yJ,yF,yE,Bool.and_true,lnM,wS,wY,↓xW hx,zk]; simp only [zd]; rfl
 rw [if_neg (by omega)]
 by_cases h6 : x.op = 6
 ·rw [if_pos h6]; simp (disch := first | omega | (simp only [lnA,lnC,lnN,lnM,yO,wY]; omega)) only [↓wZ,xi,↓yk,↓xJ,↓xP,↓yo,↓yb,↓ye,↓xI,↓yi,↓xu,↓xX,yJ,yF,yE,Bool.and_true,lnM,wS,wY,↓xW hx,zk]; simp only [zd]; rfl
 rw [if_neg h6]
 by_cases h7 : x.op = 7
 ·rw [if_pos h7]; simp (disch := first | omega | (simp only [lnA,lnC,lnN,lnM,yO,wY]; omega)) only [↓wZ,xi,↓yk,↓xJ,↓xP,↓yo,↓yb,↓ye,↓xI,↓yi,↓xu,↓xX,yJ,yF,yE,Bool.and_true,lnM,wY,↓xW hx,zk]; simp only [zd]; rfl
 rw [if_neg h7]
 by_cases h8 : x.op = 8
 ·rw [if_pos (.inl h8)]; simp (disch := first | omega | (simp only [lnA,lnC,lnN,lnM,yO,wY]; omega)) only [↓yk,↓xJ,↓xP,↓yo,↓yb,↓ye,↓yi,↓xu,↓xX,yJ,yF,yE,Bool.and_true,lnM,wY,↓xW hx]; simp only [zd]; rfl
 by_cases h9 : x.op = 9
 ·rw [if_pos (.inr h9)]; simp (disch := first | omega | (simp only [lnA,lnC,lnN,lnM,yO,wY]; omega)) only [↓yk,↓xJ,↓xP,↓yo,↓yb,↓ye,↓yi,↓xu,↓xX,yJ,yF,yE,Bool.and_true,lnM,wY,↓xW hx]; simp only [zd]; rfl
 rw [if_neg (by omega)]
 simp (disch := first | omega | (simp only [lnA,lnC,lnN,lnM,yO,wY]; omega)) only [↓xJ,↓xP,↓yo,↓yb,↓ye,↓yi,↓xu,↓xX,yJ,yE,Bool.and_true,lnM,wY,↓xW hx]
theorem ZY {c : Cd} (hf : FitsC c) {k : Nat} {x : In} (hx : c.list[k]? = some x) : V 127 [eCd c,iN (k : Int)] = some (.bool (Jf c x k),[]) := by
 have hk := aQ hx
 have hl := hf.llen
 have hp := hf.plen
 have hs := hf.list x (List.mem_of_getElem? hx)
 have hself : kc x.s x.s = true := by rw [Bv]; simp
 rw [Rj]
 unfold Jf
 have hnm := D0 hs
 have hnode := Fk hp x.n
 by_cases h1 : x.op = 1
 ·rw [if_pos h1]; simp (disch := first | omega | (simp only [lnA,lnC,lnN,lnM,yO,wY]; omega)) only [↓wZ,xi,↓yk,↓xP,↓yo,↓yb,↓ye,↓xI,↓yi,↓xu,↓xX,yJ,yF,Bool.true_and,Bool.and_true,lnM,wY,↓xW hx,hnode]; simp only [zd]
  show some (D.bool (_ && nz x.s && _),_) = _
  cases wi x.n 0 ((c.pool.length : Int) - 1) <;> cases x.i == 0 <;> cases nz x.s <;> rfl
 rw [if_neg h1]
 by_cases h2 : x.op = 2
 ·rw [if_pos h2]; simp (disch := first | omega | (simp only [lnA,lnC,lnN,lnM,yO,wY]; omega)) only [↓wZ,xi,↓yk,↓xJ,↓xP,↓yo,↓yb,↓ye,↓xI,↓yi,↓xu,↓xX,yJ,yF,yE,Bool.and_true,lnM,wY,↓xW hx,Al]; simp only [zd]
  show some (D.bool (nz x.s && _),_) = _
  cases wi x.n 0 20 <;> cases wi x.i 0 3 <;> cases nz x.s <;> rfl
 rw [if_neg h2]
 by_cases h3 : x.op = 3
 ·rw [if_pos h3]; simp (disch := first | omega | (simp only [lnA,lnC,lnN,lnM,yO,wY]; omega)) only [↓wZ,xi,↓yk,↓xJ,↓xP,↓yo,↓yb,↓ye,↓xI,↓yi,↓xu,↓xX,yJ,yF,yE,Bool.true_and,Bool.and_true,lnM,wY,↓xW hx,hnm,hself]; simp only [zd]
  cases x.n == 0 <;> cases x.i == 0 <;> cases Jy x.s <;> rfl
 rw [if_neg h3]
 by_cases h4 : x.op = 4
 ·rw [if_pos (.inl h4),abQ]; simp (disch := first | omega | (simp only [lnA,lnC,lnN,lnM,yO,wY]; omega)) only [↓yk,↓xJ,↓xP,↓yo,↓yb,↓ye,↓yi,↓xu,↓xX,yJ,yF,yE,Bool.true_and,Bool.and_true,lnM,wY,↓xW hx]; simp only [zd]
  show some (D.bool (_ && nz x.s && _),_) = _
  cases decide (x.n > (k : Int)) <;> cases decide (x.n <= (c.list.length : Int)) <;> cases x.i == 0 <;> cases nz x.s <;> rfl
 by_cases h5 : x.op = 5
 ·rw [if_pos (.inr h5),abQ]; simp (disch := first | omega | (simp only [lnA,lnC,lnN,lnM,yO,wY]; omega)) only [↓yk,↓xJ,↓xP,↓yo,↓yb,↓ye,↓yi,↓xu,↓xX,yJ,yF,yE,Bool.true_and,Bool.and_true,lnM,wY,↓xW hx]; simp only [zd]
  show some (D.bool (_ && nz x.s && _),_) = _
  cases decide (x.n > (k : Int)) <;> cases decide (x.n <= (c.list.length : Int)) <;> cases x.i == 0 <;> cases nz x.s <;> rfl
 rw [if_neg (by omega)]
 by_cases h6 : x.op = 6
 ·rw [if_pos h6,aca]; simp (disch := first | omega | (simp only [lnA,lnC,lnN,lnM,yO,wY]; omega)) only [↓wZ,xi,↓yk,↓xJ,↓xP,↓yo,↓yb,↓ye,↓xI,↓yi,↓xu,↓xX,yJ,yF,yE,Bool.and_true,lnM,wY,↓xW hx,Al]; simp only [zd]
  show some (D.bool (nz x.s && _),_) = _
  cases decide (x.n > (k : Int)) <;> cases decide (x.n < (c.list.length : Int)) <;> cases wi x.i 0 4 <;> cases nz x.s <;> rfl
 rw [if_neg h6]
 by_cases h7 : x.op = 7
 ·rw [if_pos h7]; simp (disch := first | omega | (simp only [lnA,lnC,lnN,lnM,yO,wY]; omega)) only [↓wZ,xi,↓yk,↓xJ,↓xP,↓yo,↓yb,↓ye,↓xI,↓yi,↓xu,↓xX,yJ,yF,yE,Bool.true_and,Bool.and_true,lnM,wY,↓xW hx,Al]; simp only [zd]
  show some (D.bool (_ && nz x.s && _),_) = _
  cases x.n == 0 <;> cases wi x.i 0 4 <;> cases nz x.s <;> rfl
 rw [if_neg h7]
 by_cases h8 : x.op = 8
 ·rw [if_pos (.inl h8)]; simp (disch := first | omega | (simp only [lnA,lnC,lnN,lnM,yO,wY]; omega)) only [↓yk,↓xJ,↓xP,↓yo,↓yb,↓ye,↓yi,↓xu,↓xX,yJ,yF,yE,Bool.true_and,Bool.and_true,lnM,wY,↓xW hx]; rfl
 by_cases h9 : x.op = 9
 ·rw [if_pos (.inr h9)]; simp (disch := first | omega | (simp only [lnA,lnC,lnN,lnM,yO,wY]; omega)) only [↓yk,↓xJ,↓xP,↓yo,↓yb,↓ye,↓yi,↓xu,↓xX,yJ,yF,yE,Bool.true_and,Bool.and_true,lnM,wY,↓xW hx]; rfl
 rw [if_neg (by omega)]
 simp (disch := first | omega | (simp only [lnA,lnC,lnN,lnM,yO,wY]; omega)) only [↓xJ,↓xP,↓yo,↓yb,↓ye,↓yi,↓xu,↓xX,yJ,yE,Bool.and_true,lnM,wY,↓xW hx]

def Ej (c : Cd) : Nat -> Nat -> Bool
 | _,0 => true
 | i,k + 1 => (match c.list[i]? with | some x => Jf c x i | none => true) && Ej c (i + 1) k
def XZ (c : Cd) (d : Df) (i : Int) : Bool := Jy d.name && (Dw c d.name == i && (wi d.at' 0 ((c.list.length : Int) - 1) && wi d.args 0 4))
def CI (c : Cd) : Nat -> Nat -> Bool
 | _,0 => true
 | i,k + 1 => (match c.defs[i]? with | some d => XZ c d i | none => true) && CI c (i + 1) k
def zI (c : Cd) : Bool := yV c.pool && (decide (c.list.length <= 400) && (decide (c.defs.length <= 20) && (Ej c 0 c.list.length && CI c 0 c.defs.length)))
theorem JK {c : Cd} (hf : FitsC c) : ∀ (k i : Nat),i + k = c.defs.length -> CM (c.defs.map eDf) (ni (c.defs.map eDf).length) (i : Int) (c.pool.map eN) (c.list.map eIn) (c.defs.map eDf) = some (.bool (CI c i k),[])
 | 0,i,hi => by
  have hd := hf.dlen
  rw [Fu]
  simp (disch := first | omega | (simp only [lnA,lnC,lnN,lnM,yO,wY]; omega)) only [↓xJ,yI,lnM,wY]
  rfl
 | k + 1,i,hi => by
  have hd := hf.dlen
  have hll := hf.llen
  obtain ⟨x,hx⟩ := xx (l := c.defs) (i := i) (by omega)
  have ih := JK hf k (i + 1) (by omega)
  rw [lnM] at ih
  have hw : w6 ((i : Int) + 1) = ((i + 1 : Nat) : Int) := yM (by omega)
  have hdf := U4 hf x.name
  have hnm := GX (hf.defs x (List.mem_of_getElem? hx))
  rw [Fu]
  simp only [CI,hx,XZ]
  cases e1 : Jy x.name with
  | false => rw [e1] at hnm; simp (disch := first | omega | (simp only [lnA,lnC,lnN,lnM,yO,wY]; omega)) only [↓wZ,xi,↓yk,↓xP,↓yo,↓yb,↓ye,↓xI,↓yi,↓xu,↓xX,yJ,Bool.and_true,Bool.false_and,Bool.not_false,lnM,wY,↓xW hx,hnm]
  | true =>
   rw [e1] at hnm
   by_cases e2 : Dw c x.name = (i : Int)
   ·rw [e2] at hdf
    simp (disch := first | omega | (simp only [lnA,lnC,lnN,lnM,yO,wY]; omega)) only [↓wZ,xi,↓yk,↓xJ,↓xP,↓yo,↓yb,↓ye,↓xI,↓yi,↓xu,↓xX,yJ,yF,yG,Bool.true_and,Bool.and_true,Bool.not_true,lnM,wS,wY,↓xW hx,hnm,hdf,e2,zk,hw,ih]
    cases wi x.at' 0 ((c.list.length : Int) - 1) <;> cases wi x.args 0 4 <;> rfl
   ·simp (disch := first | omega | (simp only [lnA,lnC,lnN,lnM,yO,wY]; omega)) only [↓wZ,xi,↓yk,↓xJ,↓xP,↓yo,↓yb,↓ye,↓xI,↓yi,↓xu,↓xX,yJ,yE,yH,Bool.and_true,Bool.false_and,Bool.and_false,Bool.not_true,lnM,wY,↓xW hx,hnm,hdf]
theorem J4 {c : Cd} (hf : FitsC c) : ∀ (k i : Nat),i + k = c.defs.length -> Di (i : Int) (c.pool.map eN) (c.list.map eIn) (c.defs.map eDf) = some (.bool (CI c i k),[])
 | 0,i,hi => by
  have hd := hf.dlen
  rw [Gp]
  simp (disch := first | omega | (simp only [lnA,lnC,lnN,lnM,yO,wY]; omega)) only [↓xJ,yI,lnM,wY]
  rfl
 | k + 1,i,hi => by
  have hd := hf.dlen
  have hll := hf.llen
  obtain ⟨x,hx⟩ := xx (l := c.defs) (i := i) (by omega)
  have ih := J4 hf k (i + 1) (by omega)
  have hw : w6 ((i : Int) + 1) = ((i + 1 : Nat) : Int) := yM (by omega)
  have hdf := Fp hf x.name
  have hnm := D0 (hf.defs x (List.mem_of_getElem? hx))
  rw [Gp]
  simp only [CI,hx,XZ]
  cases e1 : Jy x.name with
  | false => rw [e1] at hnm; simp (disch := first | omega | (simp only [lnA,lnC,lnN,lnM,yO,wY]; omega)) only [↓wZ,xi,↓yk,↓xP,↓yo,↓yb,↓ye,↓xI,↓yi,↓xu,↓xX,yJ,Bool.and_true,Bool.false_and,Bool.not_false,lnM,wY,↓xW hx,hnm]
  | true =>
   rw [e1] at hnm
   by_cases e2 : Dw c x.name = (i : Int)
   ·rw [e2] at hdf
    simp (disch := first | omega | (simp only [lnA,lnC,lnN,lnM,yO,wY]; omega)) only [↓wZ,xi,↓yk,↓xJ,↓xP,↓yo,↓yb,↓ye,↓xI,↓yi,↓xu,↓xX,yJ,yF,yG,Bool.true_and,Bool.and_true,Bool.not_true,lnM,wS,wY,↓xW hx,hnm,hdf,e2,Al,hw,ih]
    cases wi x.at' 0 ((c.list.length : Int) - 1) <;> cases wi x.args 0 4 <;> rfl
   ·simp (disch := first | omega | (simp only [lnA,lnC,lnN,lnM,yO,wY]; omega)) only [↓wZ,xi,↓yk,↓xJ,↓xP,↓yo,↓yb,↓ye,↓xI,↓yi,↓xu,↓xX,yJ,yE,yH,Bool.and_true,Bool.false_and,Bool.and_false,Bool.not_true,lnM,wY,↓xW hx,hnm,hdf]
theorem KX {c : Cd} (hf : FitsC c) : ∀ (k i : Nat),i + k = c.list.length -> Da (ni (c.list.map eIn).length) (i : Int) (c.pool.map eN) (c.list.map eIn) (c.defs.map eDf) = some (.bool (Ej c i k && CI c 0 c.defs.length),[])
 | 0,i,hi => by
  have hll := hf.llen
  have h := JK hf c.defs.length 0 (Nat.zero_add _)
  rw [Int.natCast_zero,lnM] at h
  rw [Gi]
  simp (disch := first | omega | (simp only [lnA,lnC,lnN,lnM,yO,wY]; omega)) only [↓xJ,yI,lnM,wY,h]
  rfl
 | k + 1,i,hi => by
  have hll := hf.llen
  obtain ⟨x,hx⟩ := xx (l := c.list) (i := i) (by omega)
  have ih := KX hf k (i + 1) (by omega)
  rw [lnM] at ih
  have hw : w6 ((i : Int) + 1) = ((i + 1 : Nat) : Int) := yM (by omega)
  have hi := QP hf hx
  rw [Gi]
  simp only [Ej,hx]
  cases e1 : Jf c x i with
  | false => rw [e1] at hi; simp (disch := first | omega | (simp only [lnA,lnC,lnN,lnM,yO,wY]; omega)) only [↓wZ,xi,↓yk,↓yo,↓xI,yJ,Bool.false_and,Bool.not_false,lnM,wY,hi]
  | true => rw [e1] at hi; simp (disch := first | omega | (simp only [lnA,lnC,lnN,lnM,yO,wY]; omega)) only [↓wZ,xi,↓yk,↓xJ,↓yo,↓xI,yJ,Bool.true_and,Bool.not_true,lnM,wY,hi,hw,ih]
theorem Lj {c : Cd} (hf : FitsC c) : ∀ (k i : Nat),i + k = c.list.length -> Dh (i : Int) (c.pool.map eN) (c.list.map eIn) (c.defs.map eDf) = some (.bool (Ej c i k && CI c 0 c.defs.length),[])
 | 0,i,hi => by
  have hll := hf.llen
  have h := J4 hf c.defs.length 0 (Nat.zero_add _)
  rw [Int.natCast_zero] at h
  rw [Gn]
  simp (disch := first | omega | (simp only [lnA,lnC,lnN,lnM,yO,wY]; omega)) only [↓xJ,yI,lnM,wY,h]
  rfl
 | k + 1,i,hi => by
  have hll := hf.llen
  obtain ⟨x,hx⟩ := xx (l := c.list) (i := i) (by omega)
  have ih := Lj hf k (i + 1) (by omega)
  have hw : w6 ((i : Int) + 1) = ((i + 1 : Nat) : Int) := yM (by omega)
  have hi := ZY hf hx
  rw [Gn]
  simp only [Ej,hx]
  cases e1 : Jf c x i with
  | false => rw [e1] at hi; simp (disch := first | omega | (simp only [lnA,lnC,lnN,lnM,yO,wY]; omega)) only [↓wZ,xi,↓yk,↓yo,↓xI,yJ,Bool.false_and,Bool.not_false,lnM,wY,hi]
  | true => rw [e1] at hi; simp (disch := first | omega | (simp only [lnA,lnC,lnN,lnM,yO,wY]; omega)) only [↓wZ,xi,↓yk,↓xJ,↓yo,↓xI,yJ,Bool.true_and,Bool.not_true,lnM,wY,hi,hw,ih]
theorem RF {c : Cd} (hf : FitsC c) : V 54 [eCd c] = some (.bool (zI c),[]) := by
 have hp := GY hf.pool hf.plen
 have h := KX hf c.list.length 0 (Nat.zero_add _)
 rw [Int.natCast_zero,lnM] at h
 rw [Tg]
 unfold zI
 cases e1 : yV c.pool with
 | false => rw [e1] at hp; simp (disch := first | omega | (simp only [lnA,lnC,lnN,lnM,yO,wY]; omega)) only [↓wZ,xi,↓yk,↓yo,↓xI,Bool.false_and,Bool.not_false,hp]
 | true =>
  rw [e1] at hp
  by_cases e2 : c.list.length <= 400
  ·by_cases e3 : c.defs.length <= 20
   ·simp (disch := first | omega | (simp only [lnA,lnC,lnN,lnM,yO,wY]; omega)) only [↓wZ,xi,↓xJ,↓yo,↓xI,yJ,yI,Bool.true_and,Bool.not_true,lnM,wY,hp,h]
   ·simp (disch := first | omega | (simp only [lnA,lnC,lnN,lnM,yO,wY]; omega)) only [↓wZ,xi,↓yk,↓xJ,↓yo,↓xI,yJ,yI,Bool.false_and,Bool.and_false,Bool.not_true,lnM,wY,hp]
  ·simp (disch := first | omega | (simp only [lnA,lnC,lnN,lnM,yO,wY]; omega)) only [↓wZ,xi,↓yk,↓xJ,↓yo,↓xI,yJ,yI,Bool.false_and,Bool.and_false,Bool.not_true,lnM,wY,hp]
theorem DZ {c : Cd} (hf : FitsC c) : V 59 [eCd c] = some (.bool (zI c),[]) := by
 have hp := zK hf.pool hf.plen
 have h := Lj hf c.list.length 0 (Nat.zero_add _)
 rw [Int.natCast_zero] at h
 rw [Tv]
 unfold zI
 cases e1 : yV c.pool with
 | false => rw [e1] at hp; simp (disch := first | omega | (simp only [lnA,lnC,lnN,lnM,yO,wY]; omega)) only [↓wZ,xi,↓yk,↓yo,↓xI,Bool.false_and,Bool.not_false,hp]
 | true =>
  rw [e1] at hp
  by_cases e2 : c.list.length <= 400
  ·by_cases e3 : c.defs.length <= 20
   ·simp (disch := first | omega | (simp only [lnA,lnC,lnN,lnM,yO,wY]; omega)) only [↓wZ,xi,↓xJ,↓yo,↓xI,yJ,yI,Bool.true_and,Bool.not_true,lnM,wY,hp,h]
   ·simp (disch := first | omega | (simp only [lnA,lnC,lnN,lnM,yO,wY]; omega)) only [↓wZ,xi,↓yk,↓xJ,↓yo,↓xI,yJ,yI,Bool.false_and,Bool.and_false,Bool.not_true,lnM,wY,hp]
  ·simp (disch := first | omega | (simp only [lnA,lnC,lnN,lnM,yO,wY]; omega)) only [↓wZ,xi,↓yk,↓xJ,↓yo,↓xI,yJ,yI,Bool.false_and,Bool.and_false,Bool.not_true,lnM,wY,hp]

structure Mc where
 pool : List Nd
 at' : Int
 s : Int
 e : Int
 d : Int
 state : Int
 ask : Int
 arg : Int
abbrev eMc (m : Mc) : D := .agg [.rs (5,0) (m.pool.map eN),iN m.at',iN m.s,iN m.e,iN m.d,iN m.state,iN m.ask,iN m.arg]
abbrev oMc (m : Mc) : D := .agg [.os (5,0) (m.pool.map eN),iN m.at',iN m.s,iN m.e,iN m.d,iN m.state,iN m.ask,iN m.arg]
def IZ (p : List Nd) (v : Int) : Bool := wi v 0 ((p.length : Int) - 1)
def JA (c : Cd) (m : Mc) : Bool :=
 if m.state = 0 then wi m.at' 0 ((c.list.length : Int) - 1) && (m.ask == 0 && m.arg == 0)
 else if m.state = 1 then wi m.at' 0 ((c.list.length : Int) - 1) && (wi m.ask 13 19 && ((m.ask != 18) && IZ m.pool m.arg))
 else if m.state = 2 then m.at' == 0 && (m.ask == 0 && IZ m.pool m.arg)
 else if m.state = 3 then m.at' == 0 && (wi m.ask 1 7 && m.arg == 0)
 else false
def CU (c : Cd) (m : Mc) : Bool := zI c && (yV m.pool && (IZ m.pool m.s && (IZ m.pool m.e && (IZ m.pool m.d && JA c m))))
theorem ZX {c : Cd} (hl : c.list.length < 4611686018427387904) (n : Int) : V 57 [eCd c,iN n] = some (.bool (wi n 0 ((c.list.length : Int) - 1)),[]) := by
 rw [Q9]
 simp (disch := first | omega | (simp only [lnA,lnC,lnN,lnM,yO,wY]; omega)) only [↓wZ,xi,↓yo,↓xI,lnM,wS,wY,zk]
theorem Og {c : Cd} (hf : FitsC c) {m : Mc} (hm : zZ m.pool) (hl : m.pool.length < 4611686018427387904) : V 14 [eCd c,eMc m] = some (.bool (CU c m),[]) := by
 have hc := RF hf
 have hp := GY hm hl
 have h1 := IP hl m.s
 have h2 := IP hl m.e
 have h3 := IP hl m.d
 have h4 := IP hl m.arg
 have h5 := ZX hf.llen m.at'
 rw [O5]
 unfold CU IZ
 cases e1 : zI c with
 | false => rw [e1] at hc; simp (disch := first | omega | (simp only [lnA,lnC,lnN,lnM,yO,wY]; omega)) only [↓wZ,xi,↓yk,↓yo,↓xI,Bool.false_and,Bool.not_false,hc]
 | true =>
 rw [e1] at hc
 cases e2 : yV m.pool with
 | false => rw [e2] at hp; simp (disch := first | omega | (simp only [lnA,lnC,lnN,lnM,yO,wY]; omega)) only [↓wZ,xi,↓yk,↓xJ,↓yo,↓xI,Bool.false_and,Bool.and_false,Bool.not_true,Bool.not_false,hc,hp]
 | true =>
 rw [e2] at hp
 cases e3 : wi m.s 0 ((m.pool.length : Int) - 1) with
 | false => rw [e3] at h1; simp (disch := first | omega | (simp only [lnA,lnC,lnN,lnM,yO,wY]; omega)) only [↓wZ,xi,↓yk,↓xJ,↓yo,↓xI,Bool.false_and,Bool.and_false,Bool.not_true,Bool.not_false,hc,hp,h1]
 | true =>
 rw [e3] at h1
 cases e4 : wi m.e 0 ((m.pool.length : Int) - 1) with
 | false => rw [e4] at h2; simp (disch := first | omega | (simp only [lnA,lnC,lnN,lnM,yO,wY]; omega)) only [↓wZ,xi,↓yk,↓xJ,↓yo,↓xI,Bool.false_and,Bool.and_false,Bool.not_true,Bool.not_false,hc,hp,h1,h2]
 | true =>
 rw [e4] at h2
 cases e5 : wi m.d 0 ((m.pool.length : Int) - 1) with
 | false => rw [e5] at h3; simp (disch := first | omega | (simp only [lnA,lnC,lnN,lnM,yO,wY]; omega)) only [↓wZ,xi,↓yk,↓xJ,↓yo,↓xI,Bool.false_and,Bool.and_false,Bool.not_true,Bool.not_false,hc,hp,h1,h2,h3]
 | true =>
 rw [e5] at h3
 unfold JA IZ
 by_cases s0 : m.state = 0
 ·rw [if_pos s0]; simp (disch := first | omega | (simp only [lnA,lnC,lnN,lnM,yO,wY]; omega)) only [↓wZ,xi,↓yk,↓xJ,↓yo,↓xI,yF,Bool.true_and,Bool.not_true,hc,hp,h1,h2,h3,h5]; simp only [zd]
 rw [if_neg s0]
 by_cases s1 : m.state = 1
 ·rw [if_pos s1]; simp (disch := first | omega | (simp only [lnA,lnC,lnN,lnM,yO,wY]; omega)) only [↓wZ,xi,↓yk,↓xJ,↓yo,↓xI,yF,yE,Bool.true_and,Bool.not_true,hc,hp,h1,h2,h3,h4,h5,zk]; simp only [zd]
 rw [if_neg s1]
 by_cases s2 : m.state = 2
 ·rw [if_pos s2]; simp (disch := first | omega | (simp only [lnA,lnC,lnN,lnM,yO,wY]; omega)) only [↓wZ,xi,↓yk,↓xJ,↓yo,↓xI,yF,yE,Bool.true_and,Bool.not_true,hc,hp,h1,h2,h3,h4]; simp only [zd]
 rw [if_neg s2]
 by_cases s3 : m.state = 3
 ·rw [if_pos s3]; simp (disch := first | omega | (simp only [lnA,lnC,lnN,lnM,yO,wY]; omega)) only [↓wZ,xi,↓yk,↓xJ,↓yo,↓xI,yF,yE,Bool.true_and,Bool.not_true,hc,hp,h1,h2,h3,zk]; simp only [zd]
 rw [if_neg s3]
 simp (disch := first | omega | (simp only [lnA,lnC,lnN,lnM,yO,wY]; omega)) only [↓wZ,xi,↓xJ,↓yo,↓xI,yE,Bool.and_false,Bool.not_true,hc,hp,h1,h2,h3]
theorem DP {c : Cd} (hf : FitsC c) {m : Mc} (hm : zZ m.pool) (hl : m.pool.length < 4611686018427387904) : V 15 [eCd c,eMc m] = some (.bool (CU c m),[]) := by
 have hll := hf.llen
 have hc := DZ hf
 have hp := zK hm hl
 have h1 := Fk hl m.s
 have h2 := Fk hl m.e
 have h3 := Fk hl m.d
 have h4 := Fk hl m.arg
 rw [O8]
 unfold CU IZ
 cases e1 : zI c with
 | false => rw [e1] at hc; simp (disch := first | omega | (simp only [lnA,lnC,lnN,lnM,yO,wY]; omega)) only [↓wZ,xi,↓yk,↓yo,↓xI,Bool.false_and,Bool.not_false,hc]
 | true =>
 rw [e1] at hc
 cases e2 : yV m.pool with
 | false => rw [e2] at hp; simp (disch := first | omega | (simp only [lnA,lnC,lnN,lnM,yO,wY]; omega)) only [↓wZ,xi,↓yk,↓xJ,↓yo,↓xI,Bool.false_and,Bool.and_false,Bool.not_true,Bool.not_false,hc,hp]
 | true =>
 rw [e2] at hp
 cases e3 : wi m.s 0 ((m.pool.length : Int) - 1) with
 | false => rw [e3] at h1; simp (disch := first | omega | (simp only [lnA,lnC,lnN,lnM,yO,wY]; omega)) only [↓wZ,xi,↓yk,↓xJ,↓yo,↓xI,Bool.false_and,Bool.and_false,Bool.not_true,Bool.not_false,hc,hp,h1]
 | true =>
 rw [e3] at h1
 cases e4 : wi m.e 0 ((m.pool.length : Int) - 1) with
 | false => rw [e4] at h2; simp (disch := first | omega | (simp only [lnA,lnC,lnN,lnM,yO,wY]; omega)) only [↓wZ,xi,↓yk,↓xJ,↓yo,↓xI,Bool.false_and,Bool.and_false,Bool.not_true,Bool.not_false,hc,hp,h1,h2]
 | true =>
 rw [e4] at h2
 cases e5 : wi m.d 0 ((m.pool.length : Int) - 1) with
 | false => rw [e5] at h3; simp (disch := first | omega | (simp only [lnA,lnC,lnN,lnM,yO,wY]; omega)) only [↓wZ,xi,↓yk,↓xJ,↓yo,↓xI,Bool.false_and,Bool.and_false,Bool.not_true,Bool.not_false,hc,hp,h1,h2,h3]
 | true =>
 rw [e5] at h3
 unfold JA IZ
 by_cases s0 : m.state = 0
 ·rw [if_pos s0]; simp (disch := first | omega | (simp only [lnA,lnC,lnN,lnM,yO,wY]; omega)) only [↓wZ,xi,↓yk,↓xJ,↓yo,↓xI,yF,Bool.true_and,Bool.not_true,lnM,wS,wY,hc,hp,h1,h2,h3,Al]; simp only [zd]
 rw [if_neg s0]
 by_cases s1 : m.state = 1
 ·rw [if_pos s1]; simp (disch := first | omega | (simp only [lnA,lnC,lnN,lnM,yO,wY]; omega)) only [↓wZ,xi,↓yk,↓xJ,↓yo,↓xI,yF,yE,Bool.true_and,Bool.not_true,lnM,wS,wY,hc,hp,h1,h2,h3,h4,Al]; simp only [zd]
 rw [if_neg s1]
 by_cases s2 : m.state = 2
 ·rw [if_pos s2]; simp (disch := first | omega | (simp only [lnA,lnC,lnN,lnM,yO,wY]; omega)) only [↓wZ,xi,↓yk,↓xJ,↓yo,↓xI,yF,yE,Bool.true_and,Bool.not_true,lnM,wS,wY,hc,hp,h1,h2,h3,h4,Al]; simp only [zd]
 rw [if_neg s2]
 by_cases s3 : m.state = 3
 ·rw [if_pos s3]; simp (disch := first | omega | (simp only [lnA,lnC,lnN,lnM,yO,wY]; omega)) only [↓wZ,xi,↓yk,↓xJ,↓yo,↓xI,yF,yE,Bool.true_and,Bool.not_true,lnM,wS,wY,hc,hp,h1,h2,h3,Al]; simp only [zd]
 rw [if_neg s3]
 simp (disch := first | omega | (simp only [lnA,lnC,lnN,lnM,yO,wY]; omega)) only [↓wZ,xi,↓xJ,↓yo,↓xI,yE,Bool.and_false,Bool.not_true,lnM,wS,wY,hc,hp,h1,h2,h3,Al]
end
end Go.Eng
/-! numbers and texts as bytes,on both sides -/
namespace Go.Eng
noncomputable section
open Go.Proofs Go.Proofs.Tryz

def zj (n : Nat) : List UInt8 := if n <= 127 then [UInt8.ofNat n] else UInt8.ofNat (n % 128 + 128) :: zj (n / 128)
termination_by n
theorem DN {n : Nat} (h : n <= 127) : zj n = [UInt8.ofNat n] := by rw [zj,if_pos h]
theorem JX {n : Nat} (h : ¬ n <= 127) : zj n = UInt8.ofNat (n % 128 + 128) :: zj (n / 128) := by rw [zj,if_neg h]
theorem WV : ∀ (k n : Nat),n < 128 ^ (k + 1) -> (zj n).length <= k + 1
 | 0,n,h => by rw [DN (by simp at h; omega)]; simp
 | k + 1,n,h => by
  by_cases h1 : n <= 127
  ·rw [DN h1]; simp
  ·rw [JX h1]
   have := WV k (n / 128) (by rw [Nat.pow_succ] at h; omega)
   simp; omega
theorem y9 {n : Nat} (h : n < 4611686018427387904) : (zj n).length <= 9 := WV 8 n (by have : (128 : Nat) ^ (8 + 1) = 9223372036854775808 := rfl; omega)
theorem abI {n : Nat} (h : n < 256) : eU (UInt8.ofNat n) = D.int .u8 (n : Int) := by
 have : (UInt8.ofNat n).toNat = n := by simp; omega
 simp only [eU,this]
theorem Pw (n : Nat) : Int.tmod (n : Int) 128 = ((n % 128 : Nat) : Int) := by rw [Int.tmod_eq_emod_of_nonneg (by omega)]; omega
theorem Y7 (n : Nat) : Int.tdiv (n : Int) 128 = ((n / 128 : Nat) : Int) := by rw [Int.tdiv_eq_ediv_of_nonneg (by omega)]; omega
theorem We {l : List UInt8} (h : l.length < 4294967296) (x : D) : decide (ni (l.map eU ++ [x]).length <= LIM) = true :=
 decide_eq_true (by rw [pE]; simp only [ni,lnA,lnM,lnC,lnN]; omega)
theorem UV {l : List UInt8} {n : Nat} (h : n < 256) : l.map eU ++ [D.int .u8 (n : Int)] = (l ++ [UInt8.ofNat n]).map eU := by
 rw [List.map_append,List.map_cons,List.map_nil,abI h]
theorem Rz : ∀ (n : Nat) (out : List UInt8),n < 4611686018427387904 -> out.length + (zj n).length < 4294967296 -> Dg (n : Int) (out.map eU) = some (.os (1,0) ((out ++ zj n).map eU),[]) := by
 intro n
 induction n using Nat.strongRecOn with
 | _ n ih =>
  intro out hn hl
  rw [LN]
  by_cases h : n <= 127
  ·rw [xb (decide_eq_false (by omega)),KE (by omega) (by omega),yu (We (by omega) _),yA,UV (by omega),DN h]
  ·rw [JX h] at hl ⊢
   rw [lnC] at hl
   have e : ((n % 128 : Nat) : Int) + 128 = ((n % 128 + 128 : Nat) : Int) := by omega
   rw [xK (decide_eq_true (by omega)),yu (by decide),Pw,w64 (by omega) (by omega),KE (by omega) (by omega),yu (We (by omega) _),yA,yu (by decide),e,UV (by omega),Y7,w64 (by omega) (by omega),ih (n / 128) (by omega) _ (by omega) (by simp; omega)]
   simp
theorem RC : ∀ (n : Nat) (out : List UInt8),n < 4611686018427387904 -> out.length + (zj n).length < 4294967296 -> Dq (n : Int) (out.map eU) = some (.os (1,0) ((out ++ zj n).map eU),[]) := by
 intro n
 induction n using Nat.strongRecOn with
 | _ n ih =>
  intro out hn hl
  rw [LP]
  by_cases h : n <= 127
  ·rw [xb (decide_eq_false (by omega)),KE (by omega) (by omega),yu (We (by omega) _),yA,UV (by omega),DN h]
  ·rw [JX h] at hl ⊢
   rw [lnC] at hl
   have e : ((n % 128 : Nat) : Int) + 128 = ((n % 128 + 128 : Nat) : Int) := by omega
   rw [xK (decide_eq_true (by omega)),yu (by decide),Pw,w64 (by omega) (by omega),KE (by omega) (by omega),yu (We (by omega) _),yA,yu (by decide),e,UV (by omega),Y7,w64 (by omega) (by omega),ih (n / 128) (by omega) _ (by omega) (by simp; omega)]
   simp
theorem Lm {n : Nat} (h : n < 4611686018427387904) : V 67 [iN (n : Int)] = some (.os (1,0) ((zj n).map eU),[]) := by
 rw [Tm,xb (decide_eq_false (by omega))]
 exact Rz n [] h (by have := y9 h; simp; omega)
theorem Lq {n : Nat} (h : n < 4611686018427387904) : V 69 [iN (n : Int)] = some (.os (1,0) ((zj n).map eU),[]) := by
 rw [TG,xb (decide_eq_false (by omega))]
 exact RC n [] h (by have := y9 h; simp; omega)
def M9 (s : List UInt8) : List UInt8 := zj s.length ++ s
theorem QO {s : List UInt8} (h : s.length < 4294967200) : V 138 [.str (mk s)] = some (.os (1,0) ((M9 s).map eU),[]) := by
 have hn := Lm (n := s.length) (by omega)
 have hp := y9 (n := s.length) (by omega)
 rw [QZ,yO]
 simp (disch := first | omega | (simp only [lnA,lnC,lnN,lnM,yO,wY]; omega)) only [↓wZ,xi,↓xP,↓yo,↓yg,↓yA,yJ,lnM,lnA,pE,wY,hn,Ir,yl]
 rfl
theorem QV {s : List UInt8} (h : s.length < 4294967200) : V 139 [.str (mk s)] = some (.os (1,0) ((M9 s).map eU),[]) := by
 have hn := Lq (n := s.length) (by omega)
 have hp := y9 (n := s.length) (by omega)
 rw [Re,yO]
 simp (disch := first | omega | (simp only [lnA,lnC,lnN,lnM,yO,wY]; omega)) only [↓wZ,xi,↓xP,↓yo,↓yg,↓yA,yJ,lnM,lnA,pE,wY,hn,Ir,yl]
 rfl

def GR : Nat -> List UInt8 -> Option (Nat × Nat)
 | 0,_ => none
 | _ + 1,[] => none
 | f + 1,d :: r => if d.toNat < 128 then (if d.toNat = 0 /\ f < 8 then none else some (d.toNat,1)) else
  match GR f r with
  | some (v,c) => some (d.toNat % 128 + 128 * v,c + 1)
  | none => none
theorem Qd : ∀ (f : Nat) (l : List UInt8) (v c : Nat),GR f l = some (v,c) -> v < 128 ^ f /\ 1 <= c /\ c <= l.length
 | 0,l,v,c,h => by cases h
 | f + 1,[],v,c,h => by cases h
 | f + 1,d :: r,v,c,h => by
  simp only [GR] at h
  have hp : 0 < 128 ^ f := Nat.pow_pos (by omega)
  split at h
  ·split at h
   ·cases h
   ·cases h
    rw [Nat.pow_succ,lnC]; omega
  ·split at h
   ·rename_i v' c' e
    cases h
    have := Qd f r v' c' e
    rw [Nat.pow_succ,lnC]; omega
   ·cases h
theorem abZ {p q k : Nat} (hp : p < 2 ^ k) (h : p + q * 2 ^ k < 9223372036854775808) : w6 (ni (BitVec.toNat (BitVec.ofInt (IntKind.bits .i64) (p : Int) ||| BitVec.ofInt (IntKind.bits .i64) ((q * 2 ^ k : Nat) : Int)))) = ((p + q * 2 ^ k : Nat) : Int) := by
 have e1 : BitVec.toNat (BitVec.ofInt (IntKind.bits .i64) (p : Int)) = p := by
  show BitVec.toNat (BitVec.ofInt 64 (p : Int)) = p
  rw [BitVec.toNat_ofInt]; omega
 have e2 : BitVec.toNat (BitVec.ofInt (IntKind.bits .i64) ((q * 2 ^ k : Nat) : Int)) = q * 2 ^ k := by
  show BitVec.toNat (BitVec.ofInt 64 ((q * 2 ^ k : Nat) : Int)) = q * 2 ^ k
  rw [BitVec.toNat_ofInt]; omega
 have e3 : p ||| q * 2 ^ k = p + q * 2 ^ k := by
  have := Nat.shiftLeft_add_eq_or_of_lt hp q
  rw [Nat.shiftLeft_eq] at this
  rw [Nat.or_comm,<- this,Nat.add_comm]
 rw [BitVec.toNat_or,e1,e2,e3]
 exact IntWalk.i64_in _ (by simp only [ni]; omega)
abbrev noN : D := .tup [iN 0,iN 0,.bool false]
def NV (b : List UInt8) (at' k acc : Nat) : D := match GR (9 - k) (b.drop (at' + k)) with
 | some (v,c) => .tup [iN ((acc + v * 128 ^ k : Nat) : Int),iN ((at' + k + c : Nat) : Int),.bool true]
 | none => noN
theorem aaM (k : Nat) : 128 ^ k = 2 ^ (7 * k) := by rw [Nat.pow_mul]
theorem Y2 {k : Nat} (h : k <= 9) : 128 ^ k <= 9223372036854775808 := by
 have : 128 ^ k <= 128 ^ 9 := Nat.pow_le_pow_right (by omega) h
 have e : (128 : Nat) ^ 9 = 9223372036854775808 := rfl
 omega
theorem VX {b : List UInt8} {at' k acc : Nat} {d : UInt8} (hd : b[at' + k]? = some d) (hk : k < 9) (h128 : ¬ d.toNat < 128) : NV b at' k acc = NV b at' (k + 1) (acc + d.toNat % 128 * 128 ^ k) := by
 unfold NV
 obtain ⟨f,hf⟩ : ∃ f,9 - k = f + 1 := ⟨8 - k,by omega⟩
 have hf2 : 9 - (k + 1) = f := by omega
 rw [hf,hf2,tU hd]
 simp only [GR,if_neg h128,Nat.add_assoc]
 cases e : GR f (b.drop (at' + (k + 1))) with
 | none => rfl
 | some p =>
  obtain ⟨v,c⟩ := p
  have e1 : acc + (d.toNat % 128 + 128 * v) * 128 ^ k = acc + (d.toNat % 128 * 128 ^ k + v * 128 ^ (k + 1)) := by
   rw [Nat.add_mul,Nat.pow_succ]
   have : 128 * v * 128 ^ k = v * (128 ^ k * 128) := by rw [Nat.mul_comm 128 v,Nat.mul_assoc,Nat.mul_comm 128]
   omega
  have e2 : k + (c + 1) = k + (1 + c) := by omega
  simp only [e1,e2]
theorem YF {b : List UInt8} {at' k acc : Nat} {d : UInt8} (hd : b[at' + k]? = some d) (hk : k < 9) (h128 : d.toNat < 128) : NV b at' k acc = if d.toNat = 0 /\ 0 < k then noN else .tup [iN ((acc + d.toNat * 128 ^ k : Nat) : Int),iN ((at' + k + 1 : Nat) : Int),.bool true] := by
 unfold NV
 obtain ⟨f,hf⟩ : ∃ f,9 - k = f + 1 := ⟨8 - k,by omega⟩
 rw [hf,tU hd]
 simp only [GR,if_pos h128]
 by_cases h : d.toNat = 0 /\ 0 < k
 ·rw [if_pos ⟨h.1,by omega⟩,if_pos h]
 ·rw [if_neg (fun h' => h ⟨h'.1,by omega⟩),if_neg h]
theorem IB {b : List UInt8} {at' k acc : Nat} (h : b.length <= at' + k \/ 9 <= k) : NV b at' k acc = noN := by
 unfold NV
 rcases h with h | h
 ·rw [List.drop_of_length_le h]
  cases 9 - k <;> rfl
 ·have : 9 - k = 0 := by omega
  rw [this]; rfl
theorem abN (d : UInt8) : d.toNat < 256 := d.toNat_lt
theorem Vu {acc k : Nat} {d : UInt8} (_ : k < 9) (ha : acc < 128 ^ k) : acc + d.toNat % 128 * 128 ^ k < 128 ^ (k + 1) := by
 have h2 : d.toNat % 128 * 128 ^ k <= 127 * 128 ^ k := Nat.mul_le_mul_right _ (by omega)
 rw [Nat.pow_succ]; omega
theorem OU {n : Int} (h1 : -9223372036854775808 <= n) (h2 : n <= 9223372036854775807) : w6 n = n := IntWalk.i64_in n (by omega)
theorem KW {b : List UInt8} (hb : b.length < 4611686018427387904) (at' : Nat) (ha : at' <= b.length) : ∀ (f k acc : Nat),f + k = 9 -> acc < 128 ^ k -> Db (b.map eU) (at' : Int) (acc : Int) (k : Int) = some (NV b at' k acc,[])
 | 0,k,acc,hk,hacc => by
  rw [Gj,xb (decide_eq_false (by omega)),IB (.inr (by omega))]
 | f + 1,k,acc,hk,hacc => by
  have hw : w6 ((at' : Int) + (k : Int)) = ((at' + k : Nat) : Int) := by rw [OU (by omega) (by omega)]; omega
  rw [Gj,xK (decide_eq_true (by omega)),hw]
  by_cases hlt : at' + k < b.length
  ·obtain ⟨d,hd⟩ := xx hlt
   have hd2 := abN d
   have h9 := Y2 (k := k + 1) (by omega)
   have hdl := Vu (d := d) (by omega) hacc
   have e7 : w6 (7 * (k : Int)) = ((7 * k : Nat) : Int) := by rw [w64 (by omega) (by omega)]; omega
   have emin : min (7 * k) (IntKind.bits .i64) = 7 * k := by
    show min (7 * k) 64 = 7 * k
    omega
   have epow : ((d.toNat % 128 : Nat) : Int) * 2 ^ (7 * k) = ((d.toNat % 128 * 2 ^ (7 * k) : Nat) : Int) := by
    rw [Int.natCast_mul,Int.natCast_pow]; rfl
   have hq : d.toNat % 128 * 2 ^ (7 * k) < 9223372036854775808 := by rw [<- aaM]; omega
   have hor := abZ (p := acc) (q := d.toNat % 128) (k := 7 * k) (by rw [<- aaM]; exact hacc) (by rw [<- aaM]; omega)
   rw [<- aaM] at hor
   rw [xK (by rw [lnM]; exact yz hlt),yu (by rw [lnM]; exact yx hlt),Int.toNat_natCast,xW hd,ye,yu (by decide),e7,yu (by simp; omega),Pw,w64 (n := ((d.toNat % 128 : Nat) : Int)) (by omega) (by omega),Int.toNat_natCast,emin,epow,OU (n := ((d.toNat % 128 * 2 ^ (7 * k) : Nat) : Int)) (by omega) (by omega),<- aaM,hor]
   have hn1 : w6 (((at' + k : Nat) : Int) + 1) = ((at' + k + 1 : Nat) : Int) := yM (by omega)
   by_cases h128 : d.toNat < 128
   ·have em : d.toNat % 128 = d.toNat := Nat.mod_eq_of_lt h128
    rw [xK (decide_eq_true (by omega)),YF hd (by omega) h128,hn1,em]
    by_cases h0 : d.toNat = 0
    ·rw [xK (by simp [h0])]
     by_cases hk0 : 0 < k
     ·rw [xK (decide_eq_true (by omega)),if_pos ⟨h0,hk0⟩]
     ·rw [xb (decide_eq_false (by omega)),if_neg (fun h => hk0 h.2)]
    ·rw [xb (by simp only [beq_eq_false_iff_ne,ne_eq]; omega),if_neg (fun h => h0 h.1)]
   ·rw [xb (decide_eq_false (by omega)),VX hd (by omega) h128,yM (by omega)]
    exact KW hb at' ha f (k + 1) _ (by omega) hdl
  ·rw [xb (by rw [lnM]; exact yr (by omega)),IB (.inl (by omega))]
theorem Li {b : List UInt8} (hb : b.length < 4611686018427387904) (at' : Nat) (ha : at' <= b.length) : ∀ (f k acc : Nat) (u : Int),f + k = 9 -> acc < 128 ^ k -> (k < 9 -> u = ((128 ^ k : Nat) : Int)) -> Dk (b.map eU) (at' : Int) (acc : Int) u (k : Int) = some (NV b at' k acc,[])
 | 0,k,acc,u,hk,hacc,hu => by
  rw [Gq,xb (decide_eq_false (by omega)),IB (.inr (by omega))]
 | f + 1,k,acc,u,hk,hacc,hu => by
  have hw : w6 ((at' : Int) + (k : Int)) = ((at' + k : Nat) : Int) := by rw [OU (by omega) (by omega)]; omega
  have hu := hu (by omega)
  subst hu
  rw [Gq,xK (decide_eq_true (by omega)),hw]
  by_cases hlt : at' + k < b.length
  ·obtain ⟨d,hd⟩ := xx hlt
   have hd2 := abN d
   have h9 := Y2 (k := k + 1) (by omega)
   have hdl := Vu (d := d) (by omega) hacc
   have ewd : w6 (d.toNat : Int) = (d.toNat : Int) := w64 (by omega) (by omega)
   have em0 : ((d.toNat % 128 : Nat) : Int) * ((128 ^ k : Nat) : Int) = ((d.toNat % 128 * 128 ^ k : Nat) : Int) := by rw [Int.natCast_mul]
   have em1 : (acc : Int) + ((d.toNat % 128 * 128 ^ k : Nat) : Int) = ((acc + d.toNat % 128 * 128 ^ k : Nat) : Int) := by omega
   rw [xK (by rw [lnM]; exact yz hlt),yu (by rw [lnM]; exact yx hlt),Int.toNat_natCast,xW hd,ye,yu (by decide),ewd,Pw,em0,OU (n := ((d.toNat % 128 * 128 ^ k : Nat) : Int)) (by omega) (by omega),em1,OU (n := ((acc + d.toNat % 128 * 128 ^ k : Nat) : Int)) (by omega) (by omega)]
   have hn1 : w6 (((at' + k : Nat) : Int) + 1) = ((at' + k + 1 : Nat) : Int) := yM (by omega)
   by_cases h128 : d.toNat < 128
   ·have em : d.toNat % 128 = d.toNat := Nat.mod_eq_of_lt h128
    rw [xK (decide_eq_true (by omega)),YF hd (by omega) h128,hn1,em]
    by_cases h0 : d.toNat = 0
    ·rw [xK (by simp [h0])]
     by_cases hk0 : 0 < k
     ·rw [xK (decide_eq_true (by omega)),if_pos ⟨h0,hk0⟩]
     ·rw [xb (decide_eq_false (by omega)),if_neg (fun h => hk0 h.2)]
    ·rw [xb (by simp only [beq_eq_false_iff_ne,ne_eq]; omega),if_neg (fun h => h0 h.1)]
   ·rw [xb (decide_eq_false (by omega)),VX hd (by omega) h128,yM (by omega)]
    refine Li hb at' ha f (k + 1) _ _ (by omega) hdl (fun h => ?_)
    have h8 : 128 ^ (k + 1) <= 128 ^ 8 := Nat.pow_le_pow_right (by omega) (by omega)
    have e8 : (128 : Nat) ^ 8 = 72057594037927936 := rfl
    have em : ((128 ^ k : Nat) : Int) * 128 = ((128 ^ (k + 1) : Nat) : Int) := by rw [Nat.pow_succ,Int.natCast_mul]; rfl
    rw [em,w64 (by omega) (by omega)]
  ·rw [xb (by rw [lnM]; exact yr (by omega)),IB (.inl (by omega))]
theorem Lk {b : List UInt8} (hb : b.length < 4611686018427387904) {at' : Nat} (ha : at' <= b.length) : V 140 [.rs (1,0) (b.map eU),iN (at' : Int)] = some (NV b at' 0 0,[]) := by
 have h := KW hb at' ha 9 0 0 rfl (by decide)
 rw [Th,lnM,w64 (n := ni b.length - 1) (by simp only [ni]; omega) (by simp only [ni]; omega)]
 by_cases hlt : at' < b.length
 ·have hwi : wi (at' : Int) 0 (ni b.length - 1) = true := wi_iff.2 ⟨by omega,by simp only [ni]; omega⟩
  rw [zi (zk _ _ _),hwi,Bool.not_true,xJ]
  exact h
 ·have hwi : wi (at' : Int) 0 (ni b.length - 1) = false := by
   cases e : wi (at' : Int) 0 (ni b.length - 1) with
   | false => rfl
   | true => have := wi_iff.1 e; simp only [ni] at this; omega
  rw [zi (zk _ _ _),hwi,Bool.not_false,yk,IB (.inl (by omega))]
theorem Lp {b : List UInt8} (hb : b.length < 4611686018427387904) {at' : Nat} (ha : at' <= b.length) : V 173 [.rs (1,0) (b.map eU),iN (at' : Int)] = some (NV b at' 0 0,[]) := by
 have h := Li hb at' ha 9 0 0 1 rfl (by decide) (fun _ => rfl)
 rw [Tw,lnM,xb (decide_eq_false (by omega))]
 by_cases hlt : at' < b.length
 ·rw [xb (decide_eq_false (by simp only [ni]; omega))]
  exact h
 ·rw [xK (decide_eq_true (by simp only [ni]; omega)),IB (.inl (by omega))]
end
end Go.Eng
/-! how great a value is,the program's side -/
namespace Go.Eng
open Go.Proofs Go.Proofs.Tryz

end Go.Eng
/-! what is moved is as it was: the plain side -/
namespace Go.Eng

noncomputable def zh (p : List Nd) : Prop := ∀ (j : Nat) (x : Nd),p[j]? = some x -> okN x j = true
theorem Sr {p : List Nd} (h : zh p) : ∀ (k i : Nat),GU p i k = true
 | 0,i => rfl
 | k + 1,i => by
  simp only [GU,Sr h k (i + 1),Bool.and_true]
  split
  ·exact h _ _ ‹_›
  ·rfl
theorem okPool_iff {p : List Nd} : yV p = true ↔ zh p /\ p.length <= 3000 := by
 constructor
 ·intro h; exact ⟨fun j x hx => Ak h hx,y0 h⟩
 ·rintro ⟨h,hl⟩
  simp only [yV,Sr h,Bool.true_and,decide_eq_true_eq]; omega
noncomputable def Z8 (q q' : List Nd) (m : List Bool) (to : List Int) : Prop := ∀ (i : Nat) (x : Nd),q[i]? = some x -> m[i]? = some true -> ∃ j : Nat,to[i]? = some (j : Int) /\ q'[j]? = some (y8 to x)
theorem Qp {pre r : List Int} {x : Nd} {i : Nat} (ho : okN x i = true) (hp : i <= pre.length) : y8 (pre ++ r) x = y8 pre x := by
 have g : ∀ n : Int,0 <= n -> n < i -> (pre ++ r).getD n.toNat 0 = pre.getD n.toNat 0 := by
  intro n h0 h1
  simp only [List.getD_eq_getElem?_getD]
  rw [List.getElem?_append_left (by omega)]
 unfold y8
 split
 ·rename_i h5
  have := Ay ho h5
  rw [g _ (by omega) (by omega),g _ (by omega) (by omega)]
 ·split
  ·rename_i h6
   have := AL ho h6
   rw [g _ (by omega) (by omega)]
  ·rfl
theorem Zx {pre : List Int} {x : Nd} {i h : Nat} (ho : okN x i = true) (h5 : x.kind = 5 -> ∃ a b : Nat,pre[x.a.toNat]? = some (a : Int) /\ pre[x.b.toNat]? = some (b : Int) /\ a < h /\ b < h)
  (h6 : x.kind = 6 \/ x.kind = 7 -> ∃ a : Nat,pre[x.a.toNat]? = some (a : Int) /\ a < h) : okN (y8 pre x) h = true := by
 by_cases k5 : x.kind = 5
 ·obtain ⟨a,b,ha,hb,h1,h2⟩ := h5 k5
  simp only [y8,k5,if_true,List.getD_eq_getElem?_getD,ha,hb,Option.getD_some]
  simp [okN,k5] at ho ⊢
  exact ⟨ho.1,ho.2.1,wi_iff.2 ⟨by omega,by omega⟩,wi_iff.2 ⟨by omega,by omega⟩⟩
 ·by_cases k6 : x.kind = 6 \/ x.kind = 7
  ·obtain ⟨a,ha,h1⟩ := h6 k6
   simp only [y8,k5,k6,if_true,if_false,List.getD_eq_getElem?_getD,ha,Option.getD_some]
   rcases k6 with k6 | k6
   ·simp [okN,k6] at ho ⊢; exact ⟨ho.1,ho.2.1,wi_iff.2 ⟨by omega,by omega⟩,ho.2.2.2⟩
   ·simp [okN,k6] at ho ⊢; exact ⟨ho.1,ho.2.1,wi_iff.2 ⟨by omega,by omega⟩,ho.2.2.2⟩
  ·have k6' : ¬ x.kind = 6 := fun h => k6 (.inl h)
   have k7' : ¬ x.kind = 7 := fun h => k6 (.inr h)
   simp only [y8,k5,k6,if_false]
   simp only [okN,k5,k6',k7',if_false] at ho ⊢
   exact ho
theorem Qn {q : List Nd} (hq : zh q) {m : List Bool} (hm : m.length = q.length) (hc : Xl q m) (d : Int) : ∀ (k : Nat) (pre : List Int) (acc : List Nd),pre.length + k = q.length -> zh acc ->
  (∀ (i : Nat) (x : Nd),i < pre.length -> q[i]? = some x -> m[i]? = some true -> ∃ j : Nat,pre[i]? = some (j : Int) /\ acc[j]? = some (y8 pre x)) ->
  zh (AI d q m k pre acc).2 /\ Z8 q (AI d q m k pre acc).2 m (AI d q m k pre acc).1
 | 0,pre,acc,hk,ha,hi => by
  simp only [AI]
  exact ⟨ha,fun i x hx hmi => hi i x (by have := aQ hx; omega) hx hmi⟩
 | k + 1,pre,acc,hk,ha,hi => by
  obtain ⟨x,hx⟩ := xx (l := q) (i := pre.length) (by omega)
  obtain ⟨b,hb⟩ := xx (l := m) (i := pre.length) (by omega)
  simp only [AI,hx,hb]
  have hox := hq _ _ hx
  have old : ∀ (u : Int) (acc' : List Nd),(∀ (j : Nat) (y : Nd),acc[j]? = some y -> acc'[j]? = some y) -> ∀ (i : Nat) (y : Nd),i < pre.length -> q[i]? = some y -> m[i]? = some true -> ∃ j : Nat,(pre ++ [u])[i]? = some (j : Int) /\ acc'[j]? = some (y8 (pre ++ [u]) y) := by
   intro u acc' hacc i y hil hy hmi
   obtain ⟨j,h1,h2⟩ := hi i y hil hy hmi
   refine ⟨j,by rw [List.getElem?_append_left hil]; exact h1,?_⟩
   rw [Qp (hq _ _ hy) (by omega)]
   exact hacc _ _ h2
  cases b with
  | false =>
   refine Qn hq hm hc d k (pre ++ [d]) acc (by simp; omega) ha ?_
   intro i y hil hy hmi
   by_cases e : i = pre.length
   ·subst e; rw [hb] at hmi; cases hmi
   ·exact old d acc (fun _ _ h => h) i y (by simp at hil; omega) hy hmi
  | true =>
   have hcx := hc _ _ hx hb
   have kid : ∀ n : Int,On m n -> 0 <= n -> n < pre.length -> ∃ a : Nat,pre[n.toNat]? = some (a : Int) /\ a < acc.length := by
    intro n hn h0 h1
    obtain ⟨y,hy⟩ := xx (l := q) (i := n.toNat) (by omega)
    obtain ⟨j,h2,h3⟩ := hi n.toNat y (by omega) hy hn
    exact ⟨j,h2,aQ h3⟩
   have hok : okN (y8 pre x) acc.length = true := Zx hox
    (fun h5 => by
     have h := Ay hox h5
     obtain ⟨a,ha1,ha2⟩ := kid x.a (hcx.1 h5).1 h.1 h.2.1
     obtain ⟨b,hb1,hb2⟩ := kid x.b (hcx.1 h5).2 h.2.2.1 h.2.2.2
     exact ⟨a,b,ha1,hb1,ha2,hb2⟩)
    (fun h6 => by
     have h := AL hox h6
     exact kid x.a (hcx.2 h6) h.1 h.2)
   have ha' : zh (acc ++ [y8 pre x]) := by
    intro j y hy
    by_cases e : j < acc.length
    ·rw [List.getElem?_append_left e] at hy; exact ha j y hy
    ·have hl := aQ hy
     have : j = acc.length := by simp at hl; omega
     subst this
     simp at hy; subst hy; exact hok
   refine Qn hq hm hc d k (pre ++ [(acc.length : Int)]) (acc ++ [y8 pre x]) (by simp; omega) ha' ?_
   intro i y hil hy hmi
   by_cases e : i = pre.length
   ·subst e; rw [hx] at hy; cases hy
    refine ⟨acc.length,by simp,?_⟩
    rw [Qp hox (Nat.le_refl _)]; simp
   ·exact old _ _ (fun j z h => by rw [List.getElem?_append_left (aQ h)]; exact h) i y (by simp at hil; omega) hy hmi
theorem Qo (d : Int) (q : List Nd) (m : List Bool) : ∀ (k : Nat) (pre : List Int) (acc : List Nd),∃ r,(AI d q m k pre acc).2 = acc ++ r
 | 0,pre,acc => ⟨[],by simp [AI]⟩
 | k + 1,pre,acc => by
  simp only [AI]
  split
  ·obtain ⟨r,h⟩ := Qo d q m k (pre ++ [(acc.length : Int)]) (acc ++ [y8 pre ‹Nd›])
   exact ⟨_,by rw [h,List.append_assoc]⟩
  ·exact Qo d q m k _ acc
theorem Qm {q acc : List Nd} (hq : yV q = true) (ha : zh acc) (rs : List Int) (d : Int) : zh (Bz d q rs acc).2 /\ Z8 q (Bz d q rs acc).2 (Bh q rs) (Bz d q rs acc).1 :=
 Qn (okPool_iff.1 hq).1 (Bw q rs) (CJ hq rs) d q.length [] acc (Nat.zero_add _) ha (fun i x h => absurd h (by simp))

theorem YP (to : List Int) (x : Nd) : (y8 to x).kind = x.kind /\ (y8 to x).n = x.n /\ (y8 to x).s = x.s := by
 unfold y8
 split
 ·exact ⟨rfl,rfl,rfl⟩
 ·split <;> exact ⟨rfl,rfl,rfl⟩
end Go.Eng
/-! what is kept is all reached,and as great as it was: the plain side -/
namespace Go.Eng

inductive Rch (q : List Nd) (rs : List Int) : Nat -> Prop
 | root {r : Int} : r ∈ rs -> Rch q rs r.toNat
 | a {i : Nat} {x : Nd} : Rch q rs i -> q[i]? = some x -> (x.kind = 5 \/ x.kind = 6 \/ x.kind = 7) -> Rch q rs x.a.toNat
 | b {i : Nat} {x : Nd} : Rch q rs i -> q[i]? = some x -> x.kind = 5 -> Rch q rs x.b.toNat
theorem Nc {m : List Bool} {i j : Nat} (h : (m.set i true)[j]? = some true) : j = i \/ m[j]? = some true := by
 by_cases e : i = j
 ·exact .inl e.symm
 ·rw [List.getElem?_set_ne e] at h; exact .inr h
theorem Ld {q : List Nd} {rs : List Int} : ∀ (k : Nat) {m : List Bool},(∀ j : Nat,m[j]? = some true -> Rch q rs j) -> ∀ j : Nat,(zB q k m)[j]? = some true -> Rch q rs j
 | 0,m,h,j,hj => h j hj
 | k + 1,m,h,j,hj => by
  simp only [zB] at hj
  refine Ld k ?_ j hj
  intro i hi
  split at hi
  ·rename_i x hx hm
   have hk := h k hm
   unfold zD at hi
   split at hi
   ·rename_i h5
    rcases Nc hi with e | hi
    ·rw [e]; exact .b hk hx h5
    ·rcases Nc hi with e | hi
     ·rw [e]; exact .a hk hx (.inl h5)
     ·exact h i hi
   ·split at hi
    ·rename_i h6
     rcases Nc hi with e | hi
     ·rw [e]; exact .a hk hx (.inr h6)
     ·exact h i hi
    ·exact h i hi
  ·exact h i hi
theorem Nb : ∀ {rs : List Int} {m : List Bool} {j : Nat},(Jl rs m)[j]? = some true -> m[j]? = some true \/ ∃ r ∈ rs,r.toNat = j
 | [],m,j,h => .inl h
 | r :: rs,m,j,h => by
  have h' : (Jl rs (m.set r.toNat true))[j]? = some true := h
  rcases Nb h' with h | ⟨s,hs,e⟩
  ·rcases Nc h with e | h
   ·exact .inr ⟨r,by simp,e.symm⟩
   ·exact .inl h
  ·exact .inr ⟨s,by simp [hs],e⟩
theorem WW {q : List Nd} {rs : List Int} {j : Nat} (h : (Bh q rs)[j]? = some true) : Rch q rs j := by
 refine Ld _ ?_ j h
 intro i hi
 rcases Nb hi with h | ⟨r,hr,e⟩
 ·rw [List.getElem?_replicate] at h
  split at h <;> cases h
 ·rw [<- e]; exact .root hr
theorem J0 {q : List Nd} (hq : yV q = true) {rs : List Int} (hr : y5 q rs = true) {j : Nat} (h : Rch q rs j) : (Bh q rs)[j]? = some true := by
 induction h with
 | root hm => exact Eu hr _ hm
 | a h hx hk ih =>
  have hc := CJ hq rs _ _ hx ih
  rcases hk with hk | hk
  ·exact (hc.1 hk).1
  ·exact hc.2 hk
 | b h hx hk ih => exact ((CJ hq rs _ _ hx ih).1 hk).2

theorem NW (d : Int) {q : List Nd} {m : List Bool} (hm : m.length = q.length) : ∀ (k : Nat) (pre : List Int) (acc : List Nd),pre.length + k = q.length ->
  (∀ j : Nat,j < acc.length -> ∃ i : Nat,m[i]? = some true /\ pre[i]? = some (j : Int)) -> ∀ j : Nat,j < (AI d q m k pre acc).2.length -> ∃ i : Nat,m[i]? = some true /\ (AI d q m k pre acc).1[i]? = some (j : Int)
 | 0,pre,acc,hk,h,j,hj => h j hj
 | k + 1,pre,acc,hk,h,j,hj => by
  obtain ⟨x,hx⟩ := xx (l := q) (i := pre.length) (by omega)
  obtain ⟨b,hb⟩ := xx (l := m) (i := pre.length) (by omega)
  simp only [AI,hx,hb] at hj ⊢
  have old : ∀ (u : Int) (j : Nat),j < acc.length -> ∃ i : Nat,m[i]? = some true /\ (pre ++ [u])[i]? = some (j : Int) := by
   intro u j hj
   obtain ⟨i,h1,h2⟩ := h j hj
   exact ⟨i,h1,by rw [List.getElem?_append_left (aQ h2)]; exact h2⟩
  cases b with
  | false => exact NW d hm k (pre ++ [d]) acc (by simp; omega) (old d) j hj
  | true =>
   refine NW d hm k (pre ++ [(acc.length : Int)]) (acc ++ [y8 pre x]) (by simp; omega) ?_ j hj
   intro i hi
   by_cases e : i < acc.length
   ·exact old _ i e
   ·have : i = acc.length := by simp at hi; omega
    subst this
    exact ⟨pre.length,hb,by simp⟩
theorem ZL {q q' : List Nd} (hq : yV q = true) {rs : List Int} (hr : y5 q rs = true) {to now : List Int} (hmv : Z8 q q' (Bh q rs) to) (hn : ∀ r ∈ rs,to.getD r.toNat 0 ∈ now) {i : Nat} (h : Rch q rs i) : ∀ j : Nat,to[i]? = some (j : Int) -> Rch q' now j := by
 have one : ∀ {i : Nat} {x : Nd},Rch q rs i -> q[i]? = some x -> ∃ j : Nat,to[i]? = some (j : Int) /\ q'[j]? = some (y8 to x) := fun h hx => hmv _ _ hx (J0 hq hr h)
 induction h with
 | root hm =>
  rename_i r
  intro j hj
  have e : to.getD r.toNat 0 = (j : Int) := by rw [List.getD_eq_getElem?_getD,hj]; rfl
  have := Rch.root (q := q') (hn r hm)
  rw [e] at this
  exact this
 | a h hx hk ih =>
  rename_i i x
  intro j hj
  obtain ⟨ji,e1,e2⟩ := one h hx
  have h' := ih ji e1
  have ea : (y8 to x).a.toNat = j := by
   rcases hk with hk | hk
   ·simp only [y8,hk,if_true,List.getD_eq_getElem?_getD,hj,Option.getD_some,Int.toNat_natCast]
   ·have h5 : ¬ x.kind = 5 := by omega
    simp only [y8,h5,hk,if_true,if_false,List.getD_eq_getElem?_getD,hj,Option.getD_some,Int.toNat_natCast]
  rw [<- ea]
  exact .a h' e2 (by rw [(YP to x).1]; exact hk)
 | b h hx hk ih =>
  rename_i i x
  intro j hj
  obtain ⟨ji,e1,e2⟩ := one h hx
  have h' := ih ji e1
  have ea : (y8 to x).b.toNat = j := by
   simp only [y8,hk,if_true,List.getD_eq_getElem?_getD,hj,Option.getD_some,Int.toNat_natCast]
  rw [<- ea]
  exact .b h' e2 (by rw [(YP to x).1]; exact hk)
noncomputable def ids (n : Nat) : List Int := (List.range n).map fun k : Nat => (k : Int)
theorem SA {n i : Nat} (h : i < n) : (ids (n))[i]? = some (i : Int) := by
 rw [ids,List.getElem?_map,List.getElem?_range h]; rfl
theorem Zw {x : Nd} {i : Nat} (ho : okN x i = true) : y8 (ids (i)) x = x := by
 have g : ∀ n : Int,0 <= n -> n < i -> (ids (i)).getD n.toNat 0 = n := by
  intro n h0 h1
  rw [List.getD_eq_getElem?_getD,SA (by omega)]
  simp; omega
 unfold y8
 split
 ·rename_i h5
  have := Ay ho h5
  rw [g _ (by omega) (by omega),g _ (by omega) (by omega)]
 ·split
  ·rename_i h6
   have := AL ho h6
   rw [g _ (by omega) (by omega)]
  ·rfl
theorem Wh (d : Int) {q : List Nd} (hq : zh q) {m : List Bool} (hm : ∀ j : Nat,j < q.length -> m[j]? = some true) : ∀ (k i : Nat),i + k = q.length ->
  AI d q m k (ids (i)) (q.take i) = (ids (q.length),q)
 | 0,i,h => by
  have : i = q.length := by omega
  subst this
  simp [AI]
 | k + 1,i,h => by
  obtain ⟨x,hx⟩ := xx (l := q) (i := i) (by omega)
  have hl : (ids (i)).length = i := by simp [ids]
  have ht : (q.take i).length = i := by simp; omega
  have ih := Wh d hq hm k (i + 1) (by omega)
  have es : ids (i + 1) = ids i ++ [(i : Int)] := by simp [ids,List.range_succ]
  rw [es,yn hx] at ih
  simp only [AI,hl,hx,hm i (by omega),ht,Zw (hq _ _ hx)]
  exact ih
theorem Qh {q : List Nd} (hq : yV q = true) {rs : List Int} (hr : y5 q rs = true) (d d' : Int) : yV (zn d q rs).1 = true /\ y5 (zn d q rs).1 (zn d q rs).2 = true /\ zn d' (zn d q rs).1 (zn d q rs).2 = zn d q rs := by
 obtain ⟨h1,h2⟩ := Qm hq (acc := []) (fun j x h => by simp at h) rs d
 have hlen := MG d q (Bh q rs) q.length [] []
 have hok : yV (Bz d q rs []).2 = true := okPool_iff.2 ⟨h1,by have := y0 hq; have := hlen; simp [Bz] at this ⊢; omega⟩
 have hto : ∀ r ∈ rs,∃ j : Nat,(Bz d q rs []).1[r.toNat]? = some (j : Int) /\ j < (Bz d q rs []).2.length := by
  intro r hm
  have hl := Gd hr r hm
  obtain ⟨x,hx⟩ := xx (l := q) (i := r.toNat) (by omega)
  obtain ⟨j,e1,e2⟩ := h2 _ x hx (Eu hr r hm)
  exact ⟨j,e1,aQ e2⟩
 have hgd : ∀ r ∈ rs,0 <= (Bz d q rs []).1.getD r.toNat 0 /\ (Bz d q rs []).1.getD r.toNat 0 < ((Bz d q rs []).2.length : Int) := by
  intro r hm
  obtain ⟨j,e1,e2⟩ := hto r hm
  rw [List.getD_eq_getElem?_getD,e1]; simp; omega
 have hri : y5 (zn d q rs).1 (zn d q rs).2 = true := by
  unfold y5 zn
  rw [List.all_map,List.all_eq_true]
  intro r hm
  have := hgd r hm
  exact wi_iff.2 ⟨this.1,by simp only; omega⟩
 refine ⟨hok,hri,?_⟩
 have hall : ∀ j : Nat,j < (zn d q rs).1.length -> (Bh (zn d q rs).1 (zn d q rs).2)[j]? = some true := by
  intro j hj
  obtain ⟨i,hi,ht⟩ := NW d (Bw q rs) q.length [] [] (Nat.zero_add _) (fun j h => by simp at h) j hj
  exact J0 hok hri (ZL hq hr h2 (fun r hm => List.mem_map.2 ⟨r,hm,rfl⟩) (WW hi) j ht)
 have hm := Wh d' (okPool_iff.1 hok).1 hall (zn d q rs).1.length 0 (Nat.zero_add _)
 have e : Bz d' (zn d q rs).1 (zn d q rs).2 [] = (ids ((zn d q rs).1.length),(zn d q rs).1) := hm
 have e2 : zn d' (zn d q rs).1 (zn d q rs).2 = ((zn d q rs).1,(zn d q rs).2.map fun r => (ids ((zn d q rs).1.length)).getD r.toNat 0) := by
  show (_,_) = _
  rw [e]
 rw [e2]
 refine Prod.ext rfl ?_
 show List.map _ (zn d q rs).2 = (zn d q rs).2
 have : ∀ r ∈ (zn d q rs).2,(ids ((zn d q rs).1.length)).getD r.toNat 0 = r := by
  intro r hm
  have := Gd hri r hm
  rw [List.getD_eq_getElem?_getD,SA (by omega)]
  simp; omega
 rw [List.map_congr_left this,List.map_id']
end Go.Eng
/-! nodes as bytes,on both sides -/
namespace Go.Eng
noncomputable section
open Go.Proofs Go.Proofs.Tryz
set_option maxHeartbeats 4000000

theorem zx {z : Int} (h0 : 0 <= z) (h1 : z < 4611686018427387904) : V 67 [iN z] = some (.os (1,0) ((zj z.toNat).map eU),[]) := by
 obtain ⟨n,rfl⟩ := Int.eq_ofNat_of_zero_le h0
 exact Lm (by omega)
theorem zy {z : Int} (h0 : 0 <= z) (h1 : z < 4611686018427387904) : V 69 [iN z] = some (.os (1,0) ((zj z.toNat).map eU),[]) := by
 obtain ⟨n,rfl⟩ := Int.eq_ofNat_of_zero_le h0
 exact Lq (by omega)
theorem Nu (s : ByteArray) : s.data.toList.length = s.size := by rw [Array.length_toList]; rfl
theorem Pg {s : ByteArray} (h : s.size < 4294967200) : V 138 [.str s] = some (.os (1,0) ((M9 s.data.toList).map eU),[]) := by
 have := QO (s := s.data.toList) (by rw [Nu]; exact h)
 rw [Ql] at this
 exact this
theorem Pi {s : ByteArray} (h : s.size < 4294967200) : V 139 [.str s] = some (.os (1,0) ((M9 s.data.toList).map eU),[]) := by
 have := QV (s := s.data.toList) (by rw [Nu]; exact h)
 rw [Ql] at this
 exact this
def zU (x : Nd) : List UInt8 := zj x.kind.toNat ++
 (if x.kind = 2 \/ x.kind = 8 \/ x.kind = 9 then zj x.n.toNat
 else if x.kind = 3 then zj (x.n + 1000000000).toNat
 else if x.kind = 4 then M9 x.s.data.toList
 else if x.kind = 5 then zj x.a.toNat ++ zj x.b.toNat
 else if x.kind = 6 then zj x.n.toNat ++ zj x.a.toNat
 else if x.kind = 7 then zj x.a.toNat else [])
theorem UG {x : Nd} (h : x.kind = 1) : zU x = zj x.kind.toNat := by simp [zU,h]
theorem CQ {x : Nd} (h : x.kind = 2 \/ x.kind = 8 \/ x.kind = 9) : zU x = zj x.kind.toNat ++ zj x.n.toNat := by simp [zU,h]
theorem Pn {x : Nd} (h : x.kind = 3) : zU x = zj x.kind.toNat ++ zj (x.n + 1000000000).toNat := by simp [zU,h]
theorem Po {x : Nd} (h : x.kind = 4) : zU x = zj x.kind.toNat ++ M9 x.s.data.toList := by simp [zU,h]
theorem Pp {x : Nd} (h : x.kind = 5) : zU x = zj x.kind.toNat ++ zj x.a.toNat ++ zj x.b.toNat := by simp [zU,h]
theorem Pq {x : Nd} (h : x.kind = 6) : zU x = zj x.kind.toNat ++ zj x.n.toNat ++ zj x.a.toNat := by simp [zU,h]
theorem Pt {x : Nd} (h : x.kind = 7) : zU x = zj x.kind.toNat ++ zj x.a.toNat := by simp [zU,h]
structure NdOk (x : Nd) (i : Nat) : Prop where
 k1 : 1 <= x.kind
 k9 : x.kind <= 9
 n3 : -1000000000 <= x.n
 n9 : x.n <= 1000000000
 n0 : x.kind ≠ 3 -> 0 <= x.n
 a0 : 0 <= x.a
 a1 : x.a <= i
 b0 : 0 <= x.b
 b1 : x.b <= i
 s4 : x.s.size <= 12
theorem Jh {x : Nd} {h : Int} (ho : okN x h = true) (h4 : ¬ x.kind = 4) : x.s.size = 0 := by
 have hz : nz x.s = true := by
  unfold okN at ho
  simp only [h4,if_false] at ho
  repeat' split at ho
  all_goals (first | (simp only [Bool.and_eq_true] at ho; exact ho.2.1) | (cases ho))
 rw [nz,Bv] at hz
 rw [of_decide_eq_true hz]; rfl
theorem Kx {x : Nd} {i : Nat} (ho : okN x i = true) : NdOk x i := by
 have hk := aaI ho
 have hs : x.s.size <= 12 := by
  by_cases h4 : x.kind = 4
  ·exact aaD (aaJ ho h4)
  ·rw [Jh ho h4]; omega
 have rest : (-1000000000 <= x.n /\ x.n <= 1000000000) /\ (x.kind ≠ 3 -> 0 <= x.n) /\ (0 <= x.a /\ x.a <= i) /\ (0 <= x.b /\ x.b <= i) := by
  unfold okN at ho
  repeat' split at ho
  all_goals (try simp only [Bool.and_eq_true,wi,decide_eq_true_eq,beq_iff_eq] at ho)
  all_goals (first | (cases ho; done) | (refine ⟨⟨?_,?_⟩,fun _ => ?_,⟨?_,?_⟩,⟨?_,?_⟩⟩ <;> omega))
 exact ⟨hk.1,hk.2,rest.1.1,rest.1.2,rest.2.1,rest.2.2.1.1,rest.2.2.1.2,rest.2.2.2.1,rest.2.2.2.2,hs⟩
def DA (p : List Nd) : List UInt8 := zj p.length ++ p.flatMap zU
theorem QD {s : List UInt8} (h : s.length < 4611686018427387904) : (M9 s).length <= 9 + s.length := by
 have := y9 h
 simp only [M9,lnA]; omega
theorem NY {x : Nd} {i : Nat} (ho : okN x i = true) (hi : i <= 3000) : (zU x).length <= 30 := by
 obtain ⟨k1,k9,n3,n9,n0,a0,a1,b0,b1,s4⟩ := Kx ho
 have l1 := y9 (n := x.kind.toNat) (by omega)
 have l2 := y9 (n := x.n.toNat) (by omega)
 have l3 := y9 (n := (x.n + 1000000000).toNat) (by omega)
 have l4 := y9 (n := x.a.toNat) (by omega)
 have l5 := y9 (n := x.b.toNat) (by omega)
 have e : x.s.data.toList.length = x.s.size := by rw [Array.length_toList]; rfl
 have l6 := QD (s := x.s.data.toList) (by omega)
 unfold zU
 repeat' split
 all_goals (simp only [lnA,lnN]; omega)
theorem JO {p : List Nd} (hp : yV p = true) : ∀ (k i : Nat) (out : List UInt8),i + k = p.length -> out.length <= 9 + 30 * i -> yU (p.map eN) (ni (p.map eN).length) (i : Int) (out.map eU) = some (.os (1,0) ((out ++ (p.drop i).flatMap zU).map eU),[])
 | 0,i,out,hi,ho => by
  have hl := y0 hp
  rw [D4,List.drop_of_length_le (by omega)]
  simp (disch := first | omega | (simp only [lnA,lnC,lnN,lnM,yO,wY]; omega)) only [↓xJ,yI,lnM,wY,List.flatMap_nil,List.append_nil]
 | k + 1,i,out,hi,ho => by
  have hl := y0 hp
  obtain ⟨x,hx⟩ := xx (l := p) (i := i) (by omega)
  have hok := Ak hp hx
  have hlen := NY hok (by omega)
  obtain ⟨k1,k9,n3,n9,n0,a0,a1,b0,b1,s4⟩ := Kx hok
  have l1 := y9 (n := x.kind.toNat) (by omega)
  have l2 := y9 (n := x.n.toNat) (by omega)
  have l3 := y9 (n := (x.n + 1000000000).toNat) (by omega)
  have l4 := y9 (n := x.a.toNat) (by omega)
  have l5 := y9 (n := x.b.toNat) (by omega)
  have e : x.s.data.toList.length = x.s.size := by rw [Array.length_toList]; rfl
  have l6 := QD (s := x.s.data.toList) (by omega)
  have ih := JO hp k (i + 1) (out ++ zU x) (by omega) (by simp only [lnA]; omega)
  have hw : w6 ((i : Int) + 1) = ((i + 1 : Nat) : Int) := yM (by omega)
  have ed : out ++ (p.drop i).flatMap zU = out ++ zU x ++ (p.drop (i + 1)).flatMap zU := by rw [tU hx,List.flatMap_cons,List.append_assoc]
  rw [ed,D4]
  rw [lnM] at ih ⊢
  have hk : x.kind = 1 \/ x.kind = 2 \/ x.kind = 3 \/ x.kind = 4 \/ x.kind = 5 \/ x.kind = 6 \/ x.kind = 7 \/ x.kind = 8 \/ x.kind = 9 := by omega
  rcases hk with h | h | h | h | h | h | h | h | h
  ·rw [UG h] at ih ⊢; simp (disch := first | omega | (simp only [lnA,lnC,lnN,lnM,yO,wY]; omega)) only [↓wZ,xi,↓yk,↓xJ,↓xP,↓yo,↓yb,↓ye,↓yi,↓yg,↓xu,↓yA,↓xX,yJ,yE,Bool.and_true,lnM,lnA,pE,wY,↓xW hx,zx,yl,hw]; exact ih
  ·rw [CQ (.inl h),<- List.append_assoc] at ih ⊢; simp (disch := first | omega | (simp only [lnA,lnC,lnN,lnM,yO,wY]; omega)) only [↓wZ,xi,↓yk,↓xP,↓yo,↓yb,↓ye,↓yi,↓yg,↓xu,↓yA,↓xX,yJ,yF,Bool.and_true,lnM,lnA,pE,wY,↓xW hx,zx,yl,hw]; exact ih
  ·rw [Pn h,<- List.append_assoc] at ih ⊢; simp (disch := first | omega | (simp only [lnA,lnC,lnN,lnM,yO,wY]; omega)) only [↓wZ,xi,↓yk,↓xJ,↓xP,↓yo,↓yb,↓ye,↓yi,↓yg,↓xu,↓yA,↓xX,yJ,yF,yE,Bool.and_true,lnM,lnA,pE,wS,wY,↓xW hx,zx,yl,hw]; exact ih
  ·rw [Po h,<- List.append_assoc] at ih ⊢; simp (disch := first | omega | (simp only [lnA,lnC,lnN,lnM,yO,wY]; omega)) only [↓wZ,xi,↓yk,↓xJ,↓xP,↓yo,↓yb,↓ye,↓yi,↓yg,↓xu,↓yA,↓xX,yJ,yF,yE,Bool.and_true,lnM,lnA,pE,wY,↓xW hx,zx,Pg,yl,hw]; exact ih
  ·rw [Pp h,<- List.append_assoc,<- List.append_assoc] at ih ⊢; simp (disch := first | omega | (simp only [lnA,lnC,lnN,lnM,yO,wY]; omega)) only [↓wZ,xi,↓yk,↓xJ,↓xP,↓yo,↓yb,↓ye,↓yi,↓yg,↓xu,↓yA,↓xX,yJ,yF,yE,Bool.and_true,lnM,lnA,pE,wY,↓xW hx,zx,yl,hw]; exact ih
  ·rw [Pq h,<- List.append_assoc,<- List.append_assoc] at ih ⊢; simp (disch := first | omega | (simp only [lnA,lnC,lnN,lnM,yO,wY]; omega)) only [↓wZ,xi,↓yk,↓xJ,↓xP,↓yo,↓yb,↓ye,↓yi,↓yg,↓xu,↓yA,↓xX,yJ,yF,yE,Bool.and_true,lnM,lnA,pE,wY,↓xW hx,zx,yl,hw]; exact ih
  ·rw [Pt h,<- List.append_assoc] at ih ⊢; simp (disch := first | omega | (simp only [lnA,lnC,lnN,lnM,yO,wY]; omega)) only [↓wZ,xi,↓yk,↓xJ,↓xP,↓yo,↓yb,↓ye,↓yi,↓yg,↓xu,↓yA,↓xX,yJ,yF,yE,Bool.and_true,lnM,lnA,pE,wY,↓xW hx,zx,yl,hw]; exact ih
  ·rw [CQ (.inr (.inl h)),<- List.append_assoc] at ih ⊢; simp (disch := first | omega | (simp only [lnA,lnC,lnN,lnM,yO,wY]; omega)) only [↓wZ,xi,↓yk,↓xJ,↓xP,↓yo,↓yb,↓ye,↓yi,↓yg,↓xu,↓yA,↓xX,yJ,yF,yE,Bool.and_true,lnM,lnA,pE,wY,↓xW hx,zx,yl,hw]; exact ih
  ·rw [CQ (.inr (.inr h)),<- List.append_assoc] at ih ⊢; simp (disch := first | omega | (simp only [lnA,lnC,lnN,lnM,yO,wY]; omega)) only [↓wZ,xi,↓yk,↓xJ,↓xP,↓yo,↓yb,↓ye,↓yi,↓yg,↓xu,↓yA,↓xX,yJ,yF,yE,Bool.and_true,lnM,lnA,pE,wY,↓xW hx,zx,yl,hw]; exact ih
theorem J9 {p : List Nd} (hp : yV p = true) : ∀ (k i : Nat) (out : List UInt8),i + k = p.length -> out.length <= 9 + 30 * i -> yW (i : Int) (p.map eN) (out.map eU) = some (.os (1,0) ((out ++ (p.drop i).flatMap zU).map eU),[])
 | 0,i,out,hi,ho => by
  have hl := y0 hp
  rw [FG,List.drop_of_length_le (by omega)]
  simp (disch := first | omega | (simp only [lnA,lnC,lnN,lnM,yO,wY]; omega)) only [↓xJ,yI,lnM,wY,List.flatMap_nil,List.append_nil]
 | k + 1,i,out,hi,ho => by
  have hl := y0 hp
  obtain ⟨x,hx⟩ := xx (l := p) (i := i) (by omega)
  have hok := Ak hp hx
  have hlen := NY hok (by omega)
  obtain ⟨k1,k9,n3,n9,n0,a0,a1,b0,b1,s4⟩ := Kx hok
  have l1 := y9 (n := x.kind.toNat) (by omega)
  have l2 := y9 (n := x.n.toNat) (by omega)
  have l3 := y9 (n := (x.n + 1000000000).toNat) (by omega)
  have l4 := y9 (n := x.a.toNat) (by omega)
  have l5 := y9 (n := x.b.toNat) (by omega)
  have e : x.s.data.toList.length = x.s.size := by rw [Array.length_toList]; rfl
  have l6 := QD (s := x.s.data.toList) (by omega)
  have ih := J9 hp k (i + 1) (out ++ zU x) (by omega) (by simp only [lnA]; omega)
  have hw : w6 ((i : Int) + 1) = ((i + 1 : Nat) : Int) := yM (by omega)
  have ed : out ++ (p.drop i).flatMap zU = out ++ zU x ++ (p.drop (i + 1)).flatMap zU := by rw [tU hx,List.flatMap_cons,List.append_assoc]
  rw [ed,FG]
  have hk : x.kind = 1 \/ x.kind = 2 \/ x.kind = 3 \/ x.kind = 4 \/ x.kind = 5 \/ x.kind = 6 \/ x.kind = 7 \/ x.kind = 8 \/ x.kind = 9 := by omega
  rcases hk with h | h | h | h | h | h | h | h | h
  ·rw [UG h] at ih ⊢; simp (disch := first | omega | (simp only [lnA,lnC,lnN,lnM,yO,wY]; omega)) only [↓wZ,xi,↓yk,↓xJ,↓xP,↓yo,↓yb,↓ye,↓yi,↓yg,↓xu,↓yA,↓xX,yJ,yE,Bool.and_true,lnM,lnA,pE,wY,↓xW hx,zy,yl,hw]; exact ih
  ·rw [CQ (.inl h),<- List.append_assoc] at ih ⊢; simp (disch := first | omega | (simp only [lnA,lnC,lnN,lnM,yO,wY]; omega)) only [↓wZ,xi,↓yk,↓xP,↓yo,↓yb,↓ye,↓yi,↓yg,↓xu,↓yA,↓xX,yJ,yF,Bool.and_true,lnM,lnA,pE,wY,↓xW hx,zy,yl,hw]; exact ih
  ·rw [Pn h,<- List.append_assoc] at ih ⊢; simp (disch := first | omega | (simp only [lnA,lnC,lnN,lnM,yO,wY]; omega)) only [↓wZ,xi,↓yk,↓xJ,↓xP,↓yo,↓yb,↓ye,↓yi,↓yg,↓xu,↓yA,↓xX,yJ,yF,yE,Bool.and_true,lnM,lnA,pE,wS,wY,↓xW hx,zy,yl,hw]; exact ih
  ·rw [Po h,<- List.append_assoc] at ih ⊢; simp (disch := first | omega | (simp only [lnA,lnC,lnN,lnM,yO,wY]; omega)) only [↓wZ,xi,↓yk,↓xJ,↓xP,↓yo,↓yb,↓ye,↓yi,↓yg,↓xu,↓yA,↓xX,yJ,yF,yE,Bool.and_true,lnM,lnA,pE,wY,↓xW hx,zy,Pi,yl,hw]; exact ih
  ·rw [Pp h,<- List.append_assoc,<- List.append_assoc] at ih ⊢; simp (disch := first | omega | (simp only [lnA,lnC,lnN,lnM,yO,wY]; omega)) only [↓wZ,xi,↓yk,↓xJ,↓xP,↓yo,↓yb,↓ye,↓yi,↓yg,↓xu,↓yA,↓xX,yJ,yF,yE,Bool.and_true,lnM,lnA,pE,wY,↓xW hx,zy,yl,hw]; exact ih
  ·rw [Pq h,<- List.append_assoc,<- List.append_assoc] at ih ⊢; simp (disch := first | omega | (simp only [lnA,lnC,lnN,lnM,yO,wY]; omega)) only [↓wZ,xi,↓yk,↓xJ,↓xP,↓yo,↓yb,↓ye,↓yi,↓yg,↓xu,↓yA,↓xX,yJ,yF,yE,Bool.and_true,lnM,lnA,pE,wY,↓xW hx,zy,yl,hw]; exact ih
  ·rw [Pt h,<- List.append_assoc] at ih ⊢; simp (disch := first | omega | (simp only [lnA,lnC,lnN,lnM,yO,wY]; omega)) only [↓wZ,xi,↓yk,↓xJ,↓xP,↓yo,↓yb,↓ye,↓yi,↓yg,↓xu,↓yA,↓xX,yJ,yF,yE,Bool.and_true,lnM,lnA,pE,wY,↓xW hx,zy,yl,hw]; exact ih
  ·rw [CQ (.inr (.inl h)),<- List.append_assoc] at ih ⊢; simp (disch := first | omega | (simp only [lnA,lnC,lnN,lnM,yO,wY]; omega)) only [↓wZ,xi,↓yk,↓xJ,↓xP,↓yo,↓yb,↓ye,↓yi,↓yg,↓xu,↓yA,↓xX,yJ,yF,yE,Bool.and_true,lnM,lnA,pE,wY,↓xW hx,zy,yl,hw]; exact ih
  ·rw [CQ (.inr (.inr h)),<- List.append_assoc] at ih ⊢; simp (disch := first | omega | (simp only [lnA,lnC,lnN,lnM,yO,wY]; omega)) only [↓wZ,xi,↓yk,↓xJ,↓xP,↓yo,↓yb,↓ye,↓yi,↓yg,↓xu,↓yA,↓xX,yJ,yF,yE,Bool.and_true,lnM,lnA,pE,wY,↓xW hx,zy,yl,hw]; exact ih
theorem Qa {p : List Nd} (hp : yV p = true) : (DA p).length <= 100000 := by
 have hl := y0 hp
 have h1 := y9 (n := p.length) (by omega)
 have h2 : ∀ l : List Nd,(∀ x ∈ l,(zU x).length <= 30) -> (l.flatMap zU).length <= 30 * l.length := by
  intro l
  induction l with
  | nil => intro _; simp
  | cons x l ih =>
   intro h
   have := ih (fun y hy => h y (by simp [hy]))
   have := h x (by simp)
   simp only [List.flatMap_cons,lnA,lnC]; omega
 have h3 := h2 p (fun x hx => by
  obtain ⟨j,hj⟩ := List.getElem?_of_mem hx
  have := aQ hj
  exact NY (Ak hp hj) (by omega))
 simp only [DA,lnA]; omega
theorem Xc {p : List Nd} (hp : yV p = true) : V 68 [eP p] = some (.os (1,0) ((DA p).map eU),[]) := by
 have hl := y0 hp
 have h := JO hp p.length 0 (zj p.length) (Nat.zero_add _) (y9 (by omega))
 rw [lnM,List.drop_zero,Int.natCast_zero] at h
 rw [O6]
 simp (disch := first | omega | (simp only [lnA,lnC,lnN,lnM,yO,wY]; omega)) only [↓wZ,xi,↓yo,↓yg,lnM,wY,zx,Int.toNat_natCast]
 exact h
theorem Z3 {p : List Nd} (hp : yV p = true) : V 70 [eP p] = some (.os (1,0) ((DA p).map eU),[]) := by
 have hl := y0 hp
 have h := J9 hp p.length 0 (zj p.length) (Nat.zero_add _) (y9 (by omega))
 rw [List.drop_zero,Int.natCast_zero] at h
 rw [Rx]
 simp (disch := first | omega | (simp only [lnA,lnC,lnN,lnM,yO,wY]; omega)) only [↓wZ,xi,↓yo,↓yg,lnM,wY,zy,Int.toNat_natCast]
 exact h
def Eo (r : Option (List UInt8)) : D := match r with | some l => .tup [.str (mk l),.bool true] | none => .tup [.str ⟨#[]⟩,.bool false]
end
end Go.Eng
/-! tidying,and machines as bytes,on both sides -/
namespace Go.Eng
noncomputable section
open Go.Proofs Go.Proofs.Tryz
set_option maxHeartbeats 4000000

theorem Yk {p : List Nd} (hl : p.length <= 4294967296) : V 131 [eP p] = some (oP p,[]) := by
 have h : V 181 [.rs (5,0) (p.map eN)] = some (.os (5,0) (p.map eN),[]) := by
  rw [C9,List.nil_append,yu (decide_eq_true (by rw [pE,lnM]; simp only [ni]; omega)),yA]
  exact xg _ _
 rw [PN]
 simp (disch := first | omega | (simp only [lnA,lnC,lnN,lnM,yO,wY]; omega)) only [↓wZ,xi,↓yo,↓yg,h]
theorem QQ {p : List Nd} (hl : p.length <= 4294967296) : V 147 [eP p] = some (oP p,[]) := by
 rw [Mo,List.nil_append]
 simp (disch := first | omega | (simp only [lnA,lnC,lnN,lnM,yO,wY]; omega)) only [↓xP,↓yA,yJ,lnM,pE,wY]
theorem RE {m : Mc} (hl : m.pool.length <= 4294967296) : V 63 [eMc m] = some (oMc m,[]) := by
 rw [Mg]
 simp (disch := first | omega | (simp only [lnA,lnC,lnN,lnM,yO,wY]; omega)) only [↓wZ,xi,↓yo,↓yb,↓yg,↓xu,Yk hl]
theorem Kg {m : Mc} (hl : m.pool.length <= 4294967296) : V 85 [eMc m] = some (oMc m,[]) := by
 rw [Ug]
 simp (disch := first | omega | (simp only [lnA,lnC,lnN,lnM,yO,wY]; omega)) only [↓wZ,xi,↓yo,↓yb,↓yg,↓xu,QQ hl]
def holds (m : Mc) : Bool := decide (m.state = 1 \/ m.state = 2)
def yZ (m : Mc) : List Int := if holds m = true then [m.s,m.e,m.d,m.arg] else [m.s,m.e,m.d]
def tf (m : Mc) (r : Int) : Int := (Bz (-1) m.pool (yZ m) []).1.getD r.toNat 0
def yX (m : Mc) : Mc := if yV m.pool = true /\ y5 m.pool (yZ m) = true then
  ⟨(zn (-1) m.pool (yZ m)).1,m.at',tf m m.s,tf m m.e,tf m m.d,m.state,m.ask,if holds m = true then tf m m.arg else m.arg⟩ else m
theorem Jm (m : Mc) : (yZ m).length <= 4 := by unfold yZ; split <;> simp
theorem OQ {m : Mc} (hf : zZ m.pool) (hl : m.pool.length <= 4294967296) : V 18 [eMc m] = some (oMc (yX m),[]) := by
 have hr := Z4 hf (by omega) (l := yZ m) (by have := Jm m; omega)
 have hc := RE hl
 have hk : ∀ h1 : yV m.pool = true,∀ h2 : y5 m.pool (yZ m) = true,_ := fun h1 h2 => ab6 h1 (rs := yZ m) (by have := Jm m; omega) h2
 rw [XA]
 unfold yX
 by_cases h : yV m.pool = true /\ y5 m.pool (yZ m) = true
 ·rw [if_pos h]
  have hk := hk h.1 h.2
  rw [h.1,h.2] at hr
  unfold yZ holds at hr hk
  by_cases s1 : m.state = 1
  ·rw [if_pos (by simp [s1])] at hr hk
   have e : holds m = true := by simp [holds,s1]
   rw [if_pos e]
   have e2 : yZ m = [m.s,m.e,m.d,m.arg] := by rw [yZ,if_pos e]
   unfold tf
   rw [e2]
   simp only [zn,List.map_cons,List.map_nil] at hr hk ⊢
   simp (disch := first | omega | (simp only [lnA,lnC,lnN,lnM,yO,wY]; omega)) only [↓wZ,xi,↓yk,↓xJ,↓xP,↓yo,↓yb,↓ye,↓xI,↓yg,↓xu,↓xw,↓xz,↓xA,↓xB,↓xC,xz,xA,xB,xC,yJ,yF,Bool.and_true,Bool.not_true,lnC,lnN,pE,wY,hr,hk]
  by_cases s2 : m.state = 2
  ·rw [if_pos (by simp [s2])] at hr hk
   have e : holds m = true := by simp [holds,s2]
   rw [if_pos e]
   have e2 : yZ m = [m.s,m.e,m.d,m.arg] := by rw [yZ,if_pos e]
   unfold tf
   rw [e2]
   simp only [zn,List.map_cons,List.map_nil] at hr hk ⊢
   simp (disch := first | omega | (simp only [lnA,lnC,lnN,lnM,yO,wY]; omega)) only [↓wZ,xi,↓yk,↓xJ,↓xP,↓yo,↓yb,↓ye,↓xI,↓yg,↓xu,↓xw,↓xz,↓xA,↓xB,↓xC,xz,xA,xB,xC,yJ,yF,yE,Bool.and_true,Bool.not_true,lnC,lnN,pE,wY,hr,hk]
  ·rw [if_neg (by simp [s1,s2])] at hr hk
   have e : ¬ holds m = true := by simp [holds,s1,s2]
   rw [if_neg e]
   have e2 : yZ m = [m.s,m.e,m.d] := by rw [yZ,if_neg e]
   unfold tf
   rw [e2]
   simp only [zn,List.map_cons,List.map_nil] at hr hk ⊢
   simp (disch := first | omega | (simp only [lnA,lnC,lnN,lnM,yO,wY]; omega)) only [↓wZ,xi,↓xJ,↓xP,↓yo,↓yb,↓ye,↓xI,↓yg,↓xu,↓xw,↓xz,↓xA,↓xB,xz,xA,xB,yJ,yE,Bool.and_true,Bool.not_true,lnC,lnN,wY,hr,hk]
 ·rw [if_neg h]
  have e : (yV m.pool && y5 m.pool (yZ m)) = false := by
   cases h1 : yV m.pool <;> cases h2 : y5 m.pool (yZ m) <;> first | rfl | exact absurd ⟨h1,h2⟩ h
  rw [e] at hr
  unfold yZ holds at hr
  by_cases s1 : m.state = 1
  ·rw [if_pos (by simp [s1])] at hr
   simp only [List.map_cons,List.map_nil] at hr
   simp (disch := first | omega | (simp only [lnA,lnC,lnN,lnM,yO,wY]; omega)) only [↓wZ,xi,↓yk,↓xP,↓yo,↓yb,↓ye,↓xI,↓yg,↓xu,yJ,yF,Bool.not_false,pE,wY,hr,hc]
  by_cases s2 : m.state = 2
  ·rw [if_pos (by simp [s2])] at hr
   simp only [List.map_cons,List.map_nil] at hr
   simp (disch := first | omega | (simp only [lnA,lnC,lnN,lnM,yO,wY]; omega)) only [↓wZ,xi,↓yk,↓xJ,↓xP,↓yo,↓yb,↓ye,↓xI,↓yg,↓xu,yJ,yF,yE,Bool.not_false,pE,wY,hr,hc]
  ·rw [if_neg (by simp [s1,s2])] at hr
   simp only [List.map_cons,List.map_nil] at hr
   simp (disch := first | omega | (simp only [lnA,lnC,lnN,lnM,yO,wY]; omega)) only [↓wZ,xi,↓yk,↓xJ,↓yo,↓yb,↓ye,↓xI,↓yg,↓xu,yE,Bool.not_false,hr,hc]
theorem Xg {m : Mc} (hf : zZ m.pool) (hl : m.pool.length <= 4294967296) : V 28 [eMc m] = some (oMc (yX m),[]) := by
 have hr := ZZ hf (by omega) (l := yZ m) (by have := Jm m; omega)
 have hc := Kg hl
 have hk : ∀ h1 : yV m.pool = true,∀ h2 : y5 m.pool (yZ m) = true,_ := fun h1 h2 => aa2 h1 (rs := yZ m) (by have := Jm m; omega) h2
 rw [XF]
 unfold yX
 by_cases h : yV m.pool = true /\ y5 m.pool (yZ m) = true
 ·rw [if_pos h]
  have hk := hk h.1 h.2
  rw [XM h.1 h.2 0 (-1)] at hk
  rw [h.1,h.2] at hr
  unfold yZ holds at hr hk
  by_cases s1 : m.state = 1
  ·rw [if_pos (by simp [s1])] at hr hk
   have e : holds m = true := by simp [holds,s1]
   rw [if_pos e]
   have e2 : yZ m = [m.s,m.e,m.d,m.arg] := by rw [yZ,if_pos e]
   unfold tf
   rw [e2]
   simp only [zn,List.map_cons,List.map_nil] at hr hk ⊢
   simp (disch := first | omega | (simp only [lnA,lnC,lnN,lnM,yO,wY]; omega)) only [↓wZ,xi,↓yk,↓xJ,↓xP,↓yo,↓yb,↓ye,↓xI,↓yg,↓xu,↓xw,↓xz,↓xA,↓xB,↓xC,xz,xA,xB,xC,yJ,yF,Bool.and_true,Bool.not_true,lnC,lnN,pE,wY,hr,hk]
  by_cases s2 : m.state = 2
  ·rw [if_pos (by simp [s2])] at hr hk
   have e : holds m = true := by simp [holds,s2]
   rw [if_pos e]
   have e2 : yZ m = [m.s,m.e,m.d,m.arg] := by rw [yZ,if_pos e]
   unfold tf
   rw [e2]
   simp only [zn,List.map_cons,List.map_nil] at hr hk ⊢
   simp (disch := first | omega | (simp only [lnA,lnC,lnN,lnM,yO,wY]; omega)) only [↓wZ,xi,↓yk,↓xJ,↓xP,↓yo,↓yb,↓ye,↓xI,↓yg,↓xu,↓xw,↓xz,↓xA,↓xB,↓xC,xz,xA,xB,xC,yJ,yF,yE,Bool.and_true,Bool.not_true,lnC,lnN,pE,wY,hr,hk]
  ·rw [if_neg (by simp [s1,s2])] at hr hk
   have e : ¬ holds m = true := by simp [holds,s1,s2]
   rw [if_neg e]
   have e2 : yZ m = [m.s,m.e,m.d] := by rw [yZ,if_neg e]
   unfold tf
   rw [e2]
   simp only [zn,List.map_cons,List.map_nil] at hr hk ⊢
   simp (disch := first | omega | (simp only [lnA,lnC,lnN,lnM,yO,wY]; omega)) only [↓wZ,xi,↓xJ,↓xP,↓yo,↓yb,↓ye,↓xI,↓yg,↓xu,↓xw,↓xz,↓xA,↓xB,xz,xA,xB,yJ,yE,Bool.and_true,Bool.not_true,lnC,lnN,wY,hr,hk]
 ·rw [if_neg h]
  have e : (yV m.pool && y5 m.pool (yZ m)) = false := by
   cases h1 : yV m.pool <;> cases h2 : y5 m.pool (yZ m) <;> first | rfl | exact absurd ⟨h1,h2⟩ h
  rw [e] at hr
  unfold yZ holds at hr
  by_cases s1 : m.state = 1
  ·rw [if_pos (by simp [s1])] at hr
   simp only [List.map_cons,List.map_nil] at hr
   simp (disch := first | omega | (simp only [lnA,lnC,lnN,lnM,yO,wY]; omega)) only [↓wZ,xi,↓yk,↓xP,↓yo,↓yb,↓ye,↓xI,↓yg,↓xu,yJ,yF,Bool.not_false,pE,wY,hr,hc]
  by_cases s2 : m.state = 2
  ·rw [if_pos (by simp [s2])] at hr
   simp only [List.map_cons,List.map_nil] at hr
   simp (disch := first | omega | (simp only [lnA,lnC,lnN,lnM,yO,wY]; omega)) only [↓wZ,xi,↓yk,↓xJ,↓xP,↓yo,↓yb,↓ye,↓xI,↓yg,↓xu,yJ,yF,yE,Bool.not_false,pE,wY,hr,hc]
  ·rw [if_neg (by simp [s1,s2])] at hr
   simp only [List.map_cons,List.map_nil] at hr
   simp (disch := first | omega | (simp only [lnA,lnC,lnN,lnM,yO,wY]; omega)) only [↓wZ,xi,↓yk,↓xJ,↓yo,↓yb,↓ye,↓xI,↓yg,↓xu,yE,Bool.not_false,hr,hc]
theorem BZ {c : Cd} {m : Mc} (h : CU c m = true) : yV m.pool = true /\ y5 m.pool (yZ m) = true /\ 0 <= m.at' /\ m.at' <= 400 /\ 0 <= m.state /\ m.state <= 3 /\ 0 <= m.ask /\ m.ask <= 19 /\ 0 <= m.arg /\ m.arg <= 3000 := by
 unfold CU zI IZ at h
 simp only [Bool.and_eq_true,decide_eq_true_eq] at h
 obtain ⟨⟨_,hlist,_⟩,hp,hs,he,hd,hst⟩ := h
 have hlen := y0 hp
 refine ⟨hp,?_,?_⟩
 ·unfold yZ holds y5
  unfold JA IZ at hst
  split
  ·rename_i hh
   have hh := of_decide_eq_true hh
   have ha : wi m.arg 0 ((m.pool.length : Int) - 1) = true := by
    rcases hh with h1 | h1
    ·simp [h1] at hst; exact hst.2.2.2
    ·simp [h1] at hst; exact hst.2.2
   simp [hs,he,hd,ha]
  ·simp [hs,he,hd]
 ·unfold JA IZ at hst
  repeat' split at hst
  all_goals (try simp only [Bool.and_eq_true,wi,decide_eq_true_eq,beq_iff_eq] at hst)
  all_goals (first | (cases hst; done) | omega)
theorem Nh {c : Cd} {m : Mc} (h : CU c m = true) : CU c (yX m) = true := by
 obtain ⟨hp,hr,_⟩ := BZ h
 obtain ⟨a1,a2,_⟩ := Qh hp hr (-1) (-1)
 have hroot : ∀ r ∈ yZ m,wi (tf m r) 0 (((zn (-1) m.pool (yZ m)).1.length : Int) - 1) = true := by
  intro r hm
  have := List.all_eq_true.1 a2 (tf m r) (List.mem_map.2 ⟨r,hm,rfl⟩)
  exact this
 have h3 : m.s ∈ yZ m /\ m.e ∈ yZ m /\ m.d ∈ yZ m := by unfold yZ; split <;> simp
 have h4 : holds m = true -> m.arg ∈ yZ m := by intro hh; unfold yZ; rw [if_pos hh]; simp
 unfold yX
 rw [if_pos ⟨hp,hr⟩]
 unfold CU JA IZ at h ⊢
 simp only [Bool.and_eq_true] at h ⊢
 refine ⟨h.1,a1,hroot _ h3.1,hroot _ h3.2.1,hroot _ h3.2.2,?_⟩
 have hst := h.2.2.2.2.2
 by_cases s0 : m.state = 0
 ·have e : ¬ holds m = true := by simp [holds,s0]
  rw [if_pos s0] at hst ⊢
  rw [if_neg e]; exact hst
 rw [if_neg s0] at hst ⊢
 by_cases s1 : m.state = 1
 ·have e : holds m = true := by simp [holds,s1]
  rw [if_pos s1] at hst ⊢
  rw [if_pos e]
  simp only [Bool.and_eq_true] at hst ⊢
  exact ⟨hst.1,hst.2.1,hst.2.2.1,hroot _ (h4 e)⟩
 rw [if_neg s1] at hst ⊢
 by_cases s2 : m.state = 2
 ·have e : holds m = true := by simp [holds,s2]
  rw [if_pos s2] at hst ⊢
  rw [if_pos e]
  simp only [Bool.and_eq_true] at hst ⊢
  exact ⟨hst.1,hst.2.1,hroot _ (h4 e)⟩
 rw [if_neg s2] at hst ⊢
 have e : ¬ holds m = true := by simp [holds,s1,s2]
 rw [if_neg e]
 exact hst
end
end Go.Eng
/-! words of a text,on both sides -/
namespace Go.Eng
noncomputable section
open Go.Proofs Go.Proofs.Tryz
set_option maxHeartbeats 4000000

def dU (x : UInt8) : Bool := decide (48 <= x.toNat) && decide (x.toNat <= 57)
def Ju (x : UInt8) : Bool := nmB (x.toNat : Int) || (dU x || (x.toNat : Int) == 35)
theorem dU_iff {x : UInt8} : dU x = true ↔ 48 <= x.toNat /\ x.toNat <= 57 := by simp [dU]
theorem abW (x : UInt8) : br (decide ((x.toNat : Int) >= 48)) (some (D.bool (decide ((x.toNat : Int) <= 57)),([] : List D))) (some (D.bool false,[])) = some (.bool (dU x),[]) := by
 unfold dU
 by_cases h1 : 48 <= x.toNat
 ·by_cases h2 : x.toNat <= 57
  ·rw [xK (decide_eq_true (by omega)),decide_eq_true (by omega),decide_eq_true h1,decide_eq_true h2]; rfl
  ·rw [xK (decide_eq_true (by omega)),decide_eq_false (by omega),decide_eq_true h1,decide_eq_false h2]; rfl
 ·rw [xb (decide_eq_false (by omega)),decide_eq_false h1]; rfl
theorem SJ (x : UInt8) : V 226 [.int .u8 (x.toNat : Int)] = some (.bool (dU x),[]) := (Ri _).trans (abW x)
theorem Jn (x : UInt8) : V 211 [.int .u8 (x.toNat : Int)] = some (.bool (Ju x),[]) := by
 rw [NN,Jr (Nj _),MU (SJ x),aac,aac]; rfl

def Az (acc : Nat) (l : List UInt8) : Nat := l.foldl (fun n x => 10 * n + (x.toNat - 48)) acc
theorem Zf : ∀ (l : List UInt8) (acc k : Nat),l.all dU = true -> acc < 10 ^ k -> Az acc l < 10 ^ (k + l.length)
 | [],acc,k,_,h => h
 | x :: l,acc,k,hl,h => by
  rw [List.all_cons,Bool.and_eq_true] at hl
  have hx := dU_iff.1 hl.1
  have := Zf l (10 * acc + (x.toNat - 48)) (k + 1) hl.2 (by rw [Nat.pow_succ]; omega)
  rw [lnC]
  have e : k + (l.length + 1) = k + 1 + l.length := by omega
  rw [e]; exact this
abbrev noW : D := .tup [iN 0,.bool false]
theorem QB {k : Nat} (h : k <= 10) : 10 ^ k <= 10000000000 := by
 have : 10 ^ k <= 10 ^ 10 := Nat.pow_le_pow_right (by omega) h
 simpa using this
def Cr (l : List UInt8) : Option Nat := if l.length = 0 \/ 10 < l.length \/ (l[0]? = some 48 /\ 1 < l.length) \/ l.all dU = false then none else some (Az 0 l)
theorem Z5 (l : List UInt8) (x : UInt8) (acc : Nat) : Az acc (l ++ [x]) = 10 * Az acc l + (x.toNat - 48) := by simp [Az]
theorem Xh : ∀ (l : List UInt8) (acc : Nat),0 < acc -> 0 < Az acc l
 | [],acc,h => h
 | x :: l,acc,h => Xh l (10 * acc + (x.toNat - 48)) (by omega)
theorem Vt : ∀ (n : Nat) (l : List UInt8),l.length = n + 1 -> l.all dU = true -> (l[0]? ≠ some 48 \/ l.length = 1) -> Iw (Az 0 l) = l
 | 0,l,hn,ha,h0 => by
  match l,hn with
  | [x],_ =>
   have hx := dU_iff.1 (by simpa using ha)
   have e : Az 0 [x] = x.toNat - 48 := by simp [Az]
   rw [e,AC (by omega)]
   congr 1
   apply UInt8.toNat_inj.1
   simp; omega
 | n + 1,l,hn,ha,h0 => by
  have hne : l ≠ [] := by intro h; rw [h] at hn; simp at hn
  obtain ⟨l',x,rfl⟩ : ∃ l' x,l = l' ++ [x] := ⟨l.dropLast,l.getLast hne,(List.dropLast_concat_getLast hne).symm⟩
  have hl' : l'.length = n + 1 := by simp at hn; omega
  have ha' : l'.all dU = true /\ dU x = true := by simpa using ha
  have hx := dU_iff.1 ha'.2
  have h48 : l'[0]? ≠ some 48 := by
   rcases h0 with h | h
   ·rwa [List.getElem?_append_left (by omega)] at h
   ·exfalso; rw [lnA,List.length_singleton] at h; omega
  have ih := Vt n l' hl' ha'.1 (.inl h48)
  rw [Z5]
  have hpos : 0 < Az 0 l' := by
   match l',hl' with
   | y :: r,_ =>
    have hy := dU_iff.1 (by simpa using (show (y :: r).all dU = true from ha'.1) : dU y = true /\ _).1
    have hy48 : y.toNat ≠ 48 := by
     intro h; apply h48; simp; exact UInt8.toNat_inj.1 h
    exact Xh r (10 * 0 + (y.toNat - 48)) (by omega)
  rw [JE (by omega)]
  have e1 : (10 * Az 0 l' + (x.toNat - 48)) / 10 = Az 0 l' := by omega
  have e2 : (10 * Az 0 l' + (x.toNat - 48)) % 10 = x.toNat - 48 := by omega
  rw [e1,e2,ih]
  congr 2
  apply UInt8.toNat_inj.1
  simp; omega
theorem Zl : ∀ (n : Nat),(Iw n)[0]? ≠ some 48 \/ n = 0 := by
 intro n
 induction n using Nat.strongRecOn with
 | _ n ih =>
  by_cases h : n < 10
  ·by_cases h0 : n = 0
   ·exact .inr h0
   ·left
    rw [AC h]
    intro e
    simp at e
    have := congrArg UInt8.toNat e
    simp at this
    omega
  ·left
   rw [JE h,List.getElem?_append_left (aan _)]
   rcases ih (n / 10) (by omega) with h1 | h1
   ·exact h1
   ·omega
theorem Vp {l : List UInt8} (h0 : l.length ≠ 0) (h10 : ¬ 10 < l.length) (ha : l.all dU = true) : Iw (Az 0 l) = l ↔ ¬ (l[0]? = some 48 /\ 1 < l.length) := by
 constructor
 ·rintro h ⟨h1,h2⟩
  rcases Zl (Az 0 l) with h3 | h3
  ·rw [h] at h3; exact h3 h1
  ·rw [h3,AC (by omega)] at h
   have := congrArg List.length h
   simp at this; omega
 ·intro h
  refine Vt (l.length - 1) l (by omega) ha ?_
  by_cases h1 : l[0]? = some 48
  ·exact .inr (by
           have : ¬ 1 < l.length := fun h2 => h ⟨h1,h2⟩
           omega)
  ·exact .inl h1
end
end Go.Eng
/-! the node of a word,on both sides -/
namespace Go.Eng
noncomputable section
open Go.Proofs Go.Proofs.Tryz
set_option maxHeartbeats 4000000

def UM (r : Option Nat) : Option Int := match r with | some n => if n <= 1000000000 then some (n : Int) else none | none => none
def Zy (r : Option Nat) : Option Int := match r with | some n => if 0 < n /\ n <= 1000000000 then some (-(n : Int)) else none | none => none
def XR (l : List UInt8) : Option Int := match l with
 | x :: d :: r => if x = 45 /\ dU d = true then Zy (Cr (d :: r)) else UM (Cr l)
 | _ => UM (Cr l)
def YU (r : Option Int) (l : List UInt8) : Option Nd := match r with | some n => some ⟨3,n,⟨#[]⟩,0,0⟩ | none => if Jy (mk l) = true then some ⟨4,0,mk l,0,0⟩ else none
def Ff (l : List UInt8) : Option Nd := if l = [35,116] then some ⟨2,1,⟨#[]⟩,0,0⟩ else if l = [35,102] then some ⟨2,0,⟨#[]⟩,0,0⟩ else YU (XR l) l
def Yp (r : Option Nd) (x : Nd) (b : Bool) : Prop := match r with | some y => x = y /\ b = true | none => b = false
theorem Sf {l : List UInt8} {n : Nat} (h : Cr l = some n) : l.length ≠ 0 /\ ¬ 10 < l.length /\ ¬ (l[0]? = some 48 /\ 1 < l.length) /\ l.all dU = true /\ n = Az 0 l /\ n < 10000000000 := by
 unfold Cr at h
 split at h
 ·cases h
 ·rename_i hn
  cases h
  have ha : l.all dU = true := by
   cases e : l.all dU with
   | true => rfl
   | false => exact absurd (.inr (.inr (.inr e))) hn
  have h10 : ¬ 10 < l.length := fun e => hn (.inr (.inl e))
  have := Zf l 0 0 ha (by simp)
  rw [Nat.zero_add] at this
  have := QB (k := l.length) (by omega)
  exact ⟨fun e => hn (.inl e),h10,fun e => hn (.inr (.inr (.inl e))),ha,rfl,by omega⟩
def tb (l : List UInt8) : Bool := match Cr l with | some n => decide (n <= 1000000000) | none => Jy (mk l)
theorem aaF {l : List UInt8} (h : ¬ (l[0]? = some 45 /\ 1 < l.length)) : XR l = UM (Cr l) := by
 match l with
 | [] => rfl
 | [x] => rfl
 | x :: d :: r => rw [XR,if_neg]; rintro ⟨e,_⟩; exact h ⟨by rw [e]; rfl,by simp⟩
def Pb (a r : List UInt8) (v : Nat) : Int := if r.length = a.length then (v : Int) else -(v : Int)
def PZ (a r : List UInt8) (v : Nat) : Bool := decide (IV (Pb a r v) = a) && wi (Pb a r v) (-1000000000) 1000000000
theorem abv {a r : List UInt8} {v : Nat} (hv : v < 100000000000) : @Eq (Option Ret) (br (ni r.length != ni a.length)
  (Vf 202 [(iN (w6 (0 - (v : Int))))] fun s5 => (br (kc s5 (mk a))
    (ck6 62 [(iN (w6 (0 - (v : Int)))),(iN (-1000000000)),(iN (1000000000))] fun b8 => (some ((.tup [(iN (w6 (0 - (v : Int)))),(.bool b8)]),[])))
    (some ((.tup [(iN (w6 (0 - (v : Int)))),(.bool false)]),[]))))
  (Vf 202 [(iN (v : Int))] fun s11 => (br (kc s11 (mk a))
    (ck6 62 [(iN (v : Int)),(iN (-1000000000)),(iN (1000000000))] fun b14 => (some ((.tup [(iN (v : Int)),(.bool b14)]),[])))
    (some ((.tup [(iN (v : Int)),(.bool false)]),[]))))) (some (.tup [iN (Pb a r v),.bool (PZ a r v)],[])) := by
 unfold PZ Pb
 by_cases h : r.length = a.length
 ·have hd := QR (n := (v : Int)) (by omega)
  rw [xb (by simp [ni,h]),if_pos h,GT hd,IL]
  by_cases h2 : IV (v : Int) = a
  ·rw [decide_eq_true h2,yk,zT (Al _ _ _),Bool.true_and]
  ·rw [decide_eq_false h2,xJ,Bool.false_and]
 ·have hd := QR (n := -(v : Int)) (by omega)
  rw [xK (by simp only [ni,bne_iff_ne,ne_eq]; omega),if_neg h,show (0 : Int) - (v : Int) = -(v : Int) by omega,w64 (by omega) (by omega),GT hd,IL]
  by_cases h2 : IV (-(v : Int)) = a
  ·rw [decide_eq_true h2,yk,zT (Al _ _ _),Bool.true_and]
  ·rw [decide_eq_false h2,xJ,Bool.false_and]
theorem Wq {a l : List UInt8} (hl : l.length <= 10) : ∀ (k i acc : Nat),i + k = l.length -> acc < 10 ^ i -> z9 (mk a) (mk l) (acc : Int) (i : Int) = some (if (l.drop i).all dU = true then .tup [iN (Pb a l (Az acc (l.drop i))),.bool (PZ a l (Az acc (l.drop i)))] else noW,[])
 | 0,i,acc,hi,ha => by
  have hp := QB (k := i) (by omega)
  have he := abv (a := a) (r := l) (v := acc) (by omega)
  rw [Ig,List.drop_of_length_le (by omega),yO,yO,xb (yr (by omega)),he]
  rfl
 | k + 1,i,acc,hi,ha => by
  obtain ⟨x,hx⟩ := xx (l := l) (i := i) (by omega)
  have hp := QB (k := i) (by omega)
  have hb := RL hx
  have hd := SJ x
  rw [Ig,yO,xK (yz (by omega)),yu (yx (by omega)),hb,MU hd,tU hx,List.all_cons]
  cases h : dU x with
  | false => rw [Bool.not_false,yk,if_neg (by simp)]
  | true =>
   have hx2 := dU_iff.1 h
   have e2 : w6 (w6 (w6 (10 * (acc : Int)) + w6 ((x.toNat : Nat) : Int)) - 48) = ((10 * acc + (x.toNat - 48) : Nat) : Int) := by
    rw [w64 (n := 10 * (acc : Int)) (by omega) (by omega),w64 (n := ((x.toNat : Nat) : Int)) (by omega) (by omega),w64 (n := 10 * (acc : Int) + _) (by omega) (by omega),w64 (by omega) (by omega)]; omega
   have ih := Wq (a := a) hl k (i + 1) (10 * acc + (x.toNat - 48)) (by omega) (by rw [Nat.pow_succ]; omega)
   rw [Bool.not_true,xJ,yu (yx (by omega)),e2,yM (by omega),ih,Bool.true_and]
   rfl
theorem UN {l : List UInt8} (h0 : l.length ≠ 0) (h10 : ¬ 10 < l.length) (ha : l.all dU = true) : Pb l l (Az 0 l) = (Az 0 l : Int) /\ PZ l l (Az 0 l) = (UM (Cr l)).isSome /\ (∀ m,UM (Cr l) = some m -> m = (Az 0 l : Int)) := by
 have hz := Vp h0 h10 ha
 have e1 : Pb l l (Az 0 l) = (Az 0 l : Int) := by simp [Pb]
 have e2 : IV ((Az 0 l : Nat) : Int) = Iw (Az 0 l) := by simp [IV]
 refine ⟨e1,?_,?_⟩
 ·unfold PZ
  rw [e1,e2]
  by_cases h : l[0]? = some 48 /\ 1 < l.length
  ·rw [decide_eq_false (fun e => hz.1 e h),Cr,if_pos (.inr (.inr (.inl h)))]; rfl
  ·have hn : Cr l = some (Az 0 l) := by rw [Cr,if_neg (by rintro (e | e | e | e) <;> first | omega | exact h e | (rw [ha] at e; cases e))]
   rw [decide_eq_true (hz.2 h),hn]
   unfold UM wi
   by_cases h1 : Az 0 l <= 1000000000
   ·simp [h1]; omega
   ·simp [h1]; omega
 ·intro m hm
  cases hn : Cr l with
  | none => rw [hn] at hm; cases hm
  | some n =>
   have := (Sf hn).2.2.2.2.1
   rw [hn] at hm
   unfold UM at hm
   simp only at hm
   split at hm
   ·cases hm; rw [this]
   ·cases hm
theorem UE {l : List UInt8} (h0 : l.length ≠ 0) (h10 : ¬ 10 < l.length) (ha : l.all dU = true) : Pb (45 :: l) l (Az 0 l) = -(Az 0 l : Int) /\ PZ (45 :: l) l (Az 0 l) = (Zy (Cr l)).isSome /\ (∀ m,Zy (Cr l) = some m -> m = -(Az 0 l : Int)) := by
 have hz := Vp h0 h10 ha
 have e1 : Pb (45 :: l) l (Az 0 l) = -(Az 0 l : Int) := by simp [Pb]
 refine ⟨e1,?_,?_⟩
 ·unfold PZ
  rw [e1]
  by_cases h : l[0]? = some 48 /\ 1 < l.length
  ·have : IV (-(Az 0 l : Int)) ≠ 45 :: l := by
    unfold IV
    split
    ·intro e; rw [Int.natAbs_neg,Int.natAbs_natCast] at e; exact hz.1 (List.cons_inj_right _ |>.1 e) h
    ·intro e
     have e0 : Az 0 l = 0 := by omega
     rw [e0] at e
     have := AC (n := 0) (by omega)
     simp [this] at e
   rw [decide_eq_false this,Cr,if_pos (.inr (.inr (.inl h)))]; rfl
  ·have hn : Cr l = some (Az 0 l) := by rw [Cr,if_neg (by rintro (e | e | e | e) <;> first | omega | exact h e | (rw [ha] at e; cases e))]
   rw [hn]
   by_cases h1 : Az 0 l = 0
   ·have : IV (-(Az 0 l : Int)) ≠ 45 :: l := by
     intro e
     rw [h1] at e
     have := AC (n := 0) (by omega)
     simp [IV,this] at e
    rw [decide_eq_false this,h1]; rfl
   ·have : IV (-(Az 0 l : Int)) = 45 :: l := by
     unfold IV
     rw [if_pos (by omega),Int.natAbs_neg,Int.natAbs_natCast,hz.2 h]
    rw [decide_eq_true this]
    unfold Zy wi
    by_cases h2 : Az 0 l <= 1000000000
    ·have : 0 < Az 0 l := by omega
     simp [h2,this]; omega
    ·simp [h2]; omega
 ·intro m hm
  cases hn : Cr l with
  | none => rw [hn] at hm; cases hm
  | some n =>
   have := (Sf hn).2.2.2.2.1
   rw [hn] at hm
   unfold Zy at hm
   simp only at hm
   split at hm
   ·cases hm; rw [this]
   ·cases hm
theorem Ws {a r : List UInt8} {F : Option Nat -> Option Int} (hF : F none = none)
  (hfin : r.length ≠ 0 -> ¬ 10 < r.length -> r.all dU = true -> PZ a r (Az 0 r) = (F (Cr r)).isSome /\ (∀ m,F (Cr r) = some m -> m = Pb a r (Az 0 r))) :
  ∃ n b,br (decide (ni r.length > 10)) (some (noW,[])) (br (ni r.length == 0) (some (noW,[])) (z9 (mk a) (mk r) 0 0)) = some (.tup [iN n,.bool b],[]) /\ b = (F (Cr r)).isSome /\ (∀ m,F (Cr r) = some m -> m = n) := by
 by_cases h10 : 10 < r.length
 ·have hn : Cr r = none := by rw [Cr,if_pos (.inr (.inl h10))]
  rw [xK (decide_eq_true (by simp only [ni]; omega)),hn,hF]
  exact ⟨0,false,rfl,rfl,fun m h => by cases h⟩
 ·rw [xb (decide_eq_false (by simp only [ni]; omega))]
  by_cases h0 : r.length = 0
  ·have hn : Cr r = none := by rw [Cr,if_pos (.inl h0)]
   rw [xK (by simp [ni,h0]),hn,hF]
   exact ⟨0,false,rfl,rfl,fun m h => by cases h⟩
  ·rw [xb (by simp only [ni,beq_eq_false_iff_ne,ne_eq]; omega)]
   have hl := Wq (a := a) (l := r) (by omega) r.length 0 0 (by omega) (by simp)
   rw [Int.natCast_zero,List.drop_zero] at hl
   rw [hl]
   cases ha : r.all dU with
   | false =>
    have hn : Cr r = none := by rw [Cr,if_pos (.inr (.inr (.inr ha)))]
    rw [if_neg (by simp),hn,hF]
    exact ⟨0,false,rfl,rfl,fun m h => by cases h⟩
   | true =>
    rw [if_pos rfl]
    obtain ⟨e1,e2⟩ := hfin h0 h10 ha
    exact ⟨_,_,rfl,e1,e2⟩
theorem abB (l : List UInt8) : ∃ n b,V 227 [.str (mk l)] = some (.tup [iN n,.bool b],[]) /\ b = (XR l).isSome /\ (∀ m,XR l = some m -> m = n) := by
 have hpos : ∃ n b,br (decide (ni l.length > 10)) (some (noW,[])) (br (ni l.length == 0) (some (noW,[])) (z9 (mk l) (mk l) 0 0)) = some (.tup [iN n,.bool b],[]) /\ b = (UM (Cr l)).isSome /\ (∀ m,UM (Cr l) = some m -> m = n) :=
  Ws rfl (fun h0 h10 ha => ⟨(UN h0 h10 ha).2.1,fun m hm => ((UN h0 h10 ha).2.2 m hm).trans (UN h0 h10 ha).1.symm⟩)
 rw [VJ,yO]
 by_cases hn : l[0]? = some 45 /\ 1 < l.length
 ·obtain ⟨hx,hl⟩ := hn
  match l,hx,hl with
  | x :: d :: r,hx,hl =>
   have hx : x = 45 := by simpa using hx
   subst hx
   have hb0 : bt (mk (45 :: d :: r)) 0 = 45 := RL (i := 0) (x := 45) rfl
   have e : ByteArray.extract (mk (45 :: d :: r)) (Int.toNat 1) (45 :: d :: r).length = mk (d :: r) := by
    rw [FM]; congr 1; simp
   rw [xK (decide_eq_true (by simp only [ni]; omega)),yu (by simp only [ni,Bool.and_eq_true,decide_eq_true_eq]; omega),hb0,xK (by decide),yu (by unfold cW; simp; omega),e,yO]
   obtain ⟨n,b,h1,h2,h3⟩ := Ws (a := 45 :: d :: r) (r := d :: r) (F := Zy) rfl (fun h0 h10 ha => ⟨(UE h0 h10 ha).2.1,fun m hm => ((UE h0 h10 ha).2.2 m hm).trans (UE h0 h10 ha).1.symm⟩)
   refine ⟨n,b,h1,?_⟩
   rw [XR]
   by_cases hd : dU d = true
   ·rw [if_pos ⟨rfl,hd⟩]; exact ⟨h2,h3⟩
   ·rw [if_neg (fun h => hd h.2)]
    have hf : ∀ c : UInt8,dU c = false -> ∀ q,Cr (c :: q) = none := by
     intro c hc q
     rw [Cr,if_pos (.inr (.inr (.inr (by rw [List.all_cons,hc]; rfl))))]
    rw [hf 45 rfl] 
    rw [hf d (by simpa using hd)] at h2 h3
    exact ⟨h2,h3⟩
 ·rw [aaF hn]
  by_cases hl : 1 < l.length
  ·obtain ⟨x,hx⟩ := xx (l := l) (i := 0) (by omega)
   have hbt : bt (mk l) 0 = (x.toNat : Int) := RL hx
   have hne : x.toNat ≠ 45 := by
    intro h; apply hn; rw [hx]; exact ⟨by congr 1; exact UInt8.toNat_inj.1 h,hl⟩
   rw [xK (decide_eq_true (by simp only [ni]; omega)),yu (by simp only [ni,Bool.and_eq_true,decide_eq_true_eq]; omega),hbt,xb (by simp only [beq_eq_false_iff_ne,ne_eq]; omega)]
   exact hpos
  ·rw [xb (decide_eq_false (by simp only [ni]; omega))]
   exact hpos
theorem Xa {l : List UInt8} (hb : l.length < 4611686018427387904) : ∃ x b,V 212 [.str (mk l)] = some (.tup [eN x,.bool b],[]) /\ Yp (Ff l) x b := by
 have e1 : kc (mk l) ⟨#[35,116]⟩ = decide (l = [35,116]) := IL l _
 have e2 : kc (mk l) ⟨#[35,102]⟩ = decide (l = [35,102]) := IL l _
 obtain ⟨n,b,h3,h4,h5⟩ := abB l
 have hnm := D0 (s := mk l) (by rw [yO]; exact hb)
 rw [TT,e1,e2,XW h3]
 unfold Ff
 by_cases h1 : l = [35,116]
 ·rw [xK (decide_eq_true h1),if_pos h1]; exact ⟨⟨2,1,⟨#[]⟩,0,0⟩,true,rfl,rfl,rfl⟩
 rw [xb (decide_eq_false h1),if_neg h1]
 by_cases h2 : l = [35,102]
 ·rw [xK (decide_eq_true h2),if_pos h2]; exact ⟨⟨2,0,⟨#[]⟩,0,0⟩,true,rfl,rfl,rfl⟩
 rw [xb (decide_eq_false h2),if_neg h2]
 cases hf : XR l with
 | some m =>
  rw [hf] at h4 h5
  have := h5 m rfl
  rw [h4,<- this]
  exact ⟨⟨3,m,⟨#[]⟩,0,0⟩,true,rfl,rfl,rfl⟩
 | none =>
  rw [hf] at h4
  rw [h4,show (none : Option Int).isSome = false from rfl,xJ,Oz hnm]
  refine ⟨⟨4,0,mk l,0,0⟩,Jy (mk l),rfl,?_⟩
  cases e : Jy (mk l) with
  | true => simp [YU,e,Yp]
  | false => simp [YU,e,Yp]
end
end Go.Eng
