/- the program and the reference on plain data, part 3 -/
import Derived.Test.YtkndfhaehnfnmaaGreatPart2
import Derived.Test.YtkndfhaehnfnmaaGreatPart1
import Derived.Test.YtkndfhaehnfnmaaGreatEngC
/-! what is moved into another pool,on both sides -/
namespace Go.Eng
open Go.Proofs Go.Proofs.Tryz

theorem SB {p : List Nd} (h : p.length < 4294967296) (x : D) : decide (ni (p.map eN ++ [x]).length <= LIM) = true :=
 decide_eq_true (by rw [pE]; simp only [ni,lnA,lnM,lnC,lnN]; omega)
theorem Te {p : List Nd} (h : p.length < 4294967296) (x : Nd) : V 157 [rP p,eN x] = some (iN p.length,[rP (p ++ [x])]) := by
 rw [Ly,yu (SB h _),yA]
 have : w6 (ni (p.map eN ++ [eN x]).length - 1) = p.length := by
  rw [w64 (by simp only [ni]; omega) (by simp only [ni,lnA,lnM,lnC,lnN]; omega)]
  simp [ni]
 rw [this]; simp
theorem Cy {p : List Nd} (h : p.length < 4294967296) (x : Nd) : V 158 [rP p,eN x] = some (iN p.length,[rP (p ++ [x])]) := by
 rw [Qn,yu (SB h _),yA]
 have : w6 (ni (p.map eN ++ [eN x]).length - 1) = p.length := by
  rw [w64 (by simp only [ni]; omega) (by simp only [ni,lnA,lnM,lnC,lnN]; omega)]
  simp [ni]
 rw [this]; simp

noncomputable def yZ (pre : List Int) (x : Nd) : Nd :=
 if x.kind = 5 then ⟨x.kind,x.n,x.s,pre.getD x.a.toNat 0,pre.getD x.b.toNat 0⟩
 else if x.kind = 6 \/ x.kind = 7 then ⟨x.kind,x.n,x.s,pre.getD x.a.toNat 0,x.b⟩ else x
noncomputable def Ar (d : Int) (q : List Nd) (m : List Bool) : Nat -> List Int -> List Nd -> List Int × List Nd
 | 0,pre,acc => (pre,acc)
 | k + 1,pre,acc => match q[pre.length]?,m[pre.length]? with
  | some x,some true => Ar d q m k (pre ++ [(acc.length : Int)]) (acc ++ [yZ pre x])
  | _,_ => Ar d q m k (pre ++ [d]) acc
theorem PM {pre r : List Int} {v u : Int} {i : Nat} (h : pre.length = i) : (pre ++ u :: r).set i v = pre ++ v :: r := by
 subst h; simp
theorem Pp {pre r : List Int} {u : Int} {i : Nat} (h : pre.length = i) : (pre ++ u :: r)[i]? = some u := by
 subst h; simp
theorem CH {pre r : List Int} {j : Nat} (h : j < pre.length) : (pre ++ r)[j]? = pre[j]? := List.getElem?_append_left h
theorem Ee {l pre : List Int} {n : Int} (h0 : 0 <= n) (h1 : n < pre.length) (h : ∀ j,j < pre.length -> l[j]? = pre[j]?) : ∃ u,l[n.toNat]? = some u /\ pre[n.toNat]? = some u := by
 obtain ⟨u,hu⟩ := xx (l := pre) (i := n.toNat) (by omega)
 exact ⟨u,by rw [h _ (by omega),hu],hu⟩
theorem Ae {q : List Nd} (hp : yW q = true) {m : List Bool} (hm : m.length = q.length) : ∀ (k i : Nat) (pre : List Int) (acc : List Nd),pre.length = i -> i + k = q.length -> acc.length + k < 4294967296 ->
  y3 (q.map eN) (ni (q.map eN).length) (i : Int) ((pre ++ List.replicate k 0).map eI) (m.map D.bool) (acc.map eN) = some (.os (1,0) ((Ar (-1) q m k pre acc).1.map eI),[rP (Ar (-1) q m k pre acc).2])
 | 0,i,pre,acc,hpre,hi,hc => by
  rw [BI,xb (by rw [lnM]; exact yr (by omega))]
  simp [Ar]
 | k + 1,i,pre,acc,hpre,hi,hc => by
  have hl := yX hp
  obtain ⟨x,hx⟩ := xx (l := q) (i := i) (by omega)
  obtain ⟨b,hb⟩ := xx (l := m) (i := i) (by omega)
  have ho := z6 hp hx
  have s1 : List.set ((pre ++ List.replicate (k + 1) 0).map eI) i (eI (-1)) = (pre ++ (-1) :: List.replicate k 0).map eI := by
   rw [<- List.map_set,List.replicate_succ,PM hpre]
  have s2 : ∀ v : Int,List.set ((pre ++ (-1) :: List.replicate k 0).map eI) i (eI v) = (pre ++ [v] ++ List.replicate k 0).map eI := by
   intro v; rw [<- List.map_set,PM hpre]; simp
  have hz : (pre ++ List.replicate (k + 1) 0)[i]? = some 0 := by rw [List.replicate_succ,Pp hpre]
  have hz2 : (pre ++ (-1) :: List.replicate k 0)[i]? = some (-1) := Pp hpre
  rw [BI,xK (by rw [lnM]; exact yz (by omega)),yu (by rw [lnM]; exact yx (by omega)),Int.toNat_natCast,xW hx,Ja,yu (by rw [lnM]; exact yx (by simp; omega)),xW hz,yA,s1,yu (by rw [lnM]; exact yx (by omega)),xW hb,xI]
  cases b with
  | false =>
   rw [Bool.not_false,yk,yM (by omega)]
   have ih := Ae hp hm k (i + 1) (pre ++ [-1]) acc (by simp [hpre]) (by omega) (by omega)
   simp only [Ar,hpre,hx,hb]
   simpa using ih
  | true =>
   rw [Bool.not_true,xJ]
   by_cases h5 : x.kind = 5
   ·obtain ⟨a0,a1,b0,b1⟩ := Ai ho h5
    obtain ⟨u,hu,hu'⟩ := Ee (l := (pre ++ (-1) :: List.replicate k 0)) (pre := pre) a0 (by omega) (by intro j hj; exact CH hj)
    obtain ⟨v,hv,hv'⟩ := Ee (l := (pre ++ (-1) :: List.replicate k 0)) (pre := pre) b0 (by omega) (by intro j hj; exact CH hj)
    have e : yZ pre x = ⟨x.kind,x.n,x.s,u,v⟩ := by simp [yZ,h5,hu',hv']
    rw [xK (by simp [h5]),yu (by rw [List.length_map]; exact Af a0 (by simp; omega)),xW hu,ye,yu (by rw [List.length_map]; exact Af b0 (by simp; omega)),xW hv,ye]
    have ha := Te (p := acc) (by omega) ⟨x.kind,x.n,x.s,u,v⟩
    have ih := Ae hp hm k (i + 1) (pre ++ [(acc.length : Int)]) (acc ++ [⟨x.kind,x.n,x.s,u,v⟩]) (by simp [hpre]) (by omega) (by simp; omega)
    rw [Eh ha,yu (by rw [lnM]; exact yx (by simp; omega)),xW hz2,yA,s2,yM (by omega)]
    simp only [Ar,hpre,hx,hb,e]
    exact ih
   rw [xb (by simp [h5])]
   by_cases h6 : x.kind = 6
   ·obtain ⟨a0,a1⟩ := Az ho (.inl h6)
    obtain ⟨u,hu,hu'⟩ := Ee (l := (pre ++ (-1) :: List.replicate k 0)) (pre := pre) a0 (by omega) (by intro j hj; exact CH hj)
    have e : yZ pre x = ⟨x.kind,x.n,x.s,u,x.b⟩ := by simp [yZ,h6,hu']
    rw [xK (by simp [h6]),xK (by simp [h6]),yu (by rw [List.length_map]; exact Af a0 (by simp; omega)),xW hu,ye]
    have ha := Te (p := acc) (by omega) ⟨x.kind,x.n,x.s,u,x.b⟩
    have ih := Ae hp hm k (i + 1) (pre ++ [(acc.length : Int)]) (acc ++ [⟨x.kind,x.n,x.s,u,x.b⟩]) (by simp [hpre]) (by omega) (by simp; omega)
    rw [Eh ha,yu (by rw [lnM]; exact yx (by simp; omega)),xW hz2,yA,s2,yM (by omega)]
    simp only [Ar,hpre,hx,hb,e]
    exact ih
   rw [xb (by simp [h6])]
   by_cases h7 : x.kind = 7
   ·obtain ⟨a0,a1⟩ := Az ho (.inr h7)
    obtain ⟨u,hu,hu'⟩ := Ee (l := (pre ++ (-1) :: List.replicate k 0)) (pre := pre) a0 (by omega) (by intro j hj; exact CH hj)
    have e : yZ pre x = ⟨x.kind,x.n,x.s,u,x.b⟩ := by simp [yZ,h7,hu']
    rw [xK (by simp [h7]),yu (by rw [List.length_map]; exact Af a0 (by simp; omega)),xW hu,ye]
    have ha := Te (p := acc) (by omega) ⟨x.kind,x.n,x.s,u,x.b⟩
    have ih := Ae hp hm k (i + 1) (pre ++ [(acc.length : Int)]) (acc ++ [⟨x.kind,x.n,x.s,u,x.b⟩]) (by simp [hpre]) (by omega) (by simp; omega)
    rw [Eh ha,yu (by rw [lnM]; exact yx (by simp; omega)),xW hz2,yA,s2,yM (by omega)]
    simp only [Ar,hpre,hx,hb,e]
    exact ih
   rw [xb (by simp [h7])]
   ·have e : yZ pre x = x := by simp [yZ,h5,h6,h7]
    have ha := Te (p := acc) (by omega) x
    have ih := Ae hp hm k (i + 1) (pre ++ [(acc.length : Int)]) (acc ++ [x]) (by simp [hpre]) (by omega) (by simp; omega)
    rw [Eh ha,yu (by rw [lnM]; exact yx (by simp; omega)),xW hz2,yA,s2,yM (by omega)]
    simp only [Ar,hpre,hx,hb,e]
    exact ih
theorem Aj {q : List Nd} (hp : yW q = true) {m : List Bool} (hm : m.length = q.length) : ∀ (k i : Nat) (pre : List Int) (acc : List Nd),pre.length = i -> i + k = q.length -> acc.length + k < 4294967296 ->
  zu (m.map D.bool) (i : Int) (q.map eN) ((pre ++ List.replicate k 0).map eI) (acc.map eN) = some (.os (1,0) ((Ar 0 q m k pre acc).1.map eI),[rP (Ar 0 q m k pre acc).2])
 | 0,i,pre,acc,hpre,hi,hc => by
  rw [D6,xb (by rw [lnM]; exact yr (by omega))]
  simp [Ar]
 | k + 1,i,pre,acc,hpre,hi,hc => by
  have hl := yX hp
  obtain ⟨x,hx⟩ := xx (l := q) (i := i) (by omega)
  obtain ⟨b,hb⟩ := xx (l := m) (i := i) (by omega)
  have ho := z6 hp hx
  have s2 : ∀ v : Int,List.set ((pre ++ List.replicate (k + 1) 0).map eI) i (eI v) = (pre ++ [v] ++ List.replicate k 0).map eI := by
   intro v; rw [<- List.map_set,List.replicate_succ,PM hpre]; simp
  have hz2 : (pre ++ List.replicate (k + 1) 0)[i]? = some 0 := by rw [List.replicate_succ,Pp hpre]
  rw [D6,xK (by rw [lnM]; exact yz (by omega)),yu (by rw [lnM]; exact yx (by omega)),Int.toNat_natCast,xW hb,xI]
  cases b with
  | false =>
   rw [Bool.not_false,yk,yM (by omega)]
   have ih := Aj hp hm k (i + 1) (pre ++ [0]) acc (by simp [hpre]) (by omega) (by omega)
   simp only [Ar,hpre,hx,hb]
   simpa [List.replicate_succ] using ih
  | true =>
   rw [Bool.not_true,xJ,yu (by rw [lnM]; exact yx (by omega)),xW hx,Ja]
   by_cases h5 : x.kind = 5
   ·obtain ⟨a0,a1,b0,b1⟩ := Ai ho h5
    obtain ⟨u,hu,hu'⟩ := Ee (l := (pre ++ List.replicate (k + 1) 0)) (pre := pre) a0 (by omega) (by intro j hj; exact CH hj)
    obtain ⟨v,hv,hv'⟩ := Ee (l := (pre ++ List.replicate (k + 1) 0)) (pre := pre) b0 (by omega) (by intro j hj; exact CH hj)
    have e : yZ pre x = ⟨x.kind,x.n,x.s,u,v⟩ := by simp [yZ,h5,hu',hv']
    rw [xK (by simp [h5]),yu (by rw [List.length_map]; exact Af a0 (by simp; omega)),xW hu,ye,yu (by rw [List.length_map]; exact Af b0 (by simp; omega)),xW hv,ye]
    have ha := Cy (p := acc) (by omega) ⟨x.kind,x.n,x.s,u,v⟩
    have ih := Aj hp hm k (i + 1) (pre ++ [(acc.length : Int)]) (acc ++ [⟨x.kind,x.n,x.s,u,v⟩]) (by simp [hpre]) (by omega) (by simp; omega)
    rw [z5 ha,yu (by rw [lnM]; exact yx (by simp; omega)),xW hz2,yA,s2,yM (by omega)]
    simp only [Ar,hpre,hx,hb,e]
    exact ih
   rw [xb (by simp [h5])]
   by_cases h6 : x.kind = 6
   ·obtain ⟨a0,a1⟩ := Az ho (.inl h6)
    obtain ⟨u,hu,hu'⟩ := Ee (l := (pre ++ List.replicate (k + 1) 0)) (pre := pre) a0 (by omega) (by intro j hj; exact CH hj)
    have e : yZ pre x = ⟨x.kind,x.n,x.s,u,x.b⟩ := by simp [yZ,h6,hu']
    rw [xK (by simp [h6]),xK (by simp [h6]),yu (by rw [List.length_map]; exact Af a0 (by simp; omega)),xW hu,ye]
    have ha := Cy (p := acc) (by omega) ⟨x.kind,x.n,x.s,u,x.b⟩
    have ih := Aj hp hm k (i + 1) (pre ++ [(acc.length : Int)]) (acc ++ [⟨x.kind,x.n,x.s,u,x.b⟩]) (by simp [hpre]) (by omega) (by simp; omega)
    rw [z5 ha,yu (by rw [lnM]; exact yx (by simp; omega)),xW hz2,yA,s2,yM (by omega)]
    simp only [Ar,hpre,hx,hb,e]
    exact ih
   rw [xb (by simp [h6])]
   by_cases h7 : x.kind = 7
   ·obtain ⟨a0,a1⟩ := Az ho (.inr h7)
    obtain ⟨u,hu,hu'⟩ := Ee (l := (pre ++ List.replicate (k + 1) 0)) (pre := pre) a0 (by omega) (by intro j hj; exact CH hj)
    have e : yZ pre x = ⟨x.kind,x.n,x.s,u,x.b⟩ := by simp [yZ,h7,hu']
    rw [xK (by simp [h7]),yu (by rw [List.length_map]; exact Af a0 (by simp; omega)),xW hu,ye]
    have ha := Cy (p := acc) (by omega) ⟨x.kind,x.n,x.s,u,x.b⟩
    have ih := Aj hp hm k (i + 1) (pre ++ [(acc.length : Int)]) (acc ++ [⟨x.kind,x.n,x.s,u,x.b⟩]) (by simp [hpre]) (by omega) (by simp; omega)
    rw [z5 ha,yu (by rw [lnM]; exact yx (by simp; omega)),xW hz2,yA,s2,yM (by omega)]
    simp only [Ar,hpre,hx,hb,e]
    exact ih
   rw [xb (by simp [h7])]
   ·have e : yZ pre x = x := by simp [yZ,h5,h6,h7]
    have ha := Cy (p := acc) (by omega) x
    have ih := Aj hp hm k (i + 1) (pre ++ [(acc.length : Int)]) (acc ++ [x]) (by simp [hpre]) (by omega) (by simp; omega)
    rw [z5 ha,yu (by rw [lnM]; exact yx (by simp; omega)),xW hz2,yA,s2,yM (by omega)]
    simp only [Ar,hpre,hx,hb,e]
    exact ih
end Go.Eng
/-! what is kept: both sides keep the same -/
namespace Go.Eng
noncomputable section
open Go.Proofs Go.Proofs.Tryz

theorem Bc (p : List Nd) (rs : List Int) : (AJ p rs).length = p.length := by
 unfold AJ; rw [GB,EU]; simp
def Bx (d : Int) (q : List Nd) (rs : List Int) (acc : List Nd) : List Int × List Nd := Ar d q (AJ q rs) q.length [] acc
theorem Ra {n : Nat} : List.replicate (Int.toNat (ni n)) (iN 0) = (List.replicate n (0 : Int)).map eI := by simp [ni]
theorem Vk {q acc : List Nd} (hp : yW q = true) {rs : List Int} (h2 : rs.length < 4611686018427387904) (hr : zw q rs = true) (hc : acc.length + q.length < 4294967296) :
  V 137 [rP acc,eP q,.rs (1,0) (rs.map eI)] = some (.os (1,0) ((Bx (-1) q rs acc).1.map eI),[rP (Bx (-1) q rs acc).2]) := by
 have e : (q.map eN).length = q.length := lnM _
 have h := Ae hp (Bc q rs) q.length 0 [] acc rfl (Nat.zero_add _) hc
 rw [List.nil_append] at h
 rw [Jm,yu (Lh (by omega)),RM (VQ hp h2 hr)]
 have h0 : List.replicate (Int.toNat (ni (q.map eN).length)) (iN 0) = (List.replicate q.length (0 : Int)).map eI := by rw [e]; exact Ra
 rw [h0]
 exact h
theorem Vh {q acc : List Nd} (hp : yW q = true) {rs : List Int} (hc : acc.length + q.length < 4294967296) :
  V 148 [rP acc,eP q,.rs (1,0) ((AJ q rs).map D.bool)] = some (.os (1,0) ((Bx 0 q rs acc).1.map eI),[rP (Bx 0 q rs acc).2]) := by
 have e : (q.map eN).length = q.length := lnM _
 have h := Aj hp (Bc q rs) q.length 0 [] acc rfl (Nat.zero_add _) hc
 rw [List.nil_append] at h
 have h0 : List.replicate (Int.toNat (ni (q.map eN).length)) (iN 0) = (List.replicate q.length (0 : Int)).map eI := by rw [e]; exact Ra
 rw [Pi,yu (Lh (by omega)),h0]
 exact h

theorem Ef (d : Int) (q : List Nd) (m : List Bool) : ∀ (k : Nat) (pre : List Int) (acc : List Nd),(Ar d q m k pre acc).1.length = pre.length + k
 | 0,pre,acc => rfl
 | k + 1,pre,acc => by
  simp only [Ar]
  split
  ·rw [Ef d q m k]; simp; omega
  ·rw [Ef d q m k]; simp; omega
theorem LQ (d : Int) (q : List Nd) (m : List Bool) : ∀ (k : Nat) (pre : List Int) (acc : List Nd),(Ar d q m k pre acc).2.length <= acc.length + k
 | 0,pre,acc => Nat.le_refl _
 | k + 1,pre,acc => by
  simp only [Ar]
  split
  ·have := LQ d q m k (pre ++ [(acc.length : Int)]) (acc ++ [yZ pre ‹Nd›]); simp at this; omega
  ·have := LQ d q m k (pre ++ [d]) acc; omega

def zz (d : Int) (q : List Nd) (rs : List Int) : List Nd × List Int := ((Bx d q rs []).2,rs.map fun r => (Bx d q rs []).1.getD r.toNat 0)
theorem SE {l : List Int} (h : l.length < 4294967296) (x : D) : decide (ni (l.map eI ++ [x]).length <= LIM) = true :=
 decide_eq_true (by rw [pE]; simp only [ni,lnA,lnM,lnC,lnN]; omega)
theorem Gq {n : Nat} {a : List Int} (ha : a.length = n) {p : List D} {l : List Int} (h2 : l.length < 4294967296) (hr : ∀ r ∈ l,0 <= r /\ r < (n : Int)) : ∀ (k i : Nat) (out : List Int),i + k = l.length -> out.length = i -> Db (l.map eI) (ni (l.map eI).length) (i : Int) (a.map eI) (out.map eI) p = some (.tup [.agg [.os (5,0) p],.os (1,0) ((out ++ (l.drop i).map fun r => a.getD r.toNat 0).map eI)],[])
 | 0,i,out,hi,ho => by
  rw [Ga,xb (by rw [lnM]; exact yr (by omega)),List.drop_of_length_le (by omega)]; simp
 | k + 1,i,out,hi,ho => by
  obtain ⟨x,hx⟩ := xx (l := l) (i := i) (by omega)
  have hx2 := hr x (List.mem_of_getElem? hx)
  obtain ⟨u,hu⟩ := Bq (l := a) (n := x) hx2.1 (by omega)
  have e : out.map eI ++ [iN u] = (out ++ [u]).map eI := by simp
  have eg : a.getD x.toNat 0 = u := by simp [hu]
  rw [Ga,xK (by rw [lnM]; exact yz (by omega)),yu (by rw [lnM]; exact yx (by omega)),Int.toNat_natCast,xW hx,ye,yu (by rw [lnM]; exact Af hx2.1 (by omega)),xW hu,ye,yu (SE (by omega) _),yA,yM (by omega),e,tU hx,List.map_cons,eg]
  have ih := Gq ha (p := p) h2 hr k (i + 1) (out ++ [u]) (by omega) (by simp; omega)
  rw [List.append_assoc] at ih
  exact ih
theorem GF {n : Nat} {a : List Int} (ha : a.length = n) {p : List D} {l : List Int} (h2 : l.length < 4294967296) (hr : ∀ r ∈ l,0 <= r /\ r < (n : Int)) : ∀ (k i : Nat) (out : List Int),i + k = l.length -> out.length = i -> Ce (l.map eI) (i : Int) (a.map eI) (out.map eI) p = some (.tup [.agg [.os (5,0) p],.os (1,0) ((out ++ (l.drop i).map fun r => a.getD r.toNat 0).map eI)],[])
 | 0,i,out,hi,ho => by
  rw [D7,xb (by rw [lnM]; exact yr (by omega)),List.drop_of_length_le (by omega)]; simp
 | k + 1,i,out,hi,ho => by
  obtain ⟨x,hx⟩ := xx (l := l) (i := i) (by omega)
  have hx2 := hr x (List.mem_of_getElem? hx)
  obtain ⟨u,hu⟩ := Bq (l := a) (n := x) hx2.1 (by omega)
  have e : out.map eI ++ [iN u] = (out ++ [u]).map eI := by simp
  have eg : a.getD x.toNat 0 = u := by simp [hu]
  rw [D7,xK (by rw [lnM]; exact yz (by omega)),yu (by rw [lnM]; exact yx (by omega)),Int.toNat_natCast,xW hx,ye,yu (by rw [lnM]; exact Af hx2.1 (by omega)),xW hu,ye,yu (SE (by omega) _),yA,yM (by omega),e,tU hx,List.map_cons,eg]
  have ih := GF ha (p := p) h2 hr k (i + 1) (out ++ [u]) (by omega) (by simp; omega)
  rw [List.append_assoc] at ih
  exact ih
theorem DF {p : List Nd} {rs : List Int} (hr : zw p rs = true) : ∀ r ∈ rs,0 <= r /\ r < (p.length : Int) := by
 intro r h
 have := wi_iff.1 (List.all_eq_true.1 hr r h)
 omega
theorem Ww {q : List Nd} (hp : yW q = true) {rs : List Int} (h2 : rs.length < 4294967296) (hr : zw q rs = true) :
  V 66 [eP q,.rs (1,0) (rs.map eI)] = some (.tup [oP (zz (-1) q rs).1,.os (1,0) ((zz (-1) q rs).2.map eI)],[]) := by
 have hl := yX hp
 have hm : V 137 [.op [.os (5,0) []],eP q,.rs (1,0) (rs.map eI)] = _ := Vk (acc := []) hp (rs := rs) (by omega) hr (by simp; omega)
 have h := Gq (Ef (-1) q (AJ q rs) q.length [] []) (p := (Bx (-1) q rs []).2.map eN) h2 (by simpa using DF hr) rs.length 0 [] (Nat.zero_add _) rfl
 rw [Ry,LV hm]
 exact h
theorem Vi {q : List Nd} (hp : yW q = true) {rs : List Int} (h2 : rs.length < 4294967296) (hr : zw q rs = true) :
  V 86 [eP q,.rs (1,0) (rs.map eI)] = some (.tup [oP (zz 0 q rs).1,.os (1,0) ((zz 0 q rs).2.map eI)],[]) := by
 have hl := yX hp
 have hm : V 148 [.op [.os (5,0) []],eP q,.rs (1,0) ((AJ q rs).map D.bool)] = _ := Vh (acc := []) hp (rs := rs) (by simp; omega)
 have h := GF (Ef 0 q (AJ q rs) q.length [] []) (p := (Bx 0 q rs []).2.map eN) h2 (by simpa using DF hr) rs.length 0 [] (Nat.zero_add _) rfl
 rw [Pj,PG (Ua hp (by omega) hr),QW hm]
 exact h

def On (m : List Bool) (n : Int) : Prop := m[n.toNat]? = some true
theorem Mj {m : List Bool} {j i : Nat} (h : m[j]? = some true) : (m.set i true)[j]? = some true := by
 by_cases e : i = j
 ·subst e; simp [aQ h]
 ·rw [List.getElem?_set_ne e]; exact h
theorem Ml {m : List Bool} {i : Nat} (h : i < m.length) : (m.set i true)[i]? = some true := by simp [h]
theorem Tu {x : Nd} {m : List Bool} {j : Nat} (h : m[j]? = some true) : (zm x m)[j]? = some true := by
 unfold zm
 split
 ·exact Mj (Mj h)
 ·split
  ·exact Mj h
  ·exact h
theorem DC {p : List Nd} : ∀ (k : Nat) {m : List Bool} {j : Nat},m[j]? = some true -> (zl p k m)[j]? = some true
 | 0,m,j,h => h
 | k + 1,m,j,h => by
  simp only [zl]
  apply DC k
  split
  ·exact Tu h
  ·exact h
theorem Tt {p : List Nd} (hp : yW p = true) {k : Nat} {x : Nd} (hx : p[k]? = some x) {m : List Bool} {j : Nat} (h : k <= j) : (zm x m)[j]? = m[j]? := by
 have ho := z6 hp hx
 unfold zm
 split
 ·rename_i h5
  have := Ai ho h5
  rw [List.getElem?_set_ne (by omega),List.getElem?_set_ne (by omega)]
 ·split
  ·rename_i h6
   have := Az ho h6
   rw [List.getElem?_set_ne (by omega)]
  ·rfl
theorem Mi {p : List Nd} (hp : yW p = true) : ∀ (k : Nat) {m : List Bool} {j : Nat},k <= j -> (zl p k m)[j]? = m[j]?
 | 0,m,j,h => rfl
 | k + 1,m,j,h => by
  simp only [zl]
  rw [Mi hp k (by omega)]
  split
  ·rename_i x hx _; exact Tt hp ‹_› (by omega)
  ·rfl
def Rj (p : List Nd) (m : List Bool) : Prop := ∀ (i : Nat) (x : Nd),p[i]? = some x -> m[i]? = some true -> (x.kind = 5 -> On m x.a /\ On m x.b) /\ (x.kind = 6 \/ x.kind = 7 -> On m x.a)
theorem GA {p : List Nd} (hp : yW p = true) : ∀ (k : Nat) {m : List Bool},m.length = p.length -> ∀ (i : Nat) (x : Nd),i < k -> p[i]? = some x -> (zl p k m)[i]? = some true -> (x.kind = 5 -> On (zl p k m) x.a /\ On (zl p k m) x.b) /\ (x.kind = 6 \/ x.kind = 7 -> On (zl p k m) x.a)
 | 0,m,hm,i,x,hi,_,_ => by omega
 | k + 1,m,hm,i,x,hi,hx,hr => by
  by_cases e : i = k
  ·subst e
   have ho := z6 hp hx
   rw [zl] at hr ⊢
   have hmi : m[i]? = some true := by
    rw [Mi hp i (Nat.le_refl _)] at hr
    split at hr
    ·assumption
    ·exact hr
   rw [hx,hmi]
   show (_ -> On (zl p i (zm x m)) x.a /\ On (zl p i (zm x m)) x.b) /\ (_ -> On (zl p i (zm x m)) x.a)
   have hlt := aQ hx
   refine ⟨fun h5 => ?_,fun h6 => ?_⟩
   ·have := Ai ho h5
    have ea : (zm x m)[x.a.toNat]? = some true := by
     simp only [zm,h5,if_true]
     exact Mj (Ml (by omega))
    have eb : (zm x m)[x.b.toNat]? = some true := by
     simp only [zm,h5,if_true]
     exact Ml (by simp; omega)
    exact ⟨DC i ea,DC i eb⟩
   ·have := Az ho h6
    have ea : (zm x m)[x.a.toNat]? = some true := by
     have h5 : ¬ x.kind = 5 := by omega
     simp only [zm,h5,h6,if_false,if_true]
     exact Ml (by omega)
    exact DC i ea
  ·rw [zl] at hr ⊢
   refine GA hp k ?_ i x (by omega) hx hr
   split
   ·rw [Iv]; exact hm
   ·exact hm
theorem Cw {p : List Nd} (hp : yW p = true) (rs : List Int) : Rj p (AJ p rs) := by
 intro i x hx hr
 exact GA hp p.length (by rw [EU]; simp) i x (aQ hx) hx hr
theorem TP {rs : List Int} : ∀ {m : List Bool} {r : Int},(r ∈ rs /\ r.toNat < m.length) \/ m[r.toNat]? = some true -> (FQ rs m)[r.toNat]? = some true := by
 induction rs with
 | nil => intro m r h; rcases h with h | h; exact absurd h.1 (by simp); exact h
 | cons q rs ih =>
  intro m r h
  show (FQ rs (m.set q.toNat true))[r.toNat]? = some true
  apply ih
  rcases h with ⟨h,hl⟩ | h
  ·rcases List.mem_cons.1 h with rfl | h
   ·right; simp [hl]
   ·left; exact ⟨h,by simpa using hl⟩
  ·right; exact Mj h
theorem GC {p : List Nd} {rs : List Int} (hr : zw p rs = true) : ∀ r ∈ rs,On (AJ p rs) r := by
 intro r h
 have := DF hr r h
 exact DC _ (TP (.inl ⟨h,by simp; omega⟩))

theorem Kh {q : List Nd} (hp : yW q = true) {m : List Bool} (hc : Rj q m) (hm : m.length = q.length) (d d' : Int) : ∀ (k : Nat) (pre pre' : List Int) (acc : List Nd),pre.length = pre'.length -> pre.length + k = q.length -> (∀ j : Nat,m[j]? = some true -> pre[j]? = pre'[j]?) ->
  (Ar d q m k pre acc).2 = (Ar d' q m k pre' acc).2 /\ ∀ j : Nat,m[j]? = some true -> (Ar d q m k pre acc).1[j]? = (Ar d' q m k pre' acc).1[j]?
 | 0,pre,pre',acc,hl,hk,h => ⟨rfl,h⟩
 | k + 1,pre,pre',acc,hl,hk,h => by
  obtain ⟨x,hx⟩ := xx (l := q) (i := pre.length) (by omega)
  obtain ⟨b,hb⟩ := xx (l := m) (i := pre.length) (by omega)
  have step : ∀ (u u' : Int),(b = true -> u = u') -> ∀ j : Nat,m[j]? = some true -> (pre ++ [u])[j]? = (pre' ++ [u'])[j]? := by
   intro u u' huu j hj
   rcases Nat.lt_trichotomy j pre.length with h1 | h1 | h1
   ·rw [List.getElem?_append_left h1,List.getElem?_append_left (by omega)]; exact h j hj
   ·subst h1
    rw [hb] at hj; cases hj
    rw [List.getElem?_append_right (Nat.le_refl _),hl,List.getElem?_append_right (Nat.le_refl _),huu rfl]
   ·rw [List.getElem?_eq_none (by simp; omega),List.getElem?_eq_none (by simp; omega)]
  have hb' := hb
  have hx' := hx
  rw [hl] at hb' hx'
  simp only [Ar,hx,hb,hx',hb']
  cases b with
  | false => exact Kh hp hc hm d d' k _ _ acc (by simp; omega) (by simp; omega) (step d d' (fun h => by cases h))
  | true =>
   have hcl := hc _ x hx hb
   have e : yZ pre x = yZ pre' x := by
    unfold yZ
    split
    ·rename_i h5
     have h1 := h _ (hcl.1 h5).1
     have h2 := h _ (hcl.1 h5).2
     simp only [List.getD_eq_getElem?_getD,h1,h2]
    ·split
     ·rename_i h6
      have h1 := h _ (hcl.2 h6)
      simp only [List.getD_eq_getElem?_getD,h1]
     ·rfl
   have ih := Kh hp hc hm d d' k (pre ++ [(acc.length : Int)]) (pre' ++ [(acc.length : Int)]) (acc ++ [yZ pre x]) (by simp; omega) (by simp; omega) (step _ _ (fun _ => rfl))
   rw [e] at ih
   simp only [e]
   exact ih
theorem RF {q : List Nd} (hp : yW q = true) {rs : List Int} (hr : zw q rs = true) (d d' : Int) : zz d q rs = zz d' q rs := by
 have h := Kh hp (Cw hp rs) (Bc q rs) d d' q.length [] [] [] rfl (Nat.zero_add _) (fun _ _ => rfl)
 unfold zz
 refine Prod.ext h.1 ?_
 apply List.map_congr_left
 intro r hm
 have := h.2 r.toNat (GC hr r hm)
 simp only [List.getD_eq_getElem?_getD]
 exact congrArg (fun o => Option.getD o 0) this
end
end Go.Eng
/-! decimal digits,on both sides -/
namespace Go.Eng
open Go.Proofs Go.Proofs.Tryz

theorem Ws (n : Nat) : Int.tdiv (n : Int) 10 = ((n / 10 : Nat) : Int) := by
 rw [Int.tdiv_eq_ediv_of_nonneg (by omega)]; omega
theorem Wu (n : Nat) : Int.tmod (n : Int) 10 = ((n % 10 : Nat) : Int) := by
 rw [Int.tmod_eq_emod_of_nonneg (by omega)]; omega
theorem SC {a b : List UInt8} (ha : a.length <= 1000) (hb : b.length <= 1000) : decide (ni ((mk a).size + (mk b).size) <= LIM) = true :=
 decide_eq_true (by rw [pE,yO,yO]; simp only [ni]; omega)
theorem Lu {n : Nat} (h : n < 1000000000000000000) : (Fm n).length <= 20 := by
 have := Qd 18 n (by omega)
 omega
theorem U9 {d : Nat} (h : d < 10) : IntKind.wrap .u8 (w6 (48 + (d : Int))) = 48 + (d : Int) := by
 rw [w64 (by omega) (by omega),JS (by omega) (by omega)]
theorem Qg : ∀ (n : Nat) (acc : List UInt8),n < 1000000000000000000 -> acc.length + (if n = 0 then [] else Fm n).length <= 1000 -> AM (n : Int) (mk acc) = some (.str (mk ((if n = 0 then [] else Fm n) ++ acc)),[]) := by
 intro n
 induction n using Nat.strongRecOn with
 | _ n ih =>
  intro acc hn hl
  by_cases h0 : n = 0
  ·subst h0
   rw [CW,xb (by rfl),if_pos rfl]; rfl
  ·have hd : Fm n = (if n / 10 = 0 then [] else Fm (n / 10)) ++ [UInt8.ofNat (48 + n % 10)] := by
    by_cases h : n < 10
    ·rw [z3 h,if_pos (by omega),show n % 10 = n by omega]; rfl
    ·rw [Gk h,if_neg (by omega)]
   rw [if_neg h0,hd] at hl
   simp only [lnA,lnC,lnN] at hl
   rw [CW,xK (decide_eq_true (by omega)),yu (by decide),Wu,U9 (by omega),RL]
   have e : UInt8.ofNat (48 + ((n % 10 : Nat) : Int)).toNat = UInt8.ofNat (48 + n % 10) := by congr 1
   rw [e,yu (SC (by simp) (by omega)),yu (by decide),Ws,w64 (by omega) (by omega),NH,ih (n / 10) (by omega) _ (by omega) (by simp only [lnA,lnC,lnN]; omega),if_neg h0,hd]
   simp
theorem Jt {n : Nat} (h : n < 1000000000000000000) : V 202 [iN (n : Int)] = some (.str (mk (Fm n)),[]) := by
 rw [Gl,xb (decide_eq_false (by omega))]
 by_cases h0 : n = 0
 ·subst h0
  rw [xK (by rfl),z3 (by omega)]; rfl
 ·have := Qg n [] h (by have := Lu h; rw [if_neg h0]; simp; omega)
  rw [if_neg h0,List.append_nil] at this
  rw [xb (by simp; omega)]
  exact this
theorem MC {n : Int} (h : n.natAbs < 1000000000000000000) : V 202 [iN n] = some (.str (mk (FG n)),[]) := by
 by_cases h0 : n < 0
 ·have hd := Jt h
  rw [Gl,xK (decide_eq_true h0),show (0 : Int) - n = (n.natAbs : Int) by omega,w64 (by omega) (by omega),EJ hd]
  rw [<- show mk [45] = ⟨#[45]⟩ from rfl,yu (SC (a := [45]) (by simp) (by have := Lu h; omega)),NH,FG,if_pos h0]
  rfl
 ·have := Jt h
  rw [show (n.natAbs : Int) = n by omega] at this
  rw [this,FG,if_neg h0]
end Go.Eng
/-! what is written of a value: the reference's side -/
namespace Go.Eng
open Go.Proofs Go.Proofs.Tryz

noncomputable def WA (x : Nd) : List UInt8 :=
 if x.kind = 1 then [40,41]
 else if x.kind = 2 then (if x.n = 1 then [35,116] else [35,102])
 else if x.kind = 3 then FG x.n
 else if x.kind = 4 then x.s.data.toList
 else if x.kind = 6 then [35,102,117,110] ++ FG x.n
 else if x.kind = 7 then [35,107,111,110,116] ++ FG x.n
 else if x.kind = 8 then [35,112,114,105,109] ++ FG x.n
 else [35,112,105,100] ++ FG x.n
noncomputable def wr (p : List Nd) : Nat -> Bool -> Nat -> List UInt8 -> List UInt8
 | 0,_,_,out => out
 | g + 1,false,v,out => if out.length > 400 then out else
  match p[v]? with
  | some x => if x.kind = 5 then wr p g true x.b.toNat (wr p g false x.a.toNat (out ++ [40])) else out ++ WA x
  | none => out
 | g + 1,true,v,out =>
  match p[v]? with
  | some x => if x.kind = 5 /\ out.length <= 400 then wr p g true x.b.toNat (wr p g false x.a.toNat (out ++ [32]))
   else if x.kind = 1 then out ++ [41] else wr p g false v (out ++ [32,46,32]) ++ [41]
  | none => out
theorem UF {s : ByteArray} (h : Ig s = true) : s.size <= 12 := by
 simp only [Ig,Bool.and_eq_true,wi,decide_eq_true_eq] at h; omega
theorem UK {x : Nd} {h : Int} (ho : okN x h = true) (hk : x.kind = 4) : Ig x.s = true := by
 simp [okN,hk] at ho; exact ho.2.1
theorem UJ {x : Nd} {h : Int} (ho : okN x h = true) : 1 <= x.kind /\ x.kind <= 9 := by
 unfold okN at ho
 repeat' split at ho
 all_goals (first | omega | (cases ho))
end Go.Eng
/-! what is written of a value: the program's side,as plain lists -/
namespace Go.Eng
open Go.Proofs Go.Proofs.Tryz

end Go.Eng
/-! what is written of a value: the program's side -/
namespace Go.Eng
open Go.Proofs Go.Proofs.Tryz

theorem lit (l : List UInt8) : (ByteArray.mk l.toArray) = mk l := rfl
end Go.Eng
/-! code and machines: when they are right,on both sides -/
namespace Go.Eng
noncomputable section
open Go.Proofs Go.Proofs.Tryz
set_option maxHeartbeats 4000000

structure In where
 op : Int
 n : Int
 i : Int
 s : ByteArray
structure Df where
 name : ByteArray
 at' : Int
 args : Int
structure Cd where
 pool : List Nd
 list : List In
 defs : List Df
abbrev eIn (x : In) : D := .agg [iN x.op,iN x.n,iN x.i,.str x.s]
abbrev eDf (x : Df) : D := .agg [.str x.name,iN x.at',iN x.args]
abbrev eCd (c : Cd) : D := .agg [.rs (5,0) (c.pool.map eN),.rs (4,0) (c.list.map eIn),.rs (3,0) (c.defs.map eDf)]
abbrev oCd (c : Cd) : D := .agg [.os (5,0) (c.pool.map eN),.os (4,0) (c.list.map eIn),.os (3,0) (c.defs.map eDf)]
structure FitsC (c : Cd) : Prop where
 pool : Aw c.pool
 plen : c.pool.length < 4611686018427387904
 list : ∀ x ∈ c.list,x.s.size < 4611686018427387904
 llen : c.list.length < 4611686018427387904
 defs : ∀ x ∈ c.defs,x.name.size < 4611686018427387904
 dlen : c.defs.length < 4611686018427387904
section
variable {R : Type}
end
def Gb (c : Cd) (s : ByteArray) : Int := ya (fun d : Df => kc d.name s) c.defs
theorem Iq {l : List Df} (hl : l.length < 4611686018427387904) (s : ByteArray) : ∀ (k i : Nat),i + k = l.length -> Am (l.map eDf) s (ni (l.map eDf).length) (i : Int) = some (iN (dQ (fun d : Df => kc d.name s) l i),[])
 | 0,i,hi => by
  rw [Ci,w8 (by omega)]
  simp (disch := first | omega | (simp only [lnA,lnC,lnN,lnM,yO,wY]; omega)) only [↓xJ,yI,lnM,wY]
 | k + 1,i,hi => by
  obtain ⟨x,hx⟩ := xx (l := l) (i := i) (by omega)
  have ih := Iq hl s k (i + 1) (by omega)
  have hd : V 179 [eDf x,.bp [.str s]] = some (.bool (kc x.name s),[]) := by rw [Ut]
  have hw : w6 ((i : Int) + 1) = ((i + 1 : Nat) : Int) := yM (by omega)
  rw [Ci]
  cases h : kc x.name s with
  | true => rw [w9 hx h]; rw [h] at hd; simp (disch := first | omega | (simp only [lnA,lnC,lnN,lnM,yO,wY]; omega)) only [↓wZ,xi,↓yk,↓xP,↓yo,↓yb,↓ye,↓xI,↓yi,↓xu,↓xX,yJ,Bool.and_true,lnM,wY,↓xW hx,hd]
  | false =>
   rw [h] at hd
   rw [wJ hx h,<- ih,lnM]; simp (disch := first | omega | (simp only [lnA,lnC,lnN,lnM,yO,wY]; omega)) only [↓wZ,xi,↓yk,↓xJ,↓xP,↓yo,↓yb,↓ye,↓xI,↓yi,↓xu,↓xX,yJ,Bool.and_true,wY,↓xW hx,hd,hw]
theorem JM {c : Cd} (hf : FitsC c) (s : ByteArray) : V 125 [eCd c,.str s] = some (iN (Gb c s),[]) := by
 have h := Iq hf.dlen s c.defs.length 0 (Nat.zero_add _)
 rw [wK,Int.natCast_zero] at h
 have h2 : V 178 [.rs (3,0) (c.defs.map eDf),.fn 179 [.bp [.str s]]] = some (iN (Gb c s),[]) := by
  rw [JY]; exact h
 rw [Qi]
 simp (disch := first | omega | (simp only [lnA,lnC,lnN,lnM,yO,wY]; omega)) only [↓wZ,xi,↓yo,↓ye,h2]
theorem IA {l : List Df} (hl : l.length < 4611686018427387904) (s : ByteArray) (p q : List D) : ∀ (k i : Nat),i + k = l.length -> Cn s (i : Int) p q (l.map eDf) = some (iN (dQ (fun d : Df => kc d.name s) l i),[])
 | 0,i,hi => by
  rw [Ff,w8 (by omega)]
  simp (disch := first | omega | (simp only [lnA,lnC,lnN,lnM,yO,wY]; omega)) only [↓xJ,yI,lnM,wY]
 | k + 1,i,hi => by
  obtain ⟨x,hx⟩ := xx (l := l) (i := i) (by omega)
  have ih := IA hl s p q k (i + 1) (by omega)
  have hw : w6 ((i : Int) + 1) = ((i + 1 : Nat) : Int) := yM (by omega)
  rw [Ff]
  cases h : kc x.name s with
  | true => rw [w9 hx h]; simp (disch := first | omega | (simp only [lnA,lnC,lnN,lnM,yO,wY]; omega)) only [↓yk,↓xP,↓yi,↓xu,↓xz,xz,↓xX,yJ,Bool.and_true,lnM,wY,↓xW hx,h]
  | false => rw [wJ hx h,<- ih]; simp (disch := first | omega | (simp only [lnA,lnC,lnN,lnM,yO,wY]; omega)) only [↓yk,↓xJ,↓xP,↓yi,↓xu,↓xz,xz,↓xX,yJ,Bool.and_true,lnM,wY,↓xW hx,h,hw]
theorem JP {c : Cd} (hf : FitsC c) (s : ByteArray) : V 129 [eCd c,.str s] = some (iN (Gb c s),[]) := by
 have h := IA hf.dlen s (c.pool.map eN) (c.list.map eIn) c.defs.length 0 (Nat.zero_add _)
 rw [wK,Int.natCast_zero] at h
 rw [Qk]
 exact h

def RU (c : Cd) (x : In) (k : Int) : Bool :=
 if x.op = 1 then wi x.n 0 ((c.pool.length : Int) - 1) && (x.i == 0 && nz x.s)
 else if x.op = 2 then wi x.n 0 20 && (wi x.i 0 3 && nz x.s)
 else if x.op = 3 then x.n == 0 && (x.i == 0 && Ig x.s)
 else if x.op = 4 \/ x.op = 5 then wi x.n (k + 1) (c.list.length : Int) && (x.i == 0 && nz x.s)
 else if x.op = 6 then wi x.n (k + 1) ((c.list.length : Int) - 1) && (wi x.i 0 4 && nz x.s)
 else if x.op = 7 then x.n == 0 && (wi x.i 0 4 && nz x.s)
 else if x.op = 8 \/ x.op = 9 then x.n == 0 && (x.i == 0 && nz x.s)
 else false
theorem We (n k h : Int) : wi n (k + 1) h = (decide (n > k) && decide (n <= h)) := by
 unfold wi
 congr 1
theorem Wx (n k h : Int) : wi n (k + 1) (h - 1) = (decide (n > k) && decide (n < h)) := by
 unfold wi
 congr 1
 exact decide_eq_decide.2 (by omega)
theorem Mz {c : Cd} (hf : FitsC c) {k : Nat} {x : In} (hx : c.list[k]? = some x) : V 123 [eCd c,iN (k : Int)] = some (.bool (RU c x k),[]) := by
 have hk := aQ hx
 have hl := hf.llen
 have hp := hf.plen
 have hs := hf.list x (List.mem_of_getElem? hx)
 rw [MO]
 unfold RU
 have hnm := EW hs
 have hnode := DI hp x.n
 by_cases h1 : x.op = 1
 ·rw [if_pos h1]; simp (disch := first | omega | (simp only [lnA,lnC,lnN,lnM,yO,wY]; omega)) only [↓wZ,xi,↓yk,↓xP,↓yo,↓yb,↓ye,↓xI,↓yi,↓xu,↓xX,yJ,yF,Bool.and_true,lnM,wY,↓xW hx,hnode]; simp only [y5]; rfl
 rw [if_neg h1]
 by_cases h2 : x.op = 2
 ·rw [if_pos h2]; simp (disch := first | omega | (simp only [lnA,lnC,lnN,lnM,yO,wY]; omega)) only [↓wZ,xi,↓yk,↓xJ,↓xP,↓yo,↓yb,↓ye,↓xI,↓yi,↓xu,↓xX,yJ,yF,yE,Bool.and_true,lnM,wY,↓xW hx,y0]; simp only [y5]; rfl
 rw [if_neg h2]
 by_cases h3 : x.op = 3
 ·rw [if_pos h3]; simp (disch := first | omega | (simp only [lnA,lnC,lnN,lnM,yO,wY]; omega)) only [↓wZ,xi,↓yk,↓xJ,↓xP,↓yo,↓yb,↓ye,↓xI,↓yi,↓xu,↓xX,yJ,yF,yE,Bool.and_true,lnM,wY,↓xW hx,hnm]; simp only [y5]
 rw [if_neg h3]
 by_cases h4 : x.op = 4
 ·rw [if_pos (.inl h4)]; simp (disch := first | omega | (simp only [lnA,lnC,lnN,lnM,yO,wY]; omega)) only [↓wZ,xi,↓yk,↓xJ,↓xP,↓yo,↓yb,↓ye,↓xI,↓yi,↓xu,↓xX,yJ,yF,yE,Bool.and_true,lnM,wS,wY,↓xW hx,y0]; simp only [y5]; rfl
 by_cases h5 : x.op = 5
 ·rw [if_pos (.inr h5)]; simp (disch := first | omega | (simp only [lnA,lnC,lnN,lnM,yO,wY]; omega)) only [↓wZ,xi,↓yk,↓xJ,↓xP,↓yo,↓yb,↓ye,↓xI,↓yi,↓xu,↓xX,yJ,yF,yE,Bool.and_true,lnM,wS,wY,↓xW hx,y0]; simp only [y5]; rfl
 rw [if_neg (by omega)]
 by_cases h6 : x.op = 6
 ·rw [if_pos h6]; simp (disch := first | omega | (simp only [lnA,lnC,lnN,lnM,yO,wY]; omega)) only [↓wZ,xi,↓yk,↓xJ,↓xP,↓yo,↓yb,↓ye,↓xI,↓yi,↓xu,↓xX,yJ,yF,yE,Bool.and_true,lnM,wS,wY,↓xW hx,y0]; simp only [y5]; rfl
 rw [if_neg h6]
 by_cases h7 : x.op = 7
 ·rw [if_pos h7]; simp (disch := first | omega | (simp only [lnA,lnC,lnN,lnM,yO,wY]; omega)) only [↓wZ,xi,↓yk,↓xJ,↓xP,↓yo,↓yb,↓ye,↓xI,↓yi,↓xu,↓xX,yJ,yF,yE,Bool.and_true,lnM,wY,↓xW hx,y0]; simp only [y5]; rfl
 rw [if_neg h7]
 by_cases h8 : x.op = 8
 ·rw [if_pos (.inl h8)]; simp (disch := first | omega | (simp only [lnA,lnC,lnN,lnM,yO,wY]; omega)) only [↓yk,↓xJ,↓xP,↓yo,↓yb,↓ye,↓yi,↓xu,↓xX,yJ,yF,yE,Bool.and_true,lnM,wY,↓xW hx]; simp only [y5]; rfl
 by_cases h9 : x.op = 9
 ·rw [if_pos (.inr h9)]; simp (disch := first | omega | (simp only [lnA,lnC,lnN,lnM,yO,wY]; omega)) only [↓yk,↓xJ,↓xP,↓yo,↓yb,↓ye,↓yi,↓xu,↓xX,yJ,yF,yE,Bool.and_true,lnM,wY,↓xW hx]; simp only [y5]; rfl
 rw [if_neg (by omega)]
 simp (disch := first | omega | (simp only [lnA,lnC,lnN,lnM,yO,wY]; omega)) only [↓xJ,↓xP,↓yo,↓yb,↓ye,↓yi,↓xu,↓xX,yJ,yE,Bool.and_true,lnM,wY,↓xW hx]
theorem TZ {c : Cd} (hf : FitsC c) {k : Nat} {x : In} (hx : c.list[k]? = some x) : V 127 [eCd c,iN (k : Int)] = some (.bool (RU c x k),[]) := by
 have hk := aQ hx
 have hl := hf.llen
 have hp := hf.plen
 have hs := hf.list x (List.mem_of_getElem? hx)
 have hself : kc x.s x.s = true := by rw [DG]; simp
 rw [Nb]
 unfold RU
 have hnm := Cz hs
 have hnode := Ew hp x.n
 by_cases h1 : x.op = 1
 ·rw [if_pos h1]; simp (disch := first | omega | (simp only [lnA,lnC,lnN,lnM,yO,wY]; omega)) only [↓wZ,xi,↓yk,↓xP,↓yo,↓yb,↓ye,↓xI,↓yi,↓xu,↓xX,yJ,yF,Bool.true_and,Bool.and_true,lnM,wY,↓xW hx,hnode]; simp only [y5]
  show some (D.bool (_ && nz x.s && _),_) = _
  cases wi x.n 0 ((c.pool.length : Int) - 1) <;> cases x.i == 0 <;> cases nz x.s <;> rfl
 rw [if_neg h1]
 by_cases h2 : x.op = 2
 ·rw [if_pos h2]; simp (disch := first | omega | (simp only [lnA,lnC,lnN,lnM,yO,wY]; omega)) only [↓wZ,xi,↓yk,↓xJ,↓xP,↓yo,↓yb,↓ye,↓xI,↓yi,↓xu,↓xX,yJ,yF,yE,Bool.and_true,lnM,wY,↓xW hx,zI]; simp only [y5]
  show some (D.bool (nz x.s && _),_) = _
  cases wi x.n 0 20 <;> cases wi x.i 0 3 <;> cases nz x.s <;> rfl
 rw [if_neg h2]
 by_cases h3 : x.op = 3
 ·rw [if_pos h3]; simp (disch := first | omega | (simp only [lnA,lnC,lnN,lnM,yO,wY]; omega)) only [↓wZ,xi,↓yk,↓xJ,↓xP,↓yo,↓yb,↓ye,↓xI,↓yi,↓xu,↓xX,yJ,yF,yE,Bool.true_and,Bool.and_true,lnM,wY,↓xW hx,hnm,hself]; simp only [y5]
  cases x.n == 0 <;> cases x.i == 0 <;> cases Ig x.s <;> rfl
 rw [if_neg h3]
 by_cases h4 : x.op = 4
 ·rw [if_pos (.inl h4),We]; simp (disch := first | omega | (simp only [lnA,lnC,lnN,lnM,yO,wY]; omega)) only [↓yk,↓xJ,↓xP,↓yo,↓yb,↓ye,↓yi,↓xu,↓xX,yJ,yF,yE,Bool.true_and,Bool.and_true,lnM,wY,↓xW hx]; simp only [y5]
  show some (D.bool (_ && nz x.s && _),_) = _
  cases decide (x.n > (k : Int)) <;> cases decide (x.n <= (c.list.length : Int)) <;> cases x.i == 0 <;> cases nz x.s <;> rfl
 by_cases h5 : x.op = 5
 ·rw [if_pos (.inr h5),We]; simp (disch := first | omega | (simp only [lnA,lnC,lnN,lnM,yO,wY]; omega)) only [↓yk,↓xJ,↓xP,↓yo,↓yb,↓ye,↓yi,↓xu,↓xX,yJ,yF,yE,Bool.true_and,Bool.and_true,lnM,wY,↓xW hx]; simp only [y5]
  show some (D.bool (_ && nz x.s && _),_) = _
  cases decide (x.n > (k : Int)) <;> cases decide (x.n <= (c.list.length : Int)) <;> cases x.i == 0 <;> cases nz x.s <;> rfl
 rw [if_neg (by omega)]
 by_cases h6 : x.op = 6
 ·rw [if_pos h6,Wx]; simp (disch := first | omega | (simp only [lnA,lnC,lnN,lnM,yO,wY]; omega)) only [↓wZ,xi,↓yk,↓xJ,↓xP,↓yo,↓yb,↓ye,↓xI,↓yi,↓xu,↓xX,yJ,yF,yE,Bool.and_true,lnM,wY,↓xW hx,zI]; simp only [y5]
  show some (D.bool (nz x.s && _),_) = _
  cases decide (x.n > (k : Int)) <;> cases decide (x.n < (c.list.length : Int)) <;> cases wi x.i 0 4 <;> cases nz x.s <;> rfl
 rw [if_neg h6]
 by_cases h7 : x.op = 7
 ·rw [if_pos h7]; simp (disch := first | omega | (simp only [lnA,lnC,lnN,lnM,yO,wY]; omega)) only [↓wZ,xi,↓yk,↓xJ,↓xP,↓yo,↓yb,↓ye,↓xI,↓yi,↓xu,↓xX,yJ,yF,yE,Bool.true_and,Bool.and_true,lnM,wY,↓xW hx,zI]; simp only [y5]
  show some (D.bool (_ && nz x.s && _),_) = _
  cases x.n == 0 <;> cases wi x.i 0 4 <;> cases nz x.s <;> rfl
 rw [if_neg h7]
 by_cases h8 : x.op = 8
 ·rw [if_pos (.inl h8)]; simp (disch := first | omega | (simp only [lnA,lnC,lnN,lnM,yO,wY]; omega)) only [↓yk,↓xJ,↓xP,↓yo,↓yb,↓ye,↓yi,↓xu,↓xX,yJ,yF,yE,Bool.true_and,Bool.and_true,lnM,wY,↓xW hx]; rfl
 by_cases h9 : x.op = 9
 ·rw [if_pos (.inr h9)]; simp (disch := first | omega | (simp only [lnA,lnC,lnN,lnM,yO,wY]; omega)) only [↓yk,↓xJ,↓xP,↓yo,↓yb,↓ye,↓yi,↓xu,↓xX,yJ,yF,yE,Bool.true_and,Bool.and_true,lnM,wY,↓xW hx]; rfl
 rw [if_neg (by omega)]
 simp (disch := first | omega | (simp only [lnA,lnC,lnN,lnM,yO,wY]; omega)) only [↓xJ,↓xP,↓yo,↓yb,↓ye,↓yi,↓xu,↓xX,yJ,yE,Bool.and_true,lnM,wY,↓xW hx]

def Fx (c : Cd) : Nat -> Nat -> Bool
 | _,0 => true
 | i,k + 1 => (match c.list[i]? with | some x => RU c x i | none => true) && Fx c (i + 1) k
def Wl (c : Cd) (d : Df) (i : Int) : Bool := Ig d.name && (Gb c d.name == i && (wi d.at' 0 ((c.list.length : Int) - 1) && wi d.args 0 4))
def CJ (c : Cd) : Nat -> Nat -> Bool
 | _,0 => true
 | i,k + 1 => (match c.defs[i]? with | some d => Wl c d i | none => true) && CJ c (i + 1) k
def AU (c : Cd) : Bool := yW c.pool && (decide (c.list.length <= 400) && (decide (c.defs.length <= 20) && (Fx c 0 c.list.length && CJ c 0 c.defs.length)))
theorem Gp {c : Cd} (hf : FitsC c) : ∀ (k i : Nat),i + k = c.defs.length -> Bi (c.defs.map eDf) (ni (c.defs.map eDf).length) (i : Int) (c.pool.map eN) (c.list.map eIn) (c.defs.map eDf) = some (.bool (CJ c i k),[])
 | 0,i,hi => by
  have hd := hf.dlen
  rw [Di]
  simp (disch := first | omega | (simp only [lnA,lnC,lnN,lnM,yO,wY]; omega)) only [↓xJ,yI,lnM,wY]
  rfl
 | k + 1,i,hi => by
  have hd := hf.dlen
  have hll := hf.llen
  obtain ⟨x,hx⟩ := xx (l := c.defs) (i := i) (by omega)
  have ih := Gp hf k (i + 1) (by omega)
  rw [lnM] at ih
  have hw : w6 ((i : Int) + 1) = ((i + 1 : Nat) : Int) := yM (by omega)
  have hdf := JM hf x.name
  have hnm := EW (hf.defs x (List.mem_of_getElem? hx))
  rw [Di]
  simp only [CJ,hx,Wl]
  cases e1 : Ig x.name with
  | false => rw [e1] at hnm; simp (disch := first | omega | (simp only [lnA,lnC,lnN,lnM,yO,wY]; omega)) only [↓wZ,xi,↓yk,↓xP,↓yo,↓yb,↓ye,↓xI,↓yi,↓xu,↓xX,yJ,Bool.and_true,Bool.false_and,Bool.not_false,lnM,wY,↓xW hx,hnm]
  | true =>
   rw [e1] at hnm
   by_cases e2 : Gb c x.name = (i : Int)
   ·rw [e2] at hdf
    simp (disch := first | omega | (simp only [lnA,lnC,lnN,lnM,yO,wY]; omega)) only [↓wZ,xi,↓yk,↓xJ,↓xP,↓yo,↓yb,↓ye,↓xI,↓yi,↓xu,↓xX,yJ,yF,yG,Bool.true_and,Bool.and_true,Bool.not_true,lnM,wS,wY,↓xW hx,hnm,hdf,e2,y0,hw,ih]
    cases wi x.at' 0 ((c.list.length : Int) - 1) <;> cases wi x.args 0 4 <;> rfl
   ·simp (disch := first | omega | (simp only [lnA,lnC,lnN,lnM,yO,wY]; omega)) only [↓wZ,xi,↓yk,↓xJ,↓xP,↓yo,↓yb,↓ye,↓xI,↓yi,↓xu,↓xX,yJ,yE,yH,Bool.and_true,Bool.false_and,Bool.and_false,Bool.not_true,lnM,wY,↓xW hx,hnm,hdf]
theorem GE {c : Cd} (hf : FitsC c) : ∀ (k i : Nat),i + k = c.defs.length -> BQ (i : Int) (c.pool.map eN) (c.list.map eIn) (c.defs.map eDf) = some (.bool (CJ c i k),[])
 | 0,i,hi => by
  have hd := hf.dlen
  rw [DT]
  simp (disch := first | omega | (simp only [lnA,lnC,lnN,lnM,yO,wY]; omega)) only [↓xJ,yI,lnM,wY]
  rfl
 | k + 1,i,hi => by
  have hd := hf.dlen
  have hll := hf.llen
  obtain ⟨x,hx⟩ := xx (l := c.defs) (i := i) (by omega)
  have ih := GE hf k (i + 1) (by omega)
  have hw : w6 ((i : Int) + 1) = ((i + 1 : Nat) : Int) := yM (by omega)
  have hdf := JP hf x.name
  have hnm := Cz (hf.defs x (List.mem_of_getElem? hx))
  rw [DT]
  simp only [CJ,hx,Wl]
  cases e1 : Ig x.name with
  | false => rw [e1] at hnm; simp (disch := first | omega | (simp only [lnA,lnC,lnN,lnM,yO,wY]; omega)) only [↓wZ,xi,↓yk,↓xP,↓yo,↓yb,↓ye,↓xI,↓yi,↓xu,↓xX,yJ,Bool.and_true,Bool.false_and,Bool.not_false,lnM,wY,↓xW hx,hnm]
  | true =>
   rw [e1] at hnm
   by_cases e2 : Gb c x.name = (i : Int)
   ·rw [e2] at hdf
    simp (disch := first | omega | (simp only [lnA,lnC,lnN,lnM,yO,wY]; omega)) only [↓wZ,xi,↓yk,↓xJ,↓xP,↓yo,↓yb,↓ye,↓xI,↓yi,↓xu,↓xX,yJ,yF,yG,Bool.true_and,Bool.and_true,Bool.not_true,lnM,wS,wY,↓xW hx,hnm,hdf,e2,zI,hw,ih]
    cases wi x.at' 0 ((c.list.length : Int) - 1) <;> cases wi x.args 0 4 <;> rfl
   ·simp (disch := first | omega | (simp only [lnA,lnC,lnN,lnM,yO,wY]; omega)) only [↓wZ,xi,↓yk,↓xJ,↓xP,↓yo,↓yb,↓ye,↓xI,↓yi,↓xu,↓xX,yJ,yE,yH,Bool.and_true,Bool.false_and,Bool.and_false,Bool.not_true,lnM,wY,↓xW hx,hnm,hdf]
theorem Iu {c : Cd} (hf : FitsC c) : ∀ (k i : Nat),i + k = c.list.length -> BC (ni (c.list.map eIn).length) (i : Int) (c.pool.map eN) (c.list.map eIn) (c.defs.map eDf) = some (.bool (Fx c i k && CJ c 0 c.defs.length),[])
 | 0,i,hi => by
  have hll := hf.llen
  have h := Gp hf c.defs.length 0 (Nat.zero_add _)
  rw [Int.natCast_zero,lnM] at h
  rw [DL]
  simp (disch := first | omega | (simp only [lnA,lnC,lnN,lnM,yO,wY]; omega)) only [↓xJ,yI,lnM,wY,h]
  rfl
 | k + 1,i,hi => by
  have hll := hf.llen
  obtain ⟨x,hx⟩ := xx (l := c.list) (i := i) (by omega)
  have ih := Iu hf k (i + 1) (by omega)
  rw [lnM] at ih
  have hw : w6 ((i : Int) + 1) = ((i + 1 : Nat) : Int) := yM (by omega)
  have hi := Mz hf hx
  rw [DL]
  simp only [Fx,hx]
  cases e1 : RU c x i with
  | false => rw [e1] at hi; simp (disch := first | omega | (simp only [lnA,lnC,lnN,lnM,yO,wY]; omega)) only [↓wZ,xi,↓yk,↓yo,↓xI,yJ,Bool.false_and,Bool.not_false,lnM,wY,hi]
  | true => rw [e1] at hi; simp (disch := first | omega | (simp only [lnA,lnC,lnN,lnM,yO,wY]; omega)) only [↓wZ,xi,↓yk,↓xJ,↓yo,↓xI,yJ,Bool.true_and,Bool.not_true,lnM,wY,hi,hw,ih]
theorem IC {c : Cd} (hf : FitsC c) : ∀ (k i : Nat),i + k = c.list.length -> BM (i : Int) (c.pool.map eN) (c.list.map eIn) (c.defs.map eDf) = some (.bool (Fx c i k && CJ c 0 c.defs.length),[])
 | 0,i,hi => by
  have hll := hf.llen
  have h := GE hf c.defs.length 0 (Nat.zero_add _)
  rw [Int.natCast_zero] at h
  rw [DR]
  simp (disch := first | omega | (simp only [lnA,lnC,lnN,lnM,yO,wY]; omega)) only [↓xJ,yI,lnM,wY,h]
  rfl
 | k + 1,i,hi => by
  have hll := hf.llen
  obtain ⟨x,hx⟩ := xx (l := c.list) (i := i) (by omega)
  have ih := IC hf k (i + 1) (by omega)
  have hw : w6 ((i : Int) + 1) = ((i + 1 : Nat) : Int) := yM (by omega)
  have hi := TZ hf hx
  rw [DR]
  simp only [Fx,hx]
  cases e1 : RU c x i with
  | false => rw [e1] at hi; simp (disch := first | omega | (simp only [lnA,lnC,lnN,lnM,yO,wY]; omega)) only [↓wZ,xi,↓yk,↓yo,↓xI,yJ,Bool.false_and,Bool.not_false,lnM,wY,hi]
  | true => rw [e1] at hi; simp (disch := first | omega | (simp only [lnA,lnC,lnN,lnM,yO,wY]; omega)) only [↓wZ,xi,↓yk,↓xJ,↓yo,↓xI,yJ,Bool.true_and,Bool.not_true,lnM,wY,hi,hw,ih]
theorem IG {c : Cd} (hf : FitsC c) : V 54 [eCd c] = some (.bool (AU c),[]) := by
 have hp := Bh hf.pool hf.plen
 have h := Iu hf c.list.length 0 (Nat.zero_add _)
 rw [Int.natCast_zero,lnM] at h
 rw [Ot]
 unfold AU
 cases e1 : yW c.pool with
 | false => rw [e1] at hp; simp (disch := first | omega | (simp only [lnA,lnC,lnN,lnM,yO,wY]; omega)) only [↓wZ,xi,↓yk,↓yo,↓xI,Bool.false_and,Bool.not_false,hp]
 | true =>
  rw [e1] at hp
  by_cases e2 : c.list.length <= 400
  ·by_cases e3 : c.defs.length <= 20
   ·simp (disch := first | omega | (simp only [lnA,lnC,lnN,lnM,yO,wY]; omega)) only [↓wZ,xi,↓xJ,↓yo,↓xI,yJ,yI,Bool.true_and,Bool.not_true,lnM,wY,hp,h]
   ·simp (disch := first | omega | (simp only [lnA,lnC,lnN,lnM,yO,wY]; omega)) only [↓wZ,xi,↓yk,↓xJ,↓yo,↓xI,yJ,yI,Bool.false_and,Bool.and_false,Bool.not_true,lnM,wY,hp]
  ·simp (disch := first | omega | (simp only [lnA,lnC,lnN,lnM,yO,wY]; omega)) only [↓wZ,xi,↓yk,↓xJ,↓yo,↓xI,yJ,yI,Bool.false_and,Bool.and_false,Bool.not_true,lnM,wY,hp]
theorem EZ {c : Cd} (hf : FitsC c) : V 59 [eCd c] = some (.bool (AU c),[]) := by
 have hp := zr hf.pool hf.plen
 have h := IC hf c.list.length 0 (Nat.zero_add _)
 rw [Int.natCast_zero] at h
 rw [OL]
 unfold AU
 cases e1 : yW c.pool with
 | false => rw [e1] at hp; simp (disch := first | omega | (simp only [lnA,lnC,lnN,lnM,yO,wY]; omega)) only [↓wZ,xi,↓yk,↓yo,↓xI,Bool.false_and,Bool.not_false,hp]
 | true =>
  rw [e1] at hp
  by_cases e2 : c.list.length <= 400
  ·by_cases e3 : c.defs.length <= 20
   ·simp (disch := first | omega | (simp only [lnA,lnC,lnN,lnM,yO,wY]; omega)) only [↓wZ,xi,↓xJ,↓yo,↓xI,yJ,yI,Bool.true_and,Bool.not_true,lnM,wY,hp,h]
   ·simp (disch := first | omega | (simp only [lnA,lnC,lnN,lnM,yO,wY]; omega)) only [↓wZ,xi,↓yk,↓xJ,↓yo,↓xI,yJ,yI,Bool.false_and,Bool.and_false,Bool.not_true,lnM,wY,hp]
  ·simp (disch := first | omega | (simp only [lnA,lnC,lnN,lnM,yO,wY]; omega)) only [↓wZ,xi,↓yk,↓xJ,↓yo,↓xI,yJ,yI,Bool.false_and,Bool.and_false,Bool.not_true,lnM,wY,hp]

structure Mc where
 pool : List Nd
 at' : Int
 s : Int
 e : Int
 d : Int
 state : Int
 ask : Int
 arg : Int
abbrev eMc (m : Mc) : D := .agg [.rs (5,0) (m.pool.map eN),iN m.at',iN m.s,iN m.e,iN m.d,iN m.state,iN m.ask,iN m.arg]
abbrev oMc (m : Mc) : D := .agg [.os (5,0) (m.pool.map eN),iN m.at',iN m.s,iN m.e,iN m.d,iN m.state,iN m.ask,iN m.arg]
def Pu (p : List Nd) (v : Int) : Bool := wi v 0 ((p.length : Int) - 1)
def VJ (c : Cd) (m : Mc) : Bool :=
 if m.state = 0 then wi m.at' 0 ((c.list.length : Int) - 1) && (m.ask == 0 && m.arg == 0)
 else if m.state = 1 then wi m.at' 0 ((c.list.length : Int) - 1) && (wi m.ask 13 19 && ((m.ask != 18) && Pu m.pool m.arg))
 else if m.state = 2 then m.at' == 0 && (m.ask == 0 && Pu m.pool m.arg)
 else if m.state = 3 then m.at' == 0 && (wi m.ask 1 7 && m.arg == 0)
 else false
def RV (c : Cd) (m : Mc) : Bool := AU c && (yW m.pool && (Pu m.pool m.s && (Pu m.pool m.e && (Pu m.pool m.d && VJ c m))))
theorem TV {c : Cd} (hl : c.list.length < 4611686018427387904) (n : Int) : V 57 [eCd c,iN n] = some (.bool (wi n 0 ((c.list.length : Int) - 1)),[]) := by
 rw [MQ]
 simp (disch := first | omega | (simp only [lnA,lnC,lnN,lnM,yO,wY]; omega)) only [↓wZ,xi,↓yo,↓xI,lnM,wS,wY,y0]
theorem Kj {c : Cd} (hf : FitsC c) {m : Mc} (hm : Aw m.pool) (hl : m.pool.length < 4611686018427387904) : V 14 [eCd c,eMc m] = some (.bool (RV c m),[]) := by
 have hc := IG hf
 have hp := Bh hm hl
 have h1 := DI hl m.s
 have h2 := DI hl m.e
 have h3 := DI hl m.d
 have h4 := DI hl m.arg
 have h5 := TV hf.llen m.at'
 rw [KM]
 unfold RV Pu
 cases e1 : AU c with
 | false => rw [e1] at hc; simp (disch := first | omega | (simp only [lnA,lnC,lnN,lnM,yO,wY]; omega)) only [↓wZ,xi,↓yk,↓yo,↓xI,Bool.false_and,Bool.not_false,hc]
 | true =>
 rw [e1] at hc
 cases e2 : yW m.pool with
 | false => rw [e2] at hp; simp (disch := first | omega | (simp only [lnA,lnC,lnN,lnM,yO,wY]; omega)) only [↓wZ,xi,↓yk,↓xJ,↓yo,↓xI,Bool.false_and,Bool.and_false,Bool.not_true,Bool.not_false,hc,hp]
 | true =>
 rw [e2] at hp
 cases e3 : wi m.s 0 ((m.pool.length : Int) - 1) with
 | false => rw [e3] at h1; simp (disch := first | omega | (simp only [lnA,lnC,lnN,lnM,yO,wY]; omega)) only [↓wZ,xi,↓yk,↓xJ,↓yo,↓xI,Bool.false_and,Bool.and_false,Bool.not_true,Bool.not_false,hc,hp,h1]
 | true =>
 rw [e3] at h1
 cases e4 : wi m.e 0 ((m.pool.length : Int) - 1) with
 | false => rw [e4] at h2; simp (disch := first | omega | (simp only [lnA,lnC,lnN,lnM,yO,wY]; omega)) only [↓wZ,xi,↓yk,↓xJ,↓yo,↓xI,Bool.false_and,Bool.and_false,Bool.not_true,Bool.not_false,hc,hp,h1,h2]
 | true =>
 rw [e4] at h2
 cases e5 : wi m.d 0 ((m.pool.length : Int) - 1) with
 | false => rw [e5] at h3; simp (disch := first | omega | (simp only [lnA,lnC,lnN,lnM,yO,wY]; omega)) only [↓wZ,xi,↓yk,↓xJ,↓yo,↓xI,Bool.false_and,Bool.and_false,Bool.not_true,Bool.not_false,hc,hp,h1,h2,h3]
 | true =>
 rw [e5] at h3
 unfold VJ Pu
 by_cases s0 : m.state = 0
 ·rw [if_pos s0]; simp (disch := first | omega | (simp only [lnA,lnC,lnN,lnM,yO,wY]; omega)) only [↓wZ,xi,↓yk,↓xJ,↓yo,↓xI,yF,Bool.true_and,Bool.not_true,hc,hp,h1,h2,h3,h5]; simp only [y5]
 rw [if_neg s0]
 by_cases s1 : m.state = 1
 ·rw [if_pos s1]; simp (disch := first | omega | (simp only [lnA,lnC,lnN,lnM,yO,wY]; omega)) only [↓wZ,xi,↓yk,↓xJ,↓yo,↓xI,yF,yE,Bool.true_and,Bool.not_true,hc,hp,h1,h2,h3,h4,h5,y0]; simp only [y5]
 rw [if_neg s1]
 by_cases s2 : m.state = 2
 ·rw [if_pos s2]; simp (disch := first | omega | (simp only [lnA,lnC,lnN,lnM,yO,wY]; omega)) only [↓wZ,xi,↓yk,↓xJ,↓yo,↓xI,yF,yE,Bool.true_and,Bool.not_true,hc,hp,h1,h2,h3,h4]; simp only [y5]
 rw [if_neg s2]
 by_cases s3 : m.state = 3
 ·rw [if_pos s3]; simp (disch := first | omega | (simp only [lnA,lnC,lnN,lnM,yO,wY]; omega)) only [↓wZ,xi,↓yk,↓xJ,↓yo,↓xI,yF,yE,Bool.true_and,Bool.not_true,hc,hp,h1,h2,h3,y0]; simp only [y5]
 rw [if_neg s3]
 simp (disch := first | omega | (simp only [lnA,lnC,lnN,lnM,yO,wY]; omega)) only [↓wZ,xi,↓xJ,↓yo,↓xI,yE,Bool.and_false,Bool.not_true,hc,hp,h1,h2,h3]
theorem Ko {c : Cd} (hf : FitsC c) {m : Mc} (hm : Aw m.pool) (hl : m.pool.length < 4611686018427387904) : V 15 [eCd c,eMc m] = some (.bool (RV c m),[]) := by
 have hll := hf.llen
 have hc := EZ hf
 have hp := zr hm hl
 have h1 := Ew hl m.s
 have h2 := Ew hl m.e
 have h3 := Ew hl m.d
 have h4 := Ew hl m.arg
 rw [KT]
 unfold RV Pu
 cases e1 : AU c with
 | false => rw [e1] at hc; simp (disch := first | omega | (simp only [lnA,lnC,lnN,lnM,yO,wY]; omega)) only [↓wZ,xi,↓yk,↓yo,↓xI,Bool.false_and,Bool.not_false,hc]
 | true =>
 rw [e1] at hc
 cases e2 : yW m.pool with
 | false => rw [e2] at hp; simp (disch := first | omega | (simp only [lnA,lnC,lnN,lnM,yO,wY]; omega)) only [↓wZ,xi,↓yk,↓xJ,↓yo,↓xI,Bool.false_and,Bool.and_false,Bool.not_true,Bool.not_false,hc,hp]
 | true =>
 rw [e2] at hp
 cases e3 : wi m.s 0 ((m.pool.length : Int) - 1) with
 | false => rw [e3] at h1; simp (disch := first | omega | (simp only [lnA,lnC,lnN,lnM,yO,wY]; omega)) only [↓wZ,xi,↓yk,↓xJ,↓yo,↓xI,Bool.false_and,Bool.and_false,Bool.not_true,Bool.not_false,hc,hp,h1]
 | true =>
 rw [e3] at h1
 cases e4 : wi m.e 0 ((m.pool.length : Int) - 1) with
 | false => rw [e4] at h2; simp (disch := first | omega | (simp only [lnA,lnC,lnN,lnM,yO,wY]; omega)) only [↓wZ,xi,↓yk,↓xJ,↓yo,↓xI,Bool.false_and,Bool.and_false,Bool.not_true,Bool.not_false,hc,hp,h1,h2]
 | true =>
 rw [e4] at h2
 cases e5 : wi m.d 0 ((m.pool.length : Int) - 1) with
 | false => rw [e5] at h3; simp (disch := first | omega | (simp only [lnA,lnC,lnN,lnM,yO,wY]; omega)) only [↓wZ,xi,↓yk,↓xJ,↓yo,↓xI,Bool.false_and,Bool.and_false,Bool.not_true,Bool.not_false,hc,hp,h1,h2,h3]
 | true =>
 rw [e5] at h3
 unfold VJ Pu
 by_cases s0 : m.state = 0
 ·rw [if_pos s0]; simp (disch := first | omega | (simp only [lnA,lnC,lnN,lnM,yO,wY]; omega)) only [↓wZ,xi,↓yk,↓xJ,↓yo,↓xI,yF,Bool.true_and,Bool.not_true,lnM,wS,wY,hc,hp,h1,h2,h3,zI]; simp only [y5]
 rw [if_neg s0]
 by_cases s1 : m.state = 1
 ·rw [if_pos s1]; simp (disch := first | omega | (simp only [lnA,lnC,lnN,lnM,yO,wY]; omega)) only [↓wZ,xi,↓yk,↓xJ,↓yo,↓xI,yF,yE,Bool.true_and,Bool.not_true,lnM,wS,wY,hc,hp,h1,h2,h3,h4,zI]; simp only [y5]
 rw [if_neg s1]
 by_cases s2 : m.state = 2
 ·rw [if_pos s2]; simp (disch := first | omega | (simp only [lnA,lnC,lnN,lnM,yO,wY]; omega)) only [↓wZ,xi,↓yk,↓xJ,↓yo,↓xI,yF,yE,Bool.true_and,Bool.not_true,lnM,wS,wY,hc,hp,h1,h2,h3,h4,zI]; simp only [y5]
 rw [if_neg s2]
 by_cases s3 : m.state = 3
 ·rw [if_pos s3]; simp (disch := first | omega | (simp only [lnA,lnC,lnN,lnM,yO,wY]; omega)) only [↓wZ,xi,↓yk,↓xJ,↓yo,↓xI,yF,yE,Bool.true_and,Bool.not_true,lnM,wS,wY,hc,hp,h1,h2,h3,zI]; simp only [y5]
 rw [if_neg s3]
 simp (disch := first | omega | (simp only [lnA,lnC,lnN,lnM,yO,wY]; omega)) only [↓wZ,xi,↓xJ,↓yo,↓xI,yE,Bool.and_false,Bool.not_true,lnM,wS,wY,hc,hp,h1,h2,h3,zI]
end
end Go.Eng
/-! numbers and texts as bytes,on both sides -/
namespace Go.Eng
noncomputable section
open Go.Proofs Go.Proofs.Tryz

def zd (n : Nat) : List UInt8 := if n <= 127 then [UInt8.ofNat n] else UInt8.ofNat (n % 128 + 128) :: zd (n / 128)
termination_by n
theorem Cm {n : Nat} (h : n <= 127) : zd n = [UInt8.ofNat n] := by rw [zd,if_pos h]
theorem Gz {n : Nat} (h : ¬ n <= 127) : zd n = UInt8.ofNat (n % 128 + 128) :: zd (n / 128) := by rw [zd,if_neg h]
theorem QY : ∀ (k n : Nat),n < 128 ^ (k + 1) -> (zd n).length <= k + 1
 | 0,n,h => by rw [Cm (by simp at h; omega)]; simp
 | k + 1,n,h => by
  by_cases h1 : n <= 127
  ·rw [Cm h1]; simp
  ·rw [Gz h1]
   have := QY k (n / 128) (by rw [Nat.pow_succ] at h; omega)
   simp; omega
theorem y6 {n : Nat} (h : n < 4611686018427387904) : (zd n).length <= 9 := QY 8 n (by have : (128 : Nat) ^ (8 + 1) = 9223372036854775808 := rfl; omega)
theorem WE {n : Nat} (h : n < 256) : eU (UInt8.ofNat n) = D.int .u8 (n : Int) := by
 have : (UInt8.ofNat n).toNat = n := by simp; omega
 simp only [eU,this]
theorem Lq (n : Nat) : Int.tmod (n : Int) 128 = ((n % 128 : Nat) : Int) := by rw [Int.tmod_eq_emod_of_nonneg (by omega)]; omega
theorem SY (n : Nat) : Int.tdiv (n : Int) 128 = ((n / 128 : Nat) : Int) := by rw [Int.tdiv_eq_ediv_of_nonneg (by omega)]; omega
theorem SF {l : List UInt8} (h : l.length < 4294967296) (x : D) : decide (ni (l.map eU ++ [x]).length <= LIM) = true :=
 decide_eq_true (by rw [pE]; simp only [ni,lnA,lnM,lnC,lnN]; omega)
theorem PN {l : List UInt8} {n : Nat} (h : n < 256) : l.map eU ++ [D.int .u8 (n : Int)] = (l ++ [UInt8.ofNat n]).map eU := by
 rw [List.map_append,List.map_cons,List.map_nil,WE h]
theorem Nj : ∀ (n : Nat) (out : List UInt8),n < 4611686018427387904 -> out.length + (zd n).length < 4294967296 -> BJ (n : Int) (out.map eU) = some (.os (1,0) ((out ++ zd n).map eU),[]) := by
 intro n
 induction n using Nat.strongRecOn with
 | _ n ih =>
  intro out hn hl
  rw [Je]
  by_cases h : n <= 127
  ·rw [xb (decide_eq_false (by omega)),JS (by omega) (by omega),yu (SF (by omega) _),yA,PN (by omega),Cm h]
  ·rw [Gz h] at hl ⊢
   rw [lnC] at hl
   have e : ((n % 128 : Nat) : Int) + 128 = ((n % 128 + 128 : Nat) : Int) := by omega
   rw [xK (decide_eq_true (by omega)),yu (by decide),Lq,w64 (by omega) (by omega),JS (by omega) (by omega),yu (SF (by omega) _),yA,yu (by decide),e,PN (by omega),SY,w64 (by omega) (by omega),ih (n / 128) (by omega) _ (by omega) (by simp; omega)]
   simp
theorem Nt : ∀ (n : Nat) (out : List UInt8),n < 4611686018427387904 -> out.length + (zd n).length < 4294967296 -> BX (n : Int) (out.map eU) = some (.os (1,0) ((out ++ zd n).map eU),[]) := by
 intro n
 induction n using Nat.strongRecOn with
 | _ n ih =>
  intro out hn hl
  rw [Jf]
  by_cases h : n <= 127
  ·rw [xb (decide_eq_false (by omega)),JS (by omega) (by omega),yu (SF (by omega) _),yA,PN (by omega),Cm h]
  ·rw [Gz h] at hl ⊢
   rw [lnC] at hl
   have e : ((n % 128 : Nat) : Int) + 128 = ((n % 128 + 128 : Nat) : Int) := by omega
   rw [xK (decide_eq_true (by omega)),yu (by decide),Lq,w64 (by omega) (by omega),JS (by omega) (by omega),yu (SF (by omega) _),yA,yu (by decide),e,PN (by omega),SY,w64 (by omega) (by omega),ih (n / 128) (by omega) _ (by omega) (by simp; omega)]
   simp
theorem IL {n : Nat} (h : n < 4611686018427387904) : V 67 [iN (n : Int)] = some (.os (1,0) ((zd n).map eU),[]) := by
 rw [OD,xb (decide_eq_false (by omega))]
 exact Nj n [] h (by have := y6 h; simp; omega)
theorem IU {n : Nat} (h : n < 4611686018427387904) : V 69 [iN (n : Int)] = some (.os (1,0) ((zd n).map eU),[]) := by
 rw [OZ,xb (decide_eq_false (by omega))]
 exact Nt n [] h (by have := y6 h; simp; omega)
def JG (s : List UInt8) : List UInt8 := zd s.length ++ s
theorem My {s : List UInt8} (h : s.length < 4294967200) : V 138 [.str (mk s)] = some (.os (1,0) ((JG s).map eU),[]) := by
 have hn := IL (n := s.length) (by omega)
 have hp := y6 (n := s.length) (by omega)
 rw [ML,yO]
 simp (disch := first | omega | (simp only [lnA,lnC,lnN,lnM,yO,wY]; omega)) only [↓wZ,xi,↓xP,↓yo,↓yg,↓yA,yJ,lnM,lnA,pE,wY,hn,GP,yl]
 rfl
theorem MH {s : List UInt8} (h : s.length < 4294967200) : V 139 [.str (mk s)] = some (.os (1,0) ((JG s).map eU),[]) := by
 have hn := IU (n := s.length) (by omega)
 have hp := y6 (n := s.length) (by omega)
 rw [MZ,yO]
 simp (disch := first | omega | (simp only [lnA,lnC,lnN,lnM,yO,wY]; omega)) only [↓wZ,xi,↓xP,↓yo,↓yg,↓yA,yJ,lnM,lnA,pE,wY,hn,GP,yl]
 rfl

def EH : Nat -> List UInt8 -> Option (Nat × Nat)
 | 0,_ => none
 | _ + 1,[] => none
 | f + 1,d :: r => if d.toNat < 128 then (if d.toNat = 0 /\ f < 8 then none else some (d.toNat,1)) else
  match EH f r with
  | some (v,c) => some (d.toNat % 128 + 128 * v,c + 1)
  | none => none
theorem LJ : ∀ (f : Nat) (l : List UInt8) (v c : Nat),EH f l = some (v,c) -> v < 128 ^ f /\ 1 <= c /\ c <= l.length
 | 0,l,v,c,h => by cases h
 | f + 1,[],v,c,h => by cases h
 | f + 1,d :: r,v,c,h => by
  simp only [EH] at h
  have hp : 0 < 128 ^ f := Nat.pow_pos (by omega)
  split at h
  ·split at h
   ·cases h
   ·cases h
    rw [Nat.pow_succ,lnC]; omega
  ·split at h
   ·rename_i v' c' e
    cases h
    have := LJ f r v' c' e
    rw [Nat.pow_succ,lnC]; omega
   ·cases h
theorem Wo {p q k : Nat} (hp : p < 2 ^ k) (h : p + q * 2 ^ k < 9223372036854775808) : w6 (ni (BitVec.toNat (BitVec.ofInt (IntKind.bits .i64) (p : Int) ||| BitVec.ofInt (IntKind.bits .i64) ((q * 2 ^ k : Nat) : Int)))) = ((p + q * 2 ^ k : Nat) : Int) := by
 have e1 : BitVec.toNat (BitVec.ofInt (IntKind.bits .i64) (p : Int)) = p := by
  show BitVec.toNat (BitVec.ofInt 64 (p : Int)) = p
  rw [BitVec.toNat_ofInt]; omega
 have e2 : BitVec.toNat (BitVec.ofInt (IntKind.bits .i64) ((q * 2 ^ k : Nat) : Int)) = q * 2 ^ k := by
  show BitVec.toNat (BitVec.ofInt 64 ((q * 2 ^ k : Nat) : Int)) = q * 2 ^ k
  rw [BitVec.toNat_ofInt]; omega
 have e3 : p ||| q * 2 ^ k = p + q * 2 ^ k := by
  have := Nat.shiftLeft_add_eq_or_of_lt hp q
  rw [Nat.shiftLeft_eq] at this
  rw [Nat.or_comm,<- this,Nat.add_comm]
 rw [BitVec.toNat_or,e1,e2,e3]
 exact IntWalk.i64_in _ (by simp only [ni]; omega)
abbrev noN : D := .tup [iN 0,iN 0,.bool false]
def Ke (b : List UInt8) (at' k acc : Nat) : D := match EH (9 - k) (b.drop (at' + k)) with
 | some (v,c) => .tup [iN ((acc + v * 128 ^ k : Nat) : Int),iN ((at' + k + c : Nat) : Int),.bool true]
 | none => noN
theorem UO (k : Nat) : 128 ^ k = 2 ^ (7 * k) := by rw [Nat.pow_mul]
theorem SU {k : Nat} (h : k <= 9) : 128 ^ k <= 9223372036854775808 := by
 have : 128 ^ k <= 128 ^ 9 := Nat.pow_le_pow_right (by omega) h
 have e : (128 : Nat) ^ 9 = 9223372036854775808 := rfl
 omega
theorem Qy {b : List UInt8} {at' k acc : Nat} {d : UInt8} (hd : b[at' + k]? = some d) (hk : k < 9) (h128 : ¬ d.toNat < 128) : Ke b at' k acc = Ke b at' (k + 1) (acc + d.toNat % 128 * 128 ^ k) := by
 unfold Ke
 obtain ⟨f,hf⟩ : ∃ f,9 - k = f + 1 := ⟨8 - k,by omega⟩
 have hf2 : 9 - (k + 1) = f := by omega
 rw [hf,hf2,tU hd]
 simp only [EH,if_neg h128,Nat.add_assoc]
 cases e : EH f (b.drop (at' + (k + 1))) with
 | none => rfl
 | some p =>
  obtain ⟨v,c⟩ := p
  have e1 : acc + (d.toNat % 128 + 128 * v) * 128 ^ k = acc + (d.toNat % 128 * 128 ^ k + v * 128 ^ (k + 1)) := by
   rw [Nat.add_mul,Nat.pow_succ]
   have : 128 * v * 128 ^ k = v * (128 ^ k * 128) := by rw [Nat.mul_comm 128 v,Nat.mul_assoc,Nat.mul_comm 128]
   omega
  have e2 : k + (c + 1) = k + (1 + c) := by omega
  simp only [e1,e2]
theorem Sq {b : List UInt8} {at' k acc : Nat} {d : UInt8} (hd : b[at' + k]? = some d) (hk : k < 9) (h128 : d.toNat < 128) : Ke b at' k acc = if d.toNat = 0 /\ 0 < k then noN else .tup [iN ((acc + d.toNat * 128 ^ k : Nat) : Int),iN ((at' + k + 1 : Nat) : Int),.bool true] := by
 unfold Ke
 obtain ⟨f,hf⟩ : ∃ f,9 - k = f + 1 := ⟨8 - k,by omega⟩
 rw [hf,tU hd]
 simp only [EH,if_pos h128]
 by_cases h : d.toNat = 0 /\ 0 < k
 ·rw [if_pos ⟨h.1,by omega⟩,if_pos h]
 ·rw [if_neg (fun h' => h ⟨h'.1,by omega⟩),if_neg h]
theorem Fu {b : List UInt8} {at' k acc : Nat} (h : b.length <= at' + k \/ 9 <= k) : Ke b at' k acc = noN := by
 unfold Ke
 rcases h with h | h
 ·rw [List.drop_of_length_le h]
  cases 9 - k <;> rfl
 ·have : 9 - k = 0 := by omega
  rw [this]; rfl
theorem Wb (d : UInt8) : d.toNat < 256 := d.toNat_lt
theorem Qf {acc k : Nat} {d : UInt8} (_ : k < 9) (ha : acc < 128 ^ k) : acc + d.toNat % 128 * 128 ^ k < 128 ^ (k + 1) := by
 have h2 : d.toNat % 128 * 128 ^ k <= 127 * 128 ^ k := Nat.mul_le_mul_right _ (by omega)
 rw [Nat.pow_succ]; omega
theorem KI {n : Int} (h1 : -9223372036854775808 <= n) (h2 : n <= 9223372036854775807) : w6 n = n := IntWalk.i64_in n (by omega)
theorem Ir {b : List UInt8} (hb : b.length < 4611686018427387904) (at' : Nat) (ha : at' <= b.length) : ∀ (f k acc : Nat),f + k = 9 -> acc < 128 ^ k -> BG (b.map eU) (at' : Int) (acc : Int) (k : Int) = some (Ke b at' k acc,[])
 | 0,k,acc,hk,hacc => by
  rw [DN,xb (decide_eq_false (by omega)),Fu (.inr (by omega))]
 | f + 1,k,acc,hk,hacc => by
  have hw : w6 ((at' : Int) + (k : Int)) = ((at' + k : Nat) : Int) := by rw [KI (by omega) (by omega)]; omega
  rw [DN,xK (decide_eq_true (by omega)),hw]
  by_cases hlt : at' + k < b.length
  ·obtain ⟨d,hd⟩ := xx hlt
   have hd2 := Wb d
   have h9 := SU (k := k + 1) (by omega)
   have hdl := Qf (d := d) (by omega) hacc
   have e7 : w6 (7 * (k : Int)) = ((7 * k : Nat) : Int) := by rw [w64 (by omega) (by omega)]; omega
   have emin : min (7 * k) (IntKind.bits .i64) = 7 * k := by
    show min (7 * k) 64 = 7 * k
    omega
   have epow : ((d.toNat % 128 : Nat) : Int) * 2 ^ (7 * k) = ((d.toNat % 128 * 2 ^ (7 * k) : Nat) : Int) := by
    rw [Int.natCast_mul,Int.natCast_pow]; rfl
   have hq : d.toNat % 128 * 2 ^ (7 * k) < 9223372036854775808 := by rw [<- UO]; omega
   have hor := Wo (p := acc) (q := d.toNat % 128) (k := 7 * k) (by rw [<- UO]; exact hacc) (by rw [<- UO]; omega)
   rw [<- UO] at hor
   rw [xK (by rw [lnM]; exact yz hlt),yu (by rw [lnM]; exact yx hlt),Int.toNat_natCast,xW hd,ye,yu (by decide),e7,yu (by simp; omega),Lq,w64 (n := ((d.toNat % 128 : Nat) : Int)) (by omega) (by omega),Int.toNat_natCast,emin,epow,KI (n := ((d.toNat % 128 * 2 ^ (7 * k) : Nat) : Int)) (by omega) (by omega),<- UO,hor]
   have hn1 : w6 (((at' + k : Nat) : Int) + 1) = ((at' + k + 1 : Nat) : Int) := yM (by omega)
   by_cases h128 : d.toNat < 128
   ·have em : d.toNat % 128 = d.toNat := Nat.mod_eq_of_lt h128
    rw [xK (decide_eq_true (by omega)),Sq hd (by omega) h128,hn1,em]
    by_cases h0 : d.toNat = 0
    ·rw [xK (by simp [h0])]
     by_cases hk0 : 0 < k
     ·rw [xK (decide_eq_true (by omega)),if_pos ⟨h0,hk0⟩]
     ·rw [xb (decide_eq_false (by omega)),if_neg (fun h => hk0 h.2)]
    ·rw [xb (by simp only [beq_eq_false_iff_ne,ne_eq]; omega),if_neg (fun h => h0 h.1)]
   ·rw [xb (decide_eq_false (by omega)),Qy hd (by omega) h128,yM (by omega)]
    exact Ir hb at' ha f (k + 1) _ (by omega) hdl
  ·rw [xb (by rw [lnM]; exact yr (by omega)),Fu (.inl (by omega))]
theorem IB {b : List UInt8} (hb : b.length < 4611686018427387904) (at' : Nat) (ha : at' <= b.length) : ∀ (f k acc : Nat) (u : Int),f + k = 9 -> acc < 128 ^ k -> (k < 9 -> u = ((128 ^ k : Nat) : Int)) -> BU (b.map eU) (at' : Int) (acc : Int) u (k : Int) = some (Ke b at' k acc,[])
 | 0,k,acc,u,hk,hacc,hu => by
  rw [DU,xb (decide_eq_false (by omega)),Fu (.inr (by omega))]
 | f + 1,k,acc,u,hk,hacc,hu => by
  have hw : w6 ((at' : Int) + (k : Int)) = ((at' + k : Nat) : Int) := by rw [KI (by omega) (by omega)]; omega
  have hu := hu (by omega)
  subst hu
  rw [DU,xK (decide_eq_true (by omega)),hw]
  by_cases hlt : at' + k < b.length
  ·obtain ⟨d,hd⟩ := xx hlt
   have hd2 := Wb d
   have h9 := SU (k := k + 1) (by omega)
   have hdl := Qf (d := d) (by omega) hacc
   have ewd : w6 (d.toNat : Int) = (d.toNat : Int) := w64 (by omega) (by omega)
   have em0 : ((d.toNat % 128 : Nat) : Int) * ((128 ^ k : Nat) : Int) = ((d.toNat % 128 * 128 ^ k : Nat) : Int) := by rw [Int.natCast_mul]
   have em1 : (acc : Int) + ((d.toNat % 128 * 128 ^ k : Nat) : Int) = ((acc + d.toNat % 128 * 128 ^ k : Nat) : Int) := by omega
   rw [xK (by rw [lnM]; exact yz hlt),yu (by rw [lnM]; exact yx hlt),Int.toNat_natCast,xW hd,ye,yu (by decide),ewd,Lq,em0,KI (n := ((d.toNat % 128 * 128 ^ k : Nat) : Int)) (by omega) (by omega),em1,KI (n := ((acc + d.toNat % 128 * 128 ^ k : Nat) : Int)) (by omega) (by omega)]
   have hn1 : w6 (((at' + k : Nat) : Int) + 1) = ((at' + k + 1 : Nat) : Int) := yM (by omega)
   by_cases h128 : d.toNat < 128
   ·have em : d.toNat % 128 = d.toNat := Nat.mod_eq_of_lt h128
    rw [xK (decide_eq_true (by omega)),Sq hd (by omega) h128,hn1,em]
    by_cases h0 : d.toNat = 0
    ·rw [xK (by simp [h0])]
     by_cases hk0 : 0 < k
     ·rw [xK (decide_eq_true (by omega)),if_pos ⟨h0,hk0⟩]
     ·rw [xb (decide_eq_false (by omega)),if_neg (fun h => hk0 h.2)]
    ·rw [xb (by simp only [beq_eq_false_iff_ne,ne_eq]; omega),if_neg (fun h => h0 h.1)]
   ·rw [xb (decide_eq_false (by omega)),Qy hd (by omega) h128,yM (by omega)]
    refine IB hb at' ha f (k + 1) _ _ (by omega) hdl (fun h => ?_)
    have h8 : 128 ^ (k + 1) <= 128 ^ 8 := Nat.pow_le_pow_right (by omega) (by omega)
    have e8 : (128 : Nat) ^ 8 = 72057594037927936 := rfl
    have em : ((128 ^ k : Nat) : Int) * 128 = ((128 ^ (k + 1) : Nat) : Int) := by rw [Nat.pow_succ,Int.natCast_mul]; rfl
    rw [em,w64 (by omega) (by omega)]
  ·rw [xb (by rw [lnM]; exact yr (by omega)),Fu (.inl (by omega))]
theorem IJ {b : List UInt8} (hb : b.length < 4611686018427387904) {at' : Nat} (ha : at' <= b.length) : V 140 [.rs (1,0) (b.map eU),iN (at' : Int)] = some (Ke b at' 0 0,[]) := by
 have h := Ir hb at' ha 9 0 0 rfl (by decide)
 rw [Ou,lnM,w64 (n := ni b.length - 1) (by simp only [ni]; omega) (by simp only [ni]; omega)]
 by_cases hlt : at' < b.length
 ·have hwi : wi (at' : Int) 0 (ni b.length - 1) = true := wi_iff.2 ⟨by omega,by simp only [ni]; omega⟩
  rw [y7 (y0 _ _ _),hwi,Bool.not_true,xJ]
  exact h
 ·have hwi : wi (at' : Int) 0 (ni b.length - 1) = false := by
   cases e : wi (at' : Int) 0 (ni b.length - 1) with
   | false => rfl
   | true => have := wi_iff.1 e; simp only [ni] at this; omega
  rw [y7 (y0 _ _ _),hwi,Bool.not_false,yk,Fu (.inl (by omega))]
theorem IQ {b : List UInt8} (hb : b.length < 4611686018427387904) {at' : Nat} (ha : at' <= b.length) : V 173 [.rs (1,0) (b.map eU),iN (at' : Int)] = some (Ke b at' 0 0,[]) := by
 have h := IB hb at' ha 9 0 0 1 rfl (by decide) (fun _ => rfl)
 rw [OQ,lnM,xb (decide_eq_false (by omega))]
 by_cases hlt : at' < b.length
 ·rw [xb (decide_eq_false (by simp only [ni]; omega))]
  exact h
 ·rw [xK (decide_eq_true (by simp only [ni]; omega)),Fu (.inl (by omega))]
end
end Go.Eng
/-! how great a value is,the program's side -/
namespace Go.Eng
open Go.Proofs Go.Proofs.Tryz

end Go.Eng
/-! what is moved is as it was: the plain side -/
namespace Go.Eng

noncomputable def z7 (p : List Nd) : Prop := ∀ (j : Nat) (x : Nd),p[j]? = some x -> okN x j = true
theorem NU {p : List Nd} (h : z7 p) : ∀ (k i : Nat),EO p i k = true
 | 0,i => rfl
 | k + 1,i => by
  simp only [EO,NU h k (i + 1),Bool.and_true]
  split
  ·exact h _ _ ‹_›
  ·rfl
theorem okPool_iff {p : List Nd} : yW p = true ↔ z7 p /\ p.length <= 3000 := by
 constructor
 ·intro h; exact ⟨fun j x hx => z6 h hx,yX h⟩
 ·rintro ⟨h,hl⟩
  simp only [yW,NU h,Bool.true_and,decide_eq_true_eq]; omega
noncomputable def Ug (q q' : List Nd) (m : List Bool) (to : List Int) : Prop := ∀ (i : Nat) (x : Nd),q[i]? = some x -> m[i]? = some true -> ∃ j : Nat,to[i]? = some (j : Int) /\ q'[j]? = some (yZ to x)
theorem LT {pre r : List Int} {x : Nd} {i : Nat} (ho : okN x i = true) (hp : i <= pre.length) : yZ (pre ++ r) x = yZ pre x := by
 have g : ∀ n : Int,0 <= n -> n < i -> (pre ++ r).getD n.toNat 0 = pre.getD n.toNat 0 := by
  intro n h0 h1
  simp only [List.getD_eq_getElem?_getD]
  rw [List.getElem?_append_left (by omega)]
 unfold yZ
 split
 ·rename_i h5
  have := Ai ho h5
  rw [g _ (by omega) (by omega),g _ (by omega) (by omega)]
 ·split
  ·rename_i h6
   have := Az ho h6
   rw [g _ (by omega) (by omega)]
  ·rfl
theorem Tw {pre : List Int} {x : Nd} {i h : Nat} (ho : okN x i = true) (h5 : x.kind = 5 -> ∃ a b : Nat,pre[x.a.toNat]? = some (a : Int) /\ pre[x.b.toNat]? = some (b : Int) /\ a < h /\ b < h)
  (h6 : x.kind = 6 \/ x.kind = 7 -> ∃ a : Nat,pre[x.a.toNat]? = some (a : Int) /\ a < h) : okN (yZ pre x) h = true := by
 by_cases k5 : x.kind = 5
 ·obtain ⟨a,b,ha,hb,h1,h2⟩ := h5 k5
  simp only [yZ,k5,if_true,List.getD_eq_getElem?_getD,ha,hb,Option.getD_some]
  simp [okN,k5] at ho ⊢
  exact ⟨ho.1,ho.2.1,wi_iff.2 ⟨by omega,by omega⟩,wi_iff.2 ⟨by omega,by omega⟩⟩
 ·by_cases k6 : x.kind = 6 \/ x.kind = 7
  ·obtain ⟨a,ha,h1⟩ := h6 k6
   simp only [yZ,k5,k6,if_true,if_false,List.getD_eq_getElem?_getD,ha,Option.getD_some]
   rcases k6 with k6 | k6
   ·simp [okN,k6] at ho ⊢; exact ⟨ho.1,ho.2.1,wi_iff.2 ⟨by omega,by omega⟩,ho.2.2.2⟩
   ·simp [okN,k6] at ho ⊢; exact ⟨ho.1,ho.2.1,wi_iff.2 ⟨by omega,by omega⟩,ho.2.2.2⟩
  ·have k6' : ¬ x.kind = 6 := fun h => k6 (.inl h)
   have k7' : ¬ x.kind = 7 := fun h => k6 (.inr h)
   simp only [yZ,k5,k6,if_false]
   simp only [okN,k5,k6',k7',if_false] at ho ⊢
   exact ho
theorem LR {q : List Nd} (hq : z7 q) {m : List Bool} (hm : m.length = q.length) (hc : Rj q m) (d : Int) : ∀ (k : Nat) (pre : List Int) (acc : List Nd),pre.length + k = q.length -> z7 acc ->
  (∀ (i : Nat) (x : Nd),i < pre.length -> q[i]? = some x -> m[i]? = some true -> ∃ j : Nat,pre[i]? = some (j : Int) /\ acc[j]? = some (yZ pre x)) ->
  z7 (Ar d q m k pre acc).2 /\ Ug q (Ar d q m k pre acc).2 m (Ar d q m k pre acc).1
 | 0,pre,acc,hk,ha,hi => by
  simp only [Ar]
  exact ⟨ha,fun i x hx hmi => hi i x (by have := aQ hx; omega) hx hmi⟩
 | k + 1,pre,acc,hk,ha,hi => by
  obtain ⟨x,hx⟩ := xx (l := q) (i := pre.length) (by omega)
  obtain ⟨b,hb⟩ := xx (l := m) (i := pre.length) (by omega)
  simp only [Ar,hx,hb]
  have hox := hq _ _ hx
  have old : ∀ (u : Int) (acc' : List Nd),(∀ (j : Nat) (y : Nd),acc[j]? = some y -> acc'[j]? = some y) -> ∀ (i : Nat) (y : Nd),i < pre.length -> q[i]? = some y -> m[i]? = some true -> ∃ j : Nat,(pre ++ [u])[i]? = some (j : Int) /\ acc'[j]? = some (yZ (pre ++ [u]) y) := by
   intro u acc' hacc i y hil hy hmi
   obtain ⟨j,h1,h2⟩ := hi i y hil hy hmi
   refine ⟨j,by rw [List.getElem?_append_left hil]; exact h1,?_⟩
   rw [LT (hq _ _ hy) (by omega)]
   exact hacc _ _ h2
  cases b with
  | false =>
   refine LR hq hm hc d k (pre ++ [d]) acc (by simp; omega) ha ?_
   intro i y hil hy hmi
   by_cases e : i = pre.length
   ·subst e; rw [hb] at hmi; cases hmi
   ·exact old d acc (fun _ _ h => h) i y (by simp at hil; omega) hy hmi
  | true =>
   have hcx := hc _ _ hx hb
   have kid : ∀ n : Int,On m n -> 0 <= n -> n < pre.length -> ∃ a : Nat,pre[n.toNat]? = some (a : Int) /\ a < acc.length := by
    intro n hn h0 h1
    obtain ⟨y,hy⟩ := xx (l := q) (i := n.toNat) (by omega)
    obtain ⟨j,h2,h3⟩ := hi n.toNat y (by omega) hy hn
    exact ⟨j,h2,aQ h3⟩
   have hok : okN (yZ pre x) acc.length = true := Tw hox
    (fun h5 => by
     have h := Ai hox h5
     obtain ⟨a,ha1,ha2⟩ := kid x.a (hcx.1 h5).1 h.1 h.2.1
     obtain ⟨b,hb1,hb2⟩ := kid x.b (hcx.1 h5).2 h.2.2.1 h.2.2.2
     exact ⟨a,b,ha1,hb1,ha2,hb2⟩)
    (fun h6 => by
     have h := Az hox h6
     exact kid x.a (hcx.2 h6) h.1 h.2)
   have ha' : z7 (acc ++ [yZ pre x]) := by
    intro j y hy
    by_cases e : j < acc.length
    ·rw [List.getElem?_append_left e] at hy; exact ha j y hy
    ·have hl := aQ hy
     have : j = acc.length := by simp at hl; omega
     subst this
     simp at hy; subst hy; exact hok
   refine LR hq hm hc d k (pre ++ [(acc.length : Int)]) (acc ++ [yZ pre x]) (by simp; omega) ha' ?_
   intro i y hil hy hmi
   by_cases e : i = pre.length
   ·subst e; rw [hx] at hy; cases hy
    refine ⟨acc.length,by simp,?_⟩
    rw [LT hox (Nat.le_refl _)]; simp
   ·exact old _ _ (fun j z h => by rw [List.getElem?_append_left (aQ h)]; exact h) i y (by simp at hil; omega) hy hmi
theorem RH {q acc : List Nd} (hq : yW q = true) (ha : z7 acc) (rs : List Int) (d : Int) : z7 (Bx d q rs acc).2 /\ Ug q (Bx d q rs acc).2 (AJ q rs) (Bx d q rs acc).1 :=
 LR (okPool_iff.1 hq).1 (Bc q rs) (Cw hq rs) d q.length [] acc (Nat.zero_add _) ha (fun i x h => absurd h (by simp))

theorem SJ (to : List Int) (x : Nd) : (yZ to x).kind = x.kind /\ (yZ to x).n = x.n /\ (yZ to x).s = x.s := by
 unfold yZ
 split
 ·exact ⟨rfl,rfl,rfl⟩
 ·split <;> exact ⟨rfl,rfl,rfl⟩
end Go.Eng
/-! what is kept is all reached,and as great as it was: the plain side -/
namespace Go.Eng

inductive Rch (q : List Nd) (rs : List Int) : Nat -> Prop
 | root {r : Int} : r ∈ rs -> Rch q rs r.toNat
 | a {i : Nat} {x : Nd} : Rch q rs i -> q[i]? = some x -> (x.kind = 5 \/ x.kind = 6 \/ x.kind = 7) -> Rch q rs x.a.toNat
 | b {i : Nat} {x : Nd} : Rch q rs i -> q[i]? = some x -> x.kind = 5 -> Rch q rs x.b.toNat
theorem JK {m : List Bool} {i j : Nat} (h : (m.set i true)[j]? = some true) : j = i \/ m[j]? = some true := by
 by_cases e : i = j
 ·exact .inl e.symm
 ·rw [List.getElem?_set_ne e] at h; exact .inr h
theorem Iw {q : List Nd} {rs : List Int} : ∀ (k : Nat) {m : List Bool},(∀ j : Nat,m[j]? = some true -> Rch q rs j) -> ∀ j : Nat,(zl q k m)[j]? = some true -> Rch q rs j
 | 0,m,h,j,hj => h j hj
 | k + 1,m,h,j,hj => by
  simp only [zl] at hj
  refine Iw k ?_ j hj
  intro i hi
  split at hi
  ·rename_i x hx hm
   have hk := h k hm
   unfold zm at hi
   split at hi
   ·rename_i h5
    rcases JK hi with e | hi
    ·rw [e]; exact .b hk hx h5
    ·rcases JK hi with e | hi
     ·rw [e]; exact .a hk hx (.inl h5)
     ·exact h i hi
   ·split at hi
    ·rename_i h6
     rcases JK hi with e | hi
     ·rw [e]; exact .a hk hx (.inr h6)
     ·exact h i hi
    ·exact h i hi
  ·exact h i hi
theorem JJ : ∀ {rs : List Int} {m : List Bool} {j : Nat},(FQ rs m)[j]? = some true -> m[j]? = some true \/ ∃ r ∈ rs,r.toNat = j
 | [],m,j,h => .inl h
 | r :: rs,m,j,h => by
  have h' : (FQ rs (m.set r.toNat true))[j]? = some true := h
  rcases JJ h' with h | ⟨s,hs,e⟩
  ·rcases JK h with e | h
   ·exact .inr ⟨r,by simp,e.symm⟩
   ·exact .inl h
  ·exact .inr ⟨s,by simp [hs],e⟩
theorem QZ {q : List Nd} {rs : List Int} {j : Nat} (h : (AJ q rs)[j]? = some true) : Rch q rs j := by
 refine Iw _ ?_ j h
 intro i hi
 rcases JJ hi with h | ⟨r,hr,e⟩
 ·rw [List.getElem?_replicate] at h
  split at h <;> cases h
 ·rw [<- e]; exact .root hr
theorem GD {q : List Nd} (hq : yW q = true) {rs : List Int} (hr : zw q rs = true) {j : Nat} (h : Rch q rs j) : (AJ q rs)[j]? = some true := by
 induction h with
 | root hm => exact GC hr _ hm
 | a h hx hk ih =>
  have hc := Cw hq rs _ _ hx ih
  rcases hk with hk | hk
  ·exact (hc.1 hk).1
  ·exact hc.2 hk
 | b h hx hk ih => exact ((Cw hq rs _ _ hx ih).1 hk).2

theorem Kg (d : Int) {q : List Nd} {m : List Bool} (hm : m.length = q.length) : ∀ (k : Nat) (pre : List Int) (acc : List Nd),pre.length + k = q.length ->
  (∀ j : Nat,j < acc.length -> ∃ i : Nat,m[i]? = some true /\ pre[i]? = some (j : Int)) -> ∀ j : Nat,j < (Ar d q m k pre acc).2.length -> ∃ i : Nat,m[i]? = some true /\ (Ar d q m k pre acc).1[i]? = some (j : Int)
 | 0,pre,acc,hk,h,j,hj => h j hj
 | k + 1,pre,acc,hk,h,j,hj => by
  obtain ⟨x,hx⟩ := xx (l := q) (i := pre.length) (by omega)
  obtain ⟨b,hb⟩ := xx (l := m) (i := pre.length) (by omega)
  simp only [Ar,hx,hb] at hj ⊢
  have old : ∀ (u : Int) (j : Nat),j < acc.length -> ∃ i : Nat,m[i]? = some true /\ (pre ++ [u])[i]? = some (j : Int) := by
   intro u j hj
   obtain ⟨i,h1,h2⟩ := h j hj
   exact ⟨i,h1,by rw [List.getElem?_append_left (aQ h2)]; exact h2⟩
  cases b with
  | false => exact Kg d hm k (pre ++ [d]) acc (by simp; omega) (old d) j hj
  | true =>
   refine Kg d hm k (pre ++ [(acc.length : Int)]) (acc ++ [yZ pre x]) (by simp; omega) ?_ j hj
   intro i hi
   by_cases e : i < acc.length
   ·exact old _ i e
   ·have : i = acc.length := by simp at hi; omega
    subst this
    exact ⟨pre.length,hb,by simp⟩
theorem TJ {q q' : List Nd} (hq : yW q = true) {rs : List Int} (hr : zw q rs = true) {to now : List Int} (hmv : Ug q q' (AJ q rs) to) (hn : ∀ r ∈ rs,to.getD r.toNat 0 ∈ now) {i : Nat} (h : Rch q rs i) : ∀ j : Nat,to[i]? = some (j : Int) -> Rch q' now j := by
 have one : ∀ {i : Nat} {x : Nd},Rch q rs i -> q[i]? = some x -> ∃ j : Nat,to[i]? = some (j : Int) /\ q'[j]? = some (yZ to x) := fun h hx => hmv _ _ hx (GD hq hr h)
 induction h with
 | root hm =>
  rename_i r
  intro j hj
  have e : to.getD r.toNat 0 = (j : Int) := by rw [List.getD_eq_getElem?_getD,hj]; rfl
  have := Rch.root (q := q') (hn r hm)
  rw [e] at this
  exact this
 | a h hx hk ih =>
  rename_i i x
  intro j hj
  obtain ⟨ji,e1,e2⟩ := one h hx
  have h' := ih ji e1
  have ea : (yZ to x).a.toNat = j := by
   rcases hk with hk | hk
   ·simp only [yZ,hk,if_true,List.getD_eq_getElem?_getD,hj,Option.getD_some,Int.toNat_natCast]
   ·have h5 : ¬ x.kind = 5 := by omega
    simp only [yZ,h5,hk,if_true,if_false,List.getD_eq_getElem?_getD,hj,Option.getD_some,Int.toNat_natCast]
  rw [<- ea]
  exact .a h' e2 (by rw [(SJ to x).1]; exact hk)
 | b h hx hk ih =>
  rename_i i x
  intro j hj
  obtain ⟨ji,e1,e2⟩ := one h hx
  have h' := ih ji e1
  have ea : (yZ to x).b.toNat = j := by
   simp only [yZ,hk,if_true,List.getD_eq_getElem?_getD,hj,Option.getD_some,Int.toNat_natCast]
  rw [<- ea]
  exact .b h' e2 (by rw [(SJ to x).1]; exact hk)
noncomputable def ids (n : Nat) : List Int := (List.range n).map fun k : Nat => (k : Int)
theorem NW {n i : Nat} (h : i < n) : (ids (n))[i]? = some (i : Int) := by
 rw [ids,List.getElem?_map,List.getElem?_range h]; rfl
theorem Tv {x : Nd} {i : Nat} (ho : okN x i = true) : yZ (ids (i)) x = x := by
 have g : ∀ n : Int,0 <= n -> n < i -> (ids (i)).getD n.toNat 0 = n := by
  intro n h0 h1
  rw [List.getD_eq_getElem?_getD,NW (by omega)]
  simp; omega
 unfold yZ
 split
 ·rename_i h5
  have := Ai ho h5
  rw [g _ (by omega) (by omega),g _ (by omega) (by omega)]
 ·split
  ·rename_i h6
   have := Az ho h6
   rw [g _ (by omega) (by omega)]
  ·rfl
theorem QH (d : Int) {q : List Nd} (hq : z7 q) {m : List Bool} (hm : ∀ j : Nat,j < q.length -> m[j]? = some true) : ∀ (k i : Nat),i + k = q.length ->
  Ar d q m k (ids (i)) (q.take i) = (ids (q.length),q)
 | 0,i,h => by
  have : i = q.length := by omega
  subst this
  simp [Ar]
 | k + 1,i,h => by
  obtain ⟨x,hx⟩ := xx (l := q) (i := i) (by omega)
  have hl : (ids (i)).length = i := by simp [ids]
  have ht : (q.take i).length = i := by simp; omega
  have ih := QH d hq hm k (i + 1) (by omega)
  have es : ids (i + 1) = ids i ++ [(i : Int)] := by simp [ids,List.range_succ]
  rw [es,yn hx] at ih
  simp only [Ar,hl,hx,hm i (by omega),ht,Tv (hq _ _ hx)]
  exact ih
theorem I9 {q : List Nd} (hq : yW q = true) {rs : List Int} (hr : zw q rs = true) (d d' : Int) : yW (zz d q rs).1 = true /\ zw (zz d q rs).1 (zz d q rs).2 = true /\ zz d' (zz d q rs).1 (zz d q rs).2 = zz d q rs := by
 obtain ⟨h1,h2⟩ := RH hq (acc := []) (fun j x h => by simp at h) rs d
 have hlen := LQ d q (AJ q rs) q.length [] []
 have hok : yW (Bx d q rs []).2 = true := okPool_iff.2 ⟨h1,by have := yX hq; have := hlen; simp [Bx] at this ⊢; omega⟩
 have hto : ∀ r ∈ rs,∃ j : Nat,(Bx d q rs []).1[r.toNat]? = some (j : Int) /\ j < (Bx d q rs []).2.length := by
  intro r hm
  have hl := DF hr r hm
  obtain ⟨x,hx⟩ := xx (l := q) (i := r.toNat) (by omega)
  obtain ⟨j,e1,e2⟩ := h2 _ x hx (GC hr r hm)
  exact ⟨j,e1,aQ e2⟩
 have hgd : ∀ r ∈ rs,0 <= (Bx d q rs []).1.getD r.toNat 0 /\ (Bx d q rs []).1.getD r.toNat 0 < ((Bx d q rs []).2.length : Int) := by
  intro r hm
  obtain ⟨j,e1,e2⟩ := hto r hm
  rw [List.getD_eq_getElem?_getD,e1]; simp; omega
 have hri : zw (zz d q rs).1 (zz d q rs).2 = true := by
  unfold zw zz
  rw [List.all_map,List.all_eq_true]
  intro r hm
  have := hgd r hm
  exact wi_iff.2 ⟨this.1,by simp only; omega⟩
 refine ⟨hok,hri,?_⟩
 have hall : ∀ j : Nat,j < (zz d q rs).1.length -> (AJ (zz d q rs).1 (zz d q rs).2)[j]? = some true := by
  intro j hj
  obtain ⟨i,hi,ht⟩ := Kg d (Bc q rs) q.length [] [] (Nat.zero_add _) (fun j h => by simp at h) j hj
  exact GD hok hri (TJ hq hr h2 (fun r hm => List.mem_map.2 ⟨r,hm,rfl⟩) (QZ hi) j ht)
 have hm := QH d' (okPool_iff.1 hok).1 hall (zz d q rs).1.length 0 (Nat.zero_add _)
 have e : Bx d' (zz d q rs).1 (zz d q rs).2 [] = (ids ((zz d q rs).1.length),(zz d q rs).1) := hm
 have e2 : zz d' (zz d q rs).1 (zz d q rs).2 = ((zz d q rs).1,(zz d q rs).2.map fun r => (ids ((zz d q rs).1.length)).getD r.toNat 0) := by
  show (_,_) = _
  rw [e]
 rw [e2]
 refine Prod.ext rfl ?_
 show List.map _ (zz d q rs).2 = (zz d q rs).2
 have : ∀ r ∈ (zz d q rs).2,(ids ((zz d q rs).1.length)).getD r.toNat 0 = r := by
  intro r hm
  have := DF hri r hm
  rw [List.getD_eq_getElem?_getD,NW (by omega)]
  simp; omega
 rw [List.map_congr_left this,List.map_id']
end Go.Eng
/-! nodes as bytes,on both sides -/
namespace Go.Eng
noncomputable section
open Go.Proofs Go.Proofs.Tryz
set_option maxHeartbeats 4000000

theorem zn {z : Int} (h0 : 0 <= z) (h1 : z < 4611686018427387904) : V 67 [iN z] = some (.os (1,0) ((zd z.toNat).map eU),[]) := by
 obtain ⟨n,rfl⟩ := Int.eq_ofNat_of_zero_le h0
 exact IL (by omega)
theorem zo {z : Int} (h0 : 0 <= z) (h1 : z < 4611686018427387904) : V 69 [iN z] = some (.os (1,0) ((zd z.toNat).map eU),[]) := by
 obtain ⟨n,rfl⟩ := Int.eq_ofNat_of_zero_le h0
 exact IU (by omega)
theorem Fk (s : ByteArray) : s.data.toList.length = s.size := by rw [Array.length_toList]; rfl
theorem KZ {s : ByteArray} (h : s.size < 4294967200) : V 138 [.str s] = some (.os (1,0) ((JG s.data.toList).map eU),[]) := by
 have := My (s := s.data.toList) (by rw [Fk]; exact h)
 rw [Jv] at this
 exact this
theorem Ld {s : ByteArray} (h : s.size < 4294967200) : V 139 [.str s] = some (.os (1,0) ((JG s.data.toList).map eU),[]) := by
 have := MH (s := s.data.toList) (by rw [Fk]; exact h)
 rw [Jv] at this
 exact this
def zF (x : Nd) : List UInt8 := zd x.kind.toNat ++
 (if x.kind = 2 \/ x.kind = 8 \/ x.kind = 9 then zd x.n.toNat
 else if x.kind = 3 then zd (x.n + 1000000000).toNat
 else if x.kind = 4 then JG x.s.data.toList
 else if x.kind = 5 then zd x.a.toNat ++ zd x.b.toNat
 else if x.kind = 6 then zd x.n.toNat ++ zd x.a.toNat
 else if x.kind = 7 then zd x.a.toNat else [])
theorem PE {x : Nd} (h : x.kind = 1) : zF x = zd x.kind.toNat := by simp [zF,h]
theorem Bu {x : Nd} (h : x.kind = 2 \/ x.kind = 8 \/ x.kind = 9) : zF x = zd x.kind.toNat ++ zd x.n.toNat := by simp [zF,h]
theorem Lj {x : Nd} (h : x.kind = 3) : zF x = zd x.kind.toNat ++ zd (x.n + 1000000000).toNat := by simp [zF,h]
theorem Lk {x : Nd} (h : x.kind = 4) : zF x = zd x.kind.toNat ++ JG x.s.data.toList := by simp [zF,h]
theorem Lm {x : Nd} (h : x.kind = 5) : zF x = zd x.kind.toNat ++ zd x.a.toNat ++ zd x.b.toNat := by simp [zF,h]
theorem Ln {x : Nd} (h : x.kind = 6) : zF x = zd x.kind.toNat ++ zd x.n.toNat ++ zd x.a.toNat := by simp [zF,h]
theorem Lp {x : Nd} (h : x.kind = 7) : zF x = zd x.kind.toNat ++ zd x.a.toNat := by simp [zF,h]
structure NdOk (x : Nd) (i : Nat) : Prop where
 k1 : 1 <= x.kind
 k9 : x.kind <= 9
 n3 : -1000000000 <= x.n
 n9 : x.n <= 1000000000
 n0 : x.kind ≠ 3 -> 0 <= x.n
 a0 : 0 <= x.a
 a1 : x.a <= i
 b0 : 0 <= x.b
 b1 : x.b <= i
 s4 : x.s.size <= 12
theorem FP {x : Nd} {h : Int} (ho : okN x h = true) (h4 : ¬ x.kind = 4) : x.s.size = 0 := by
 have hz : nz x.s = true := by
  unfold okN at ho
  simp only [h4,if_false] at ho
  repeat' split at ho
  all_goals (first | (simp only [Bool.and_eq_true] at ho; exact ho.2.1) | (cases ho))
 rw [nz,DG] at hz
 rw [of_decide_eq_true hz]; rfl
theorem GW {x : Nd} {i : Nat} (ho : okN x i = true) : NdOk x i := by
 have hk := UJ ho
 have hs : x.s.size <= 12 := by
  by_cases h4 : x.kind = 4
  ·exact UF (UK ho h4)
  ·rw [FP ho h4]; omega
 have rest : (-1000000000 <= x.n /\ x.n <= 1000000000) /\ (x.kind ≠ 3 -> 0 <= x.n) /\ (0 <= x.a /\ x.a <= i) /\ (0 <= x.b /\ x.b <= i) := by
  unfold okN at ho
  repeat' split at ho
  all_goals (try simp only [Bool.and_eq_true,wi,decide_eq_true_eq,beq_iff_eq] at ho)
  all_goals (first | (cases ho; done) | (refine ⟨⟨?_,?_⟩,fun _ => ?_,⟨?_,?_⟩,⟨?_,?_⟩⟩ <;> omega))
 exact ⟨hk.1,hk.2,rest.1.1,rest.1.2,rest.2.1,rest.2.2.1.1,rest.2.2.1.2,rest.2.2.2.1,rest.2.2.2.2,hs⟩
def KC (p : List Nd) : List UInt8 := zd p.length ++ p.flatMap zF
theorem Mh {s : List UInt8} (h : s.length < 4611686018427387904) : (JG s).length <= 9 + s.length := by
 have := y6 h
 simp only [JG,lnA]; omega
theorem NN {x : Nd} {i : Nat} (ho : okN x i = true) (hi : i <= 3000) : (zF x).length <= 30 := by
 obtain ⟨k1,k9,n3,n9,n0,a0,a1,b0,b1,s4⟩ := GW ho
 have l1 := y6 (n := x.kind.toNat) (by omega)
 have l2 := y6 (n := x.n.toNat) (by omega)
 have l3 := y6 (n := (x.n + 1000000000).toNat) (by omega)
 have l4 := y6 (n := x.a.toNat) (by omega)
 have l5 := y6 (n := x.b.toNat) (by omega)
 have e : x.s.data.toList.length = x.s.size := by rw [Array.length_toList]; rfl
 have l6 := Mh (s := x.s.data.toList) (by omega)
 unfold zF
 repeat' split
 all_goals (simp only [lnA,lnN]; omega)
theorem Gu {p : List Nd} (hp : yW p = true) : ∀ (k i : Nat) (out : List UInt8),i + k = p.length -> out.length <= 9 + 30 * i -> yR (p.map eN) (ni (p.map eN).length) (i : Int) (out.map eU) = some (.os (1,0) ((out ++ (p.drop i).flatMap zF).map eU),[])
 | 0,i,out,hi,ho => by
  have hl := yX hp
  rw [CE,List.drop_of_length_le (by omega)]
  simp (disch := first | omega | (simp only [lnA,lnC,lnN,lnM,yO,wY]; omega)) only [↓xJ,yI,lnM,wY,List.flatMap_nil,List.append_nil]
 | k + 1,i,out,hi,ho => by
  have hl := yX hp
  obtain ⟨x,hx⟩ := xx (l := p) (i := i) (by omega)
  have hok := z6 hp hx
  have hlen := NN hok (by omega)
  obtain ⟨k1,k9,n3,n9,n0,a0,a1,b0,b1,s4⟩ := GW hok
  have l1 := y6 (n := x.kind.toNat) (by omega)
  have l2 := y6 (n := x.n.toNat) (by omega)
  have l3 := y6 (n := (x.n + 1000000000).toNat) (by omega)
  have l4 := y6 (n := x.a.toNat) (by omega)
  have l5 := y6 (n := x.b.toNat) (by omega)
  have e : x.s.data.toList.length = x.s.size := by rw [Array.length_toList]; rfl
  have l6 := Mh (s := x.s.data.toList) (by omega)
  have ih := Gu hp k (i + 1) (out ++ zF x) (by omega) (by simp only [lnA]; omega)
  have hw : w6 ((i : Int) + 1) = ((i + 1 : Nat) : Int) := yM (by omega)
  have ed : out ++ (p.drop i).flatMap zF = out ++ zF x ++ (p.drop (i + 1)).flatMap zF := by rw [tU hx,List.flatMap_cons,List.append_assoc]
  rw [ed,CE]
  rw [lnM] at ih ⊢
  have hk : x.kind = 1 \/ x.kind = 2 \/ x.kind = 3 \/ x.kind = 4 \/ x.kind = 5 \/ x.kind = 6 \/ x.kind = 7 \/ x.kind = 8 \/ x.kind = 9 := by omega
  rcases hk with h | h | h | h | h | h | h | h | h
  ·rw [PE h] at ih ⊢; simp (disch := first | omega | (simp only [lnA,lnC,lnN,lnM,yO,wY]; omega)) only [↓wZ,xi,↓yk,↓xJ,↓xP,↓yo,↓yb,↓ye,↓yi,↓yg,↓xu,↓yA,↓xX,yJ,yE,Bool.and_true,lnM,lnA,pE,wY,↓xW hx,zn,yl,hw]; exact ih
  ·rw [Bu (.inl h),<- List.append_assoc] at ih ⊢; simp (disch := first | omega | (simp only [lnA,lnC,lnN,lnM,yO,wY]; omega)) only [↓wZ,xi,↓yk,↓xP,↓yo,↓yb,↓ye,↓yi,↓yg,↓xu,↓yA,↓xX,yJ,yF,Bool.and_true,lnM,lnA,pE,wY,↓xW hx,zn,yl,hw]; exact ih
  ·rw [Lj h,<- List.append_assoc] at ih ⊢; simp (disch := first | omega | (simp only [lnA,lnC,lnN,lnM,yO,wY]; omega)) only [↓wZ,xi,↓yk,↓xJ,↓xP,↓yo,↓yb,↓ye,↓yi,↓yg,↓xu,↓yA,↓xX,yJ,yF,yE,Bool.and_true,lnM,lnA,pE,wS,wY,↓xW hx,zn,yl,hw]; exact ih
  ·rw [Lk h,<- List.append_assoc] at ih ⊢; simp (disch := first | omega | (simp only [lnA,lnC,lnN,lnM,yO,wY]; omega)) only [↓wZ,xi,↓yk,↓xJ,↓xP,↓yo,↓yb,↓ye,↓yi,↓yg,↓xu,↓yA,↓xX,yJ,yF,yE,Bool.and_true,lnM,lnA,pE,wY,↓xW hx,zn,KZ,yl,hw]; exact ih
  ·rw [Lm h,<- List.append_assoc,<- List.append_assoc] at ih ⊢; simp (disch := first | omega | (simp only [lnA,lnC,lnN,lnM,yO,wY]; omega)) only [↓wZ,xi,↓yk,↓xJ,↓xP,↓yo,↓yb,↓ye,↓yi,↓yg,↓xu,↓yA,↓xX,yJ,yF,yE,Bool.and_true,lnM,lnA,pE,wY,↓xW hx,zn,yl,hw]; exact ih
  ·rw [Ln h,<- List.append_assoc,<- List.append_assoc] at ih ⊢; simp (disch := first | omega | (simp only [lnA,lnC,lnN,lnM,yO,wY]; omega)) only [↓wZ,xi,↓yk,↓xJ,↓xP,↓yo,↓yb,↓ye,↓yi,↓yg,↓xu,↓yA,↓xX,yJ,yF,yE,Bool.and_true,lnM,lnA,pE,wY,↓xW hx,zn,yl,hw]; exact ih
  ·rw [Lp h,<- List.append_assoc] at ih ⊢; simp (disch := first | omega | (simp only [lnA,lnC,lnN,lnM,yO,wY]; omega)) only [↓wZ,xi,↓yk,↓xJ,↓xP,↓yo,↓yb,↓ye,↓yi,↓yg,↓xu,↓yA,↓xX,yJ,yF,yE,Bool.and_true,lnM,lnA,pE,wY,↓xW hx,zn,yl,hw]; exact ih
  ·rw [Bu (.inr (.inl h)),<- List.append_assoc] at ih ⊢; simp (disch := first | omega | (simp only [lnA,lnC,lnN,lnM,yO,wY]; omega)) only [↓wZ,xi,↓yk,↓xJ,↓xP,↓yo,↓yb,↓ye,↓yi,↓yg,↓xu,↓yA,↓xX,yJ,yF,yE,Bool.and_true,lnM,lnA,pE,wY,↓xW hx,zn,yl,hw]; exact ih
  ·rw [Bu (.inr (.inr h)),<- List.append_assoc] at ih ⊢; simp (disch := first | omega | (simp only [lnA,lnC,lnN,lnM,yO,wY]; omega)) only [↓wZ,xi,↓yk,↓xJ,↓xP,↓yo,↓yb,↓ye,↓yi,↓yg,↓xu,↓yA,↓xX,yJ,yF,yE,Bool.and_true,lnM,lnA,pE,wY,↓xW hx,zn,yl,hw]; exact ih
theorem GI {p : List Nd} (hp : yW p = true) : ∀ (k i : Nat) (out : List UInt8),i + k = p.length -> out.length <= 9 + 30 * i -> yU (i : Int) (p.map eN) (out.map eU) = some (.os (1,0) ((out ++ (p.drop i).flatMap zF).map eU),[])
 | 0,i,out,hi,ho => by
  have hl := yX hp
  rw [Dt,List.drop_of_length_le (by omega)]
  simp (disch := first | omega | (simp only [lnA,lnC,lnN,lnM,yO,wY]; omega)) only [↓xJ,yI,lnM,wY,List.flatMap_nil,List.append_nil]
 | k + 1,i,out,hi,ho => by
  have hl := yX hp
  obtain ⟨x,hx⟩ := xx (l := p) (i := i) (by omega)
  have hok := z6 hp hx
  have hlen := NN hok (by omega)
  obtain ⟨k1,k9,n3,n9,n0,a0,a1,b0,b1,s4⟩ := GW hok
  have l1 := y6 (n := x.kind.toNat) (by omega)
  have l2 := y6 (n := x.n.toNat) (by omega)
  have l3 := y6 (n := (x.n + 1000000000).toNat) (by omega)
  have l4 := y6 (n := x.a.toNat) (by omega)
  have l5 := y6 (n := x.b.toNat) (by omega)
  have e : x.s.data.toList.length = x.s.size := by rw [Array.length_toList]; rfl
  have l6 := Mh (s := x.s.data.toList) (by omega)
  have ih := GI hp k (i + 1) (out ++ zF x) (by omega) (by simp only [lnA]; omega)
  have hw : w6 ((i : Int) + 1) = ((i + 1 : Nat) : Int) := yM (by omega)
  have ed : out ++ (p.drop i).flatMap zF = out ++ zF x ++ (p.drop (i + 1)).flatMap zF := by rw [tU hx,List.flatMap_cons,List.append_assoc]
  rw [ed,Dt]
  have hk : x.kind = 1 \/ x.kind = 2 \/ x.kind = 3 \/ x.kind = 4 \/ x.kind = 5 \/ x.kind = 6 \/ x.kind = 7 \/ x.kind = 8 \/ x.kind = 9 := by omega
  rcases hk with h | h | h | h | h | h | h | h | h
  ·rw [PE h] at ih ⊢; simp (disch := first | omega | (simp only [lnA,lnC,lnN,lnM,yO,wY]; omega)) only [↓wZ,xi,↓yk,↓xJ,↓xP,↓yo,↓yb,↓ye,↓yi,↓yg,↓xu,↓yA,↓xX,yJ,yE,Bool.and_true,lnM,lnA,pE,wY,↓xW hx,zo,yl,hw]; exact ih
  ·rw [Bu (.inl h),<- List.append_assoc] at ih ⊢; simp (disch := first | omega | (simp only [lnA,lnC,lnN,lnM,yO,wY]; omega)) only [↓wZ,xi,↓yk,↓xP,↓yo,↓yb,↓ye,↓yi,↓yg,↓xu,↓yA,↓xX,yJ,yF,Bool.and_true,lnM,lnA,pE,wY,↓xW hx,zo,yl,hw]; exact ih
  ·rw [Lj h,<- List.append_assoc] at ih ⊢; simp (disch := first | omega | (simp only [lnA,lnC,lnN,lnM,yO,wY]; omega)) only [↓wZ,xi,↓yk,↓xJ,↓xP,↓yo,↓yb,↓ye,↓yi,↓yg,↓xu,↓yA,↓xX,yJ,yF,yE,Bool.and_true,lnM,lnA,pE,wS,wY,↓xW hx,zo,yl,hw]; exact ih
  ·rw [Lk h,<- List.append_assoc] at ih ⊢; simp (disch := first | omega | (simp only [lnA,lnC,lnN,lnM,yO,wY]; omega)) only [↓wZ,xi,↓yk,↓xJ,↓xP,↓yo,↓yb,↓ye,↓yi,↓yg,↓xu,↓yA,↓xX,yJ,yF,yE,Bool.and_true,lnM,lnA,pE,wY,↓xW hx,zo,Ld,yl,hw]; exact ih
  ·rw [Lm h,<- List.append_assoc,<- List.append_assoc] at ih ⊢; simp (disch := first | omega | (simp only [lnA,lnC,lnN,lnM,yO,wY]; omega)) only [↓wZ,xi,↓yk,↓xJ,↓xP,↓yo,↓yb,↓ye,↓yi,↓yg,↓xu,↓yA,↓xX,yJ,yF,yE,Bool.and_true,lnM,lnA,pE,wY,↓xW hx,zo,yl,hw]; exact ih
  ·rw [Ln h,<- List.append_assoc,<- List.append_assoc] at ih ⊢; simp (disch := first | omega | (simp only [lnA,lnC,lnN,lnM,yO,wY]; omega)) only [↓wZ,xi,↓yk,↓xJ,↓xP,↓yo,↓yb,↓ye,↓yi,↓yg,↓xu,↓yA,↓xX,yJ,yF,yE,Bool.and_true,lnM,lnA,pE,wY,↓xW hx,zo,yl,hw]; exact ih
  ·rw [Lp h,<- List.append_assoc] at ih ⊢; simp (disch := first | omega | (simp only [lnA,lnC,lnN,lnM,yO,wY]; omega)) only [↓wZ,xi,↓yk,↓xJ,↓xP,↓yo,↓yb,↓ye,↓yi,↓yg,↓xu,↓yA,↓xX,yJ,yF,yE,Bool.and_true,lnM,lnA,pE,wY,↓xW hx,zo,yl,hw]; exact ih
  ·rw [Bu (.inr (.inl h)),<- List.append_assoc] at ih ⊢; simp (disch := first | omega | (simp only [lnA,lnC,lnN,lnM,yO,wY]; omega)) only [↓wZ,xi,↓yk,↓xJ,↓xP,↓yo,↓yb,↓ye,↓yi,↓yg,↓xu,↓yA,↓xX,yJ,yF,yE,Bool.and_true,lnM,lnA,pE,wY,↓xW hx,zo,yl,hw]; exact ih
  ·rw [Bu (.inr (.inr h)),<- List.append_assoc] at ih ⊢; simp (disch := first | omega | (simp only [lnA,lnC,lnN,lnM,yO,wY]; omega)) only [↓wZ,xi,↓yk,↓xJ,↓xP,↓yo,↓yb,↓ye,↓yi,↓yg,↓xu,↓yA,↓xX,yJ,yF,yE,Bool.and_true,lnM,lnA,pE,wY,↓xW hx,zo,yl,hw]; exact ih
theorem Rc {p : List Nd} (hp : yW p = true) : V 68 [eP p] = some (.os (1,0) ((KC p).map eU),[]) := by
 have hl := yX hp
 have h := Gu hp p.length 0 (zd p.length) (Nat.zero_add _) (y6 (by omega))
 rw [lnM,List.drop_zero,Int.natCast_zero] at h
 rw [KQ]
 simp (disch := first | omega | (simp only [lnA,lnC,lnN,lnM,yO,wY]; omega)) only [↓wZ,xi,↓yo,↓yg,lnM,wY,zn,Int.toNat_natCast]
 exact h
theorem Ub {p : List Nd} (hp : yW p = true) : V 70 [eP p] = some (.os (1,0) ((KC p).map eU),[]) := by
 have hl := yX hp
 have h := GI hp p.length 0 (zd p.length) (Nat.zero_add _) (y6 (by omega))
 rw [List.drop_zero,Int.natCast_zero] at h
 rw [Nh]
 simp (disch := first | omega | (simp only [lnA,lnC,lnN,lnM,yO,wY]; omega)) only [↓wZ,xi,↓yo,↓yg,lnM,wY,zo,Int.toNat_natCast]
 exact h
def FA (p : List Nd) (v : Int) : Option (List UInt8) := if yW p = true /\ wi v 0 ((p.length : Int) - 1) = true then some (KC (zz (-1) p [v]).1) else none
def Kz (r : Option (List UInt8)) : D := match r with | some l => .tup [.str (mk l),.bool true] | none => .tup [.str ⟨#[]⟩,.bool false]
theorem Dh {p : List Nd} {v : Int} (h : wi v 0 ((p.length : Int) - 1) = true) : zw p [v] = true := by simp [zw,h]
theorem Km {p : List Nd} (hf : Aw p) (hl : p.length < 4611686018427387904) (v : Int) : V 195 [eP p,iN v] = some (Kz (FA p v),[]) := by
 rw [KN]
 unfold FA
 cases hp : yW p with
 | false => rw [if_neg (by simp)]; simp (disch := first | omega | (simp only [lnA,lnC,lnN,lnM,yO,wY]; omega)) only [↓wZ,xi,↓yk,↓yo,↓xI,Bool.not_false,Bh hf hl,hp]; rfl
 | true =>
  cases hv : wi v 0 ((p.length : Int) - 1) with
  | false => rw [if_neg (by simp)]; simp (disch := first | omega | (simp only [lnA,lnC,lnN,lnM,yO,wY]; omega)) only [↓wZ,xi,↓yk,↓xJ,↓yo,↓xI,Bool.not_true,Bool.not_false,Bh hf hl,hp,DI hl v,hv]; rfl
  | true =>
   have hk : V 66 [eP p,.rs (1,0) [iN v]] = _ := Ww hp (rs := [v]) (by simp) (Dh hv)
   have ha := (I9 hp (Dh hv) (-1) (-1)).1
   rw [if_pos (And.intro rfl rfl)]
   simp (disch := first | omega | (simp only [lnA,lnC,lnN,lnM,yO,wY]; omega)) only [↓wZ,xi,↓xJ,↓yo,↓yb,↓xI,↓yg,↓xu,↓xw,Bool.not_true,Bh hf hl,hp,DI hl v,hv,hk,Rc ha,↓FJ]
   rfl
theorem Kq {p : List Nd} (hf : Aw p) (hl : p.length < 4611686018427387904) (v : Int) : V 194 [eP p,iN v] = some (Kz (FA p v),[]) := by
 rw [KU]
 unfold FA
 cases hp : yW p with
 | false => rw [if_neg (by simp)]; simp (disch := first | omega | (simp only [lnA,lnC,lnN,lnM,yO,wY]; omega)) only [↓wZ,xi,↓yk,↓yo,↓xI,Bool.not_false,zr hf hl,hp]; rfl
 | true =>
  cases hv : wi v 0 ((p.length : Int) - 1) with
  | false => rw [if_neg (by simp)]; simp (disch := first | omega | (simp only [lnA,lnC,lnN,lnM,yO,wY]; omega)) only [↓wZ,xi,↓yk,↓xJ,↓yo,↓xI,Bool.not_true,Bool.not_false,zr hf hl,hp,Ew hl v,hv]; rfl
  | true =>
   have hk : V 86 [eP p,.rs (1,0) [iN v]] = _ := Vi hp (rs := [v]) (by simp) (Dh hv)
   rw [RF hp (Dh hv) 0 (-1)] at hk
   have ha := (I9 hp (Dh hv) (-1) (-1)).1
   rw [if_pos (And.intro rfl rfl)]
   simp (disch := first | omega | (simp only [lnA,lnC,lnN,lnM,yO,wY]; omega)) only [↓wZ,xi,↓xJ,↓yo,↓yb,↓xI,↓yg,↓xu,↓xw,Bool.not_true,zr hf hl,hp,Ew hl v,hv,hk,Ub ha,↓FJ]
   rfl
end
end Go.Eng
/-! tidying,and machines as bytes,on both sides -/
namespace Go.Eng
noncomputable section
open Go.Proofs Go.Proofs.Tryz
set_option maxHeartbeats 4000000

theorem Ve {p : List Nd} (hl : p.length <= 4294967296) : V 147 [eP p] = some (oP p,[]) := by
 rw [Jq,List.nil_append]
 simp (disch := first | omega | (simp only [lnA,lnC,lnN,lnM,yO,wY]; omega)) only [↓xP,↓yA,yJ,lnM,pE,wY]
def holds (m : Mc) : Bool := decide (m.state = 1 \/ m.state = 2)
def Wq (m : Mc) : List Int := if holds m = true then [m.s,m.e,m.d,m.arg] else [m.s,m.e,m.d]
def tf (m : Mc) (r : Int) : Int := (Bx (-1) m.pool (Wq m) []).1.getD r.toNat 0
end
end Go.Eng
/-! words of a text,on both sides -/
namespace Go.Eng
noncomputable section
open Go.Proofs Go.Proofs.Tryz
set_option maxHeartbeats 4000000

def dU (x : UInt8) : Bool := decide (48 <= x.toNat) && decide (x.toNat <= 57)
def Gg (x : UInt8) : Bool := nmB (x.toNat : Int) || (dU x || (x.toNat : Int) == 35)
theorem dU_iff {x : UInt8} : dU x = true ↔ 48 <= x.toNat /\ x.toNat <= 57 := by simp [dU]
theorem Wj (x : UInt8) : br (decide ((x.toNat : Int) >= 48)) (some (D.bool (decide ((x.toNat : Int) <= 57)),([] : List D))) (some (D.bool false,[])) = some (.bool (dU x),[]) := by
 unfold dU
 by_cases h1 : 48 <= x.toNat
 ·by_cases h2 : x.toNat <= 57
  ·rw [xK (decide_eq_true (by omega)),decide_eq_true (by omega),decide_eq_true h1,decide_eq_true h2]; rfl
  ·rw [xK (decide_eq_true (by omega)),decide_eq_false (by omega),decide_eq_true h1,decide_eq_false h2]; rfl
 ·rw [xb (decide_eq_false (by omega)),decide_eq_false h1]; rfl
theorem Oh (x : UInt8) : V 226 [.int .u8 (x.toNat : Int)] = some (.bool (dU x),[]) := (Na _).trans (Wj x)
theorem FT (x : UInt8) : V 211 [.int .u8 (x.toNat : Int)] = some (.bool (Gg x),[]) := by
 rw [J8,Gf (JO _),JF (Oh x),Ul,Ul]; rfl

def zY (acc : Nat) (l : List UInt8) : Nat := l.foldl (fun n x => 10 * n + (x.toNat - 48)) acc
theorem Th : ∀ (l : List UInt8) (acc k : Nat),l.all dU = true -> acc < 10 ^ k -> zY acc l < 10 ^ (k + l.length)
 | [],acc,k,_,h => h
 | x :: l,acc,k,hl,h => by
  rw [List.all_cons,Bool.and_eq_true] at hl
  have hx := dU_iff.1 hl.1
  have := Th l (10 * acc + (x.toNat - 48)) (k + 1) hl.2 (by rw [Nat.pow_succ]; omega)
  rw [lnC]
  have e : k + (l.length + 1) = k + 1 + l.length := by omega
  rw [e]; exact this
abbrev noW : D := .tup [iN 0,.bool false]
theorem Mg {k : Nat} (h : k <= 10) : 10 ^ k <= 10000000000 := by
 have : 10 ^ k <= 10 ^ 10 := Nat.pow_le_pow_right (by omega) h
 simpa using this
def AR (l : List UInt8) : Option Nat := if l.length = 0 \/ 10 < l.length \/ (l[0]? = some 48 /\ 1 < l.length) \/ l.all dU = false then none else some (zY 0 l)
theorem Uc (l : List UInt8) (x : UInt8) (acc : Nat) : zY acc (l ++ [x]) = 10 * zY acc l + (x.toNat - 48) := by simp [zY]
theorem Re : ∀ (l : List UInt8) (acc : Nat),0 < acc -> 0 < zY acc l
 | [],acc,h => h
 | x :: l,acc,h => Re l (10 * acc + (x.toNat - 48)) (by omega)
theorem Qe : ∀ (n : Nat) (l : List UInt8),l.length = n + 1 -> l.all dU = true -> (l[0]? ≠ some 48 \/ l.length = 1) -> Fm (zY 0 l) = l
 | 0,l,hn,ha,h0 => by
  match l,hn with
  | [x],_ =>
   have hx := dU_iff.1 (by simpa using ha)
   have e : zY 0 [x] = x.toNat - 48 := by simp [zY]
   rw [e,z3 (by omega)]
   congr 1
   apply UInt8.toNat_inj.1
   simp; omega
 | n + 1,l,hn,ha,h0 => by
  have hne : l ≠ [] := by intro h; rw [h] at hn; simp at hn
  obtain ⟨l',x,rfl⟩ : ∃ l' x,l = l' ++ [x] := ⟨l.dropLast,l.getLast hne,(List.dropLast_concat_getLast hne).symm⟩
  have hl' : l'.length = n + 1 := by simp at hn; omega
  have ha' : l'.all dU = true /\ dU x = true := by simpa using ha
  have hx := dU_iff.1 ha'.2
  have h48 : l'[0]? ≠ some 48 := by
   rcases h0 with h | h
   ·rwa [List.getElem?_append_left (by omega)] at h
   ·exfalso; rw [lnA,List.length_singleton] at h; omega
  have ih := Qe n l' hl' ha'.1 (.inl h48)
  rw [Uc]
  have hpos : 0 < zY 0 l' := by
   match l',hl' with
   | y :: r,_ =>
    have hy := dU_iff.1 (by simpa using (show (y :: r).all dU = true from ha'.1) : dU y = true /\ _).1
    have hy48 : y.toNat ≠ 48 := by
     intro h; apply h48; simp; exact UInt8.toNat_inj.1 h
    exact Re r (10 * 0 + (y.toNat - 48)) (by omega)
  rw [Gk (by omega)]
  have e1 : (10 * zY 0 l' + (x.toNat - 48)) / 10 = zY 0 l' := by omega
  have e2 : (10 * zY 0 l' + (x.toNat - 48)) % 10 = x.toNat - 48 := by omega
  rw [e1,e2,ih]
  congr 2
  apply UInt8.toNat_inj.1
  simp; omega
theorem Tk : ∀ (n : Nat),(Fm n)[0]? ≠ some 48 \/ n = 0 := by
 intro n
 induction n using Nat.strongRecOn with
 | _ n ih =>
  by_cases h : n < 10
  ·by_cases h0 : n = 0
   ·exact .inr h0
   ·left
    rw [z3 h]
    intro e
    simp at e
    have := congrArg UInt8.toNat e
    simp at this
    omega
  ·left
   rw [Gk h,List.getElem?_append_left (Un _)]
   rcases ih (n / 10) (by omega) with h1 | h1
   ·exact h1
   ·omega
theorem Qc {l : List UInt8} (h0 : l.length ≠ 0) (h10 : ¬ 10 < l.length) (ha : l.all dU = true) : Fm (zY 0 l) = l ↔ ¬ (l[0]? = some 48 /\ 1 < l.length) := by
 constructor
 ·rintro h ⟨h1,h2⟩
  rcases Tk (zY 0 l) with h3 | h3
  ·rw [h] at h3; exact h3 h1
  ·rw [h3,z3 (by omega)] at h
   have := congrArg List.length h
   simp at this; omega
 ·intro h
  refine Qe (l.length - 1) l (by omega) ha ?_
  by_cases h1 : l[0]? = some 48
  ·exact .inr (by
           have : ¬ 1 < l.length := fun h2 => h ⟨h1,h2⟩
           omega)
  ·exact .inl h1
end
end Go.Eng
/-! the node of a word,on both sides -/
namespace Go.Eng
noncomputable section
open Go.Proofs Go.Proofs.Tryz
set_option maxHeartbeats 4000000

def PH (r : Option Nat) : Option Int := match r with | some n => if n <= 1000000000 then some (n : Int) else none | none => none
def Tz (r : Option Nat) : Option Int := match r with | some n => if 0 < n /\ n <= 1000000000 then some (-(n : Int)) else none | none => none
def RK (l : List UInt8) : Option Int := match l with
 | x :: d :: r => if x = 45 /\ dU d = true then Tz (AR (d :: r)) else PH (AR l)
 | _ => PH (AR l)
def SN (r : Option Int) (l : List UInt8) : Option Nd := match r with | some n => some ⟨3,n,⟨#[]⟩,0,0⟩ | none => if Ig (mk l) = true then some ⟨4,0,mk l,0,0⟩ else none
def C9 (l : List UInt8) : Option Nd := if l = [35,116] then some ⟨2,1,⟨#[]⟩,0,0⟩ else if l = [35,102] then some ⟨2,0,⟨#[]⟩,0,0⟩ else SN (RK l) l
def Sf (r : Option Nd) (x : Nd) (b : Bool) : Prop := match r with | some y => x = y /\ b = true | none => b = false
theorem NJ {l : List UInt8} {n : Nat} (h : AR l = some n) : l.length ≠ 0 /\ ¬ 10 < l.length /\ ¬ (l[0]? = some 48 /\ 1 < l.length) /\ l.all dU = true /\ n = zY 0 l /\ n < 10000000000 := by
 unfold AR at h
 split at h
 ·cases h
 ·rename_i hn
  cases h
  have ha : l.all dU = true := by
   cases e : l.all dU with
   | true => rfl
   | false => exact absurd (.inr (.inr (.inr e))) hn
  have h10 : ¬ 10 < l.length := fun e => hn (.inr (.inl e))
  have := Th l 0 0 ha (by simp)
  rw [Nat.zero_add] at this
  have := Mg (k := l.length) (by omega)
  exact ⟨fun e => hn (.inl e),h10,fun e => hn (.inr (.inr (.inl e))),ha,rfl,by omega⟩
def tb (l : List UInt8) : Bool := match AR l with | some n => decide (n <= 1000000000) | none => Ig (mk l)
theorem UH {l : List UInt8} (h : ¬ (l[0]? = some 45 /\ 1 < l.length)) : RK l = PH (AR l) := by
 match l with
 | [] => rfl
 | [x] => rfl
 | x :: d :: r => rw [RK,if_neg]; rintro ⟨e,_⟩; exact h ⟨by rw [e]; rfl,by simp⟩
def KX (a r : List UInt8) (v : Nat) : Int := if r.length = a.length then (v : Int) else -(v : Int)
def Qv (a r : List UInt8) (v : Nat) : Bool := decide (FG (KX a r v) = a) && wi (KX a r v) (-1000000000) 1000000000
theorem VI {a r : List UInt8} {v : Nat} (hv : v < 100000000000) : @Eq (Option Ret) (br (ni r.length != ni a.length)
  (jb V 202 [(iN (w6 (0 - (v : Int))))] fun x3 l4 => asS x3 fun s5 => unn l4 (br (kc s5 (mk a))
    (jb V 62 [(iN (w6 (0 - (v : Int)))),(iN (-1000000000)),(iN (1000000000))] fun x6 l7 => asB x6 fun b8 => unn l7 (some ((.tup [(iN (w6 (0 - (v : Int)))),(.bool b8)]),[])))
    (some ((.tup [(iN (w6 (0 - (v : Int)))),(.bool false)]),[]))))
  (jb V 202 [(iN (v : Int))] fun x9 l10 => asS x9 fun s11 => unn l10 (br (kc s11 (mk a))
    (jb V 62 [(iN (v : Int)),(iN (-1000000000)),(iN (1000000000))] fun x12 l13 => asB x12 fun b14 => unn l13 (some ((.tup [(iN (v : Int)),(.bool b14)]),[])))
    (some ((.tup [(iN (v : Int)),(.bool false)]),[]))))) (some (.tup [iN (KX a r v),.bool (Qv a r v)],[])) := by
 unfold Qv KX
 by_cases h : r.length = a.length
 ·have hd := MC (n := (v : Int)) (by omega)
  rw [xb (by simp [ni,h]),if_pos h,EJ hd,DH]
  by_cases h2 : FG (v : Int) = a
  ·rw [decide_eq_true h2,yk,Ah (zI _ _ _),Bool.true_and]
  ·rw [decide_eq_false h2,xJ,Bool.false_and]
 ·have hd := MC (n := -(v : Int)) (by omega)
  rw [xK (by simp only [ni,bne_iff_ne,ne_eq]; omega),if_neg h,show (0 : Int) - (v : Int) = -(v : Int) by omega,w64 (by omega) (by omega),EJ hd,DH]
  by_cases h2 : FG (-(v : Int)) = a
  ·rw [decide_eq_true h2,yk,Ah (zI _ _ _),Bool.true_and]
  ·rw [decide_eq_false h2,xJ,Bool.false_and]
theorem QN {a l : List UInt8} (hl : l.length <= 10) : ∀ (k i acc : Nat),i + k = l.length -> acc < 10 ^ i -> zN (mk a) (mk l) (acc : Int) (i : Int) = some (if (l.drop i).all dU = true then .tup [iN (KX a l (zY acc (l.drop i))),.bool (Qv a l (zY acc (l.drop i)))] else noW,[])
 | 0,i,acc,hi,ha => by
  have hp := Mg (k := i) (by omega)
  have he := VI (a := a) (r := l) (v := acc) (by omega)
  rw [Fh,List.drop_of_length_le (by omega),yO,yO,xb (yr (by omega)),he]
  rfl
 | k + 1,i,acc,hi,ha => by
  obtain ⟨x,hx⟩ := xx (l := l) (i := i) (by omega)
  have hp := Mg (k := i) (by omega)
  have hb := Ny hx
  have hd := Oh x
  rw [Fh,yO,xK (yz (by omega)),yu (yx (by omega)),hb,JF hd,tU hx,List.all_cons]
  cases h : dU x with
  | false => rw [Bool.not_false,yk,if_neg (by simp)]
  | true =>
   have hx2 := dU_iff.1 h
   have e2 : w6 (w6 (w6 (10 * (acc : Int)) + w6 ((x.toNat : Nat) : Int)) - 48) = ((10 * acc + (x.toNat - 48) : Nat) : Int) := by
    rw [w64 (n := 10 * (acc : Int)) (by omega) (by omega),w64 (n := ((x.toNat : Nat) : Int)) (by omega) (by omega),w64 (n := 10 * (acc : Int) + _) (by omega) (by omega),w64 (by omega) (by omega)]; omega
   have ih := QN (a := a) hl k (i + 1) (10 * acc + (x.toNat - 48)) (by omega) (by rw [Nat.pow_succ]; omega)
   rw [Bool.not_true,xJ,yu (yx (by omega)),e2,yM (by omega),ih,Bool.true_and]
   rfl
theorem PI {l : List UInt8} (h0 : l.length ≠ 0) (h10 : ¬ 10 < l.length) (ha : l.all dU = true) : KX l l (zY 0 l) = (zY 0 l : Int) /\ Qv l l (zY 0 l) = (PH (AR l)).isSome /\ (∀ m,PH (AR l) = some m -> m = (zY 0 l : Int)) := by
 have hz := Qc h0 h10 ha
 have e1 : KX l l (zY 0 l) = (zY 0 l : Int) := by simp [KX]
 have e2 : FG ((zY 0 l : Nat) : Int) = Fm (zY 0 l) := by simp [FG]
 refine ⟨e1,?_,?_⟩
 ·unfold Qv
  rw [e1,e2]
  by_cases h : l[0]? = some 48 /\ 1 < l.length
  ·rw [decide_eq_false (fun e => hz.1 e h),AR,if_pos (.inr (.inr (.inl h)))]; rfl
  ·have hn : AR l = some (zY 0 l) := by rw [AR,if_neg (by rintro (e | e | e | e) <;> first | omega | exact h e | (rw [ha] at e; cases e))]
   rw [decide_eq_true (hz.2 h),hn]
   unfold PH wi
   by_cases h1 : zY 0 l <= 1000000000
   ·simp [h1]; omega
   ·simp [h1]; omega
 ·intro m hm
  cases hn : AR l with
  | none => rw [hn] at hm; cases hm
  | some n =>
   have := (NJ hn).2.2.2.2.1
   rw [hn] at hm
   unfold PH at hm
   simp only at hm
   split at hm
   ·cases hm; rw [this]
   ·cases hm
theorem PC {l : List UInt8} (h0 : l.length ≠ 0) (h10 : ¬ 10 < l.length) (ha : l.all dU = true) : KX (45 :: l) l (zY 0 l) = -(zY 0 l : Int) /\ Qv (45 :: l) l (zY 0 l) = (Tz (AR l)).isSome /\ (∀ m,Tz (AR l) = some m -> m = -(zY 0 l : Int)) := by
 have hz := Qc h0 h10 ha
 have e1 : KX (45 :: l) l (zY 0 l) = -(zY 0 l : Int) := by simp [KX]
 refine ⟨e1,?_,?_⟩
 ·unfold Qv
  rw [e1]
  by_cases h : l[0]? = some 48 /\ 1 < l.length
  ·have : FG (-(zY 0 l : Int)) ≠ 45 :: l := by
    unfold FG
    split
    ·intro e; rw [Int.natAbs_neg,Int.natAbs_natCast] at e; exact hz.1 (List.cons_inj_right _ |>.1 e) h
    ·intro e
     have e0 : zY 0 l = 0 := by omega
     rw [e0] at e
     have := z3 (n := 0) (by omega)
     simp [this] at e
   rw [decide_eq_false this,AR,if_pos (.inr (.inr (.inl h)))]; rfl
  ·have hn : AR l = some (zY 0 l) := by rw [AR,if_neg (by rintro (e | e | e | e) <;> first | omega | exact h e | (rw [ha] at e; cases e))]
   rw [hn]
   by_cases h1 : zY 0 l = 0
   ·have : FG (-(zY 0 l : Int)) ≠ 45 :: l := by
     intro e
     rw [h1] at e
     have := z3 (n := 0) (by omega)
     simp [FG,this] at e
    rw [decide_eq_false this,h1]; rfl
   ·have : FG (-(zY 0 l : Int)) = 45 :: l := by
     unfold FG
     rw [if_pos (by omega),Int.natAbs_neg,Int.natAbs_natCast,hz.2 h]
    rw [decide_eq_true this]
    unfold Tz wi
    by_cases h2 : zY 0 l <= 1000000000
    ·have : 0 < zY 0 l := by omega
     simp [h2,this]; omega
    ·simp [h2]; omega
 ·intro m hm
  cases hn : AR l with
  | none => rw [hn] at hm; cases hm
  | some n =>
   have := (NJ hn).2.2.2.2.1
   rw [hn] at hm
   unfold Tz at hm
   simp only at hm
   split at hm
   ·cases hm; rw [this]
   ·cases hm
theorem QO {a r : List UInt8} {F : Option Nat -> Option Int} (hF : F none = none)
  (hfin : r.length ≠ 0 -> ¬ 10 < r.length -> r.all dU = true -> Qv a r (zY 0 r) = (F (AR r)).isSome /\ (∀ m,F (AR r) = some m -> m = KX a r (zY 0 r))) :
  ∃ n b,br (decide (ni r.length > 10)) (some (noW,[])) (br (ni r.length == 0) (some (noW,[])) (zN (mk a) (mk r) 0 0)) = some (.tup [iN n,.bool b],[]) /\ b = (F (AR r)).isSome /\ (∀ m,F (AR r) = some m -> m = n) := by
 by_cases h10 : 10 < r.length
 ·have hn : AR r = none := by rw [AR,if_pos (.inr (.inl h10))]
  rw [xK (decide_eq_true (by simp only [ni]; omega)),hn,hF]
  exact ⟨0,false,rfl,rfl,fun m h => by cases h⟩
 ·rw [xb (decide_eq_false (by simp only [ni]; omega))]
  by_cases h0 : r.length = 0
  ·have hn : AR r = none := by rw [AR,if_pos (.inl h0)]
   rw [xK (by simp [ni,h0]),hn,hF]
   exact ⟨0,false,rfl,rfl,fun m h => by cases h⟩
  ·rw [xb (by simp only [ni,beq_eq_false_iff_ne,ne_eq]; omega)]
   have hl := QN (a := a) (l := r) (by omega) r.length 0 0 (by omega) (by simp)
   rw [Int.natCast_zero,List.drop_zero] at hl
   rw [hl]
   cases ha : r.all dU with
   | false =>
    have hn : AR r = none := by rw [AR,if_pos (.inr (.inr (.inr ha)))]
    rw [if_neg (by simp),hn,hF]
    exact ⟨0,false,rfl,rfl,fun m h => by cases h⟩
   | true =>
    rw [if_pos rfl]
    obtain ⟨e1,e2⟩ := hfin h0 h10 ha
    exact ⟨_,_,rfl,e1,e2⟩
theorem VP (l : List UInt8) : ∃ n b,V 227 [.str (mk l)] = some (.tup [iN n,.bool b],[]) /\ b = (RK l).isSome /\ (∀ m,RK l = some m -> m = n) := by
 have hpos : ∃ n b,br (decide (ni l.length > 10)) (some (noW,[])) (br (ni l.length == 0) (some (noW,[])) (zN (mk l) (mk l) 0 0)) = some (.tup [iN n,.bool b],[]) /\ b = (PH (AR l)).isSome /\ (∀ m,PH (AR l) = some m -> m = n) :=
  QO rfl (fun h0 h10 ha => ⟨(PI h0 h10 ha).2.1,fun m hm => ((PI h0 h10 ha).2.2 m hm).trans (PI h0 h10 ha).1.symm⟩)
 rw [Qp,yO]
 by_cases hn : l[0]? = some 45 /\ 1 < l.length
 ·obtain ⟨hx,hl⟩ := hn
  match l,hx,hl with
  | x :: d :: r,hx,hl =>
   have hx : x = 45 := by simpa using hx
   subst hx
   have hb0 : bt (mk (45 :: d :: r)) 0 = 45 := Ny (i := 0) (x := 45) rfl
   have e : ByteArray.extract (mk (45 :: d :: r)) (Int.toNat 1) (45 :: d :: r).length = mk (d :: r) := by
    rw [Dz]; congr 1; simp
   rw [xK (decide_eq_true (by simp only [ni]; omega)),yu (by simp only [ni,Bool.and_eq_true,decide_eq_true_eq]; omega),hb0,xK (by decide),yu (by unfold cW; simp; omega),e,yO]
   obtain ⟨n,b,h1,h2,h3⟩ := QO (a := 45 :: d :: r) (r := d :: r) (F := Tz) rfl (fun h0 h10 ha => ⟨(PC h0 h10 ha).2.1,fun m hm => ((PC h0 h10 ha).2.2 m hm).trans (PC h0 h10 ha).1.symm⟩)
   refine ⟨n,b,h1,?_⟩
   rw [RK]
   by_cases hd : dU d = true
   ·rw [if_pos ⟨rfl,hd⟩]; exact ⟨h2,h3⟩
   ·rw [if_neg (fun h => hd h.2)]
    have hf : ∀ c : UInt8,dU c = false -> ∀ q,AR (c :: q) = none := by
     intro c hc q
     rw [AR,if_pos (.inr (.inr (.inr (by rw [List.all_cons,hc]; rfl))))]
    rw [hf 45 rfl] 
    rw [hf d (by simpa using hd)] at h2 h3
    exact ⟨h2,h3⟩
 ·rw [UH hn]
  by_cases hl : 1 < l.length
  ·obtain ⟨x,hx⟩ := xx (l := l) (i := 0) (by omega)
   have hbt : bt (mk l) 0 = (x.toNat : Int) := Ny hx
   have hne : x.toNat ≠ 45 := by
    intro h; apply hn; rw [hx]; exact ⟨by congr 1; exact UInt8.toNat_inj.1 h,hl⟩
   rw [xK (decide_eq_true (by simp only [ni]; omega)),yu (by simp only [ni,Bool.and_eq_true,decide_eq_true_eq]; omega),hbt,xb (by simp only [beq_eq_false_iff_ne,ne_eq]; omega)]
   exact hpos
  ·rw [xb (decide_eq_false (by simp only [ni]; omega))]
   exact hpos
theorem Rb {l : List UInt8} (hb : l.length < 4611686018427387904) : ∃ x b,V 212 [.str (mk l)] = some (.tup [eN x,.bool b],[]) /\ Sf (C9 l) x b := by
 have e1 : kc (mk l) ⟨#[35,116]⟩ = decide (l = [35,116]) := DH l _
 have e2 : kc (mk l) ⟨#[35,102]⟩ = decide (l = [35,102]) := DH l _
 obtain ⟨n,b,h3,h4,h5⟩ := VP l
 have hnm := Cz (s := mk l) (by rw [yO]; exact hb)
 rw [Pb,e1,e2,RQ h3]
 unfold C9
 by_cases h1 : l = [35,116]
 ·rw [xK (decide_eq_true h1),if_pos h1]; exact ⟨⟨2,1,⟨#[]⟩,0,0⟩,true,rfl,rfl,rfl⟩
 rw [xb (decide_eq_false h1),if_neg h1]
 by_cases h2 : l = [35,102]
 ·rw [xK (decide_eq_true h2),if_pos h2]; exact ⟨⟨2,0,⟨#[]⟩,0,0⟩,true,rfl,rfl,rfl⟩
 rw [xb (decide_eq_false h2),if_neg h2]
 cases hf : RK l with
 | some m =>
  rw [hf] at h4 h5
  have := h5 m rfl
  rw [h4,<- this]
  exact ⟨⟨3,m,⟨#[]⟩,0,0⟩,true,rfl,rfl,rfl⟩
 | none =>
  rw [hf] at h4
  rw [h4,show (none : Option Int).isSome = false from rfl,xJ,Kw hnm]
  refine ⟨⟨4,0,mk l,0,0⟩,Ig (mk l),rfl,?_⟩
  cases e : Ig (mk l) with
  | true => simp [SN,e,Sf]
  | false => simp [SN,e,Sf]
end
end Go.Eng
/-! sizes told: printed by mkz.py -/
namespace Go.Eng
open Go.Proofs Go.Proofs.Tryz
set_option maxHeartbeats 4000000
set_option maxRecDepth 100000

theorem sz3 : TypeInfo.size (Tables.types (Program.toTables Tryz.prog))[3] = 1 := by kernel_rfl
theorem fl3 : qU Tryz.prog (3) = true := by kernel_rfl

theorem zj (p0 : ByteArray) (p1 : Nat) (p2 : Int) (p3 : List D) (p4 : List D) (p5 : List D) (p6 : List D) : y1 p0 p1 p2 p3 p4 p5 p6 =
 br (decide (p2 < ni (ByteArray.size p0)))
  (
  grd (decide (0 <= p2) && decide (p2 < ni (ByteArray.size p0))) (br (bt p0 p2 == 32)
  (y1 p0 p1 (w6 (p2 + 1)) p3 p4 p5 p6)
  (
   br (bt p0 p2 == 40)
   (grd (decide
 (ni
   (List.length
    (part p5 (some (0,p1)) ++
     [D.agg
       [iN p2,
        D.os
         (1,0)
         []]])) <=
  LIM)) (nam (part p5 (some (0,p1)) ++
 [D.agg
   [iN p2,
    D.os
     (1,0)
     []]]) fun a =>
   y4 p0 (w6 (p2 + 1)) p3 p4 a p6))
   (
   br (bt p0 p2 == 41)
   (
    br (w6 (ni p1 - 1) == 0)
    (
    jb V 147 [(.agg [(.rs (5,0) p3)])] fun a b =>
    asAgg a fun c => unc c fun d e => jl (5,0) d fun f => unn e (unn b (some ((.tup [(.agg [(.os (5,0) f)]),(.os (1,0) p4),(iN (5)),(iN p2)]),[]))))
    (
    grd (decide (0 <= w6 (ni p1 - 1)) && decide (w6 (ni p1 - 1) < ni p1) && decide (0 + p1 <= List.length p5)) (cT p5 (0 + Int.toNat (w6 (ni p1 - 1))) fun a =>
    asAgg a fun b => cT b 1 fun c =>
     jl (1,0) c fun d => asAgg a fun e => jb V 210 [(.op [(.os (5,0) p6)]),(.rs (1,0) d)] fun f g =>
       asI .i64 f fun h => unc g fun i j => nC i fun k => unc k fun l m => jl (5,0) l fun n => unn m (unn j (grd (gW p1 (List.length (List.set p5 (0 + Int.toNat (w6 (ni p1 - 1))) (D.agg (List.take 1 e ++ [D.dead] ++ List.drop 2 e))) - 0) none (some (w6 (ni p1 - 1)))) (grd (decide (0 <= w6 (w6 (ni p1 - 1) - 1)) && decide (w6 (w6 (ni p1 - 1) - 1) < ni (Int.toNat (w6 (ni p1 - 1)))) && decide (0 + Int.toNat (w6 (ni p1 - 1)) <= List.length (List.set p5 (0 + Int.toNat (w6 (ni p1 - 1))) (D.agg (List.take 1 e ++ [D.dead] ++ List.drop 2 e))))) (cT (List.set p5 (0 + Int.toNat (w6 (ni p1 - 1))) (D.agg (List.take 1 e ++ [D.dead] ++ List.drop 2 e))) (0 + Int.toNat (w6 (w6 (ni p1 - 1) - 1))) fun o =>
          asAgg o fun p => cT p 1 fun q =>
           jl (1,0) q fun r => asAgg o fun s => grd (decide (ni (List.length (r ++ [iN h])) <= LIM)) (nam (r ++ [iN h]) fun t =>
            grd (decide (0 <= w6 (w6 (ni p1 - 1) - 1)) && decide (w6 (w6 (ni p1 - 1) - 1) < ni (Int.toNat (w6 (ni p1 - 1)))) && decide (0 + Int.toNat (w6 (ni p1 - 1)) <= List.length (List.set (List.set p5 (0 + Int.toNat (w6 (ni p1 - 1))) (D.agg (List.take 1 e ++ [D.dead] ++ List.drop 2 e))) (0 + Int.toNat (w6 (w6 (ni p1 - 1) - 1))) (D.agg (List.take 1 s ++ [D.dead] ++ List.drop 2 s))))) (cT (List.set (List.set p5 (0 + Int.toNat (w6 (ni p1 - 1))) (D.agg (List.take 1 e ++ [D.dead] ++ List.drop 2 e))) (0 + Int.toNat (w6 (w6 (ni p1 - 1) - 1))) (D.agg (List.take 1 s ++ [D.dead] ++ List.drop 2 s))) (0 + Int.toNat (w6 (w6 (ni p1 - 1) - 1))) fun u =>
             asAgg u fun v => nam (List.set (List.set (List.set p5 (0 + Int.toNat (w6 (ni p1 - 1))) (D.agg (List.take 1 e ++ [D.dead] ++ List.drop 2 e))) (0 + Int.toNat (w6 (w6 (ni p1 - 1) - 1))) (D.agg (List.take 1 s ++ [D.dead] ++ List.drop 2 s))) (0 + Int.toNat (w6 (w6 (ni p1 - 1) - 1)))
 (D.agg
  (List.take 1 v ++
    [D.os
      (1,0)
      t] ++
   List.drop 2 v))) fun w =>
              y1 p0 (Int.toNat (w6 (ni p1 - 1))) (w6 (p2 + 1)) p3 p4 w n)))))))))
   (
    jb V 211 [(.int .u8 (bt p0 p2))] fun a b =>
    asB a fun c => unn b (br c
     (zG p0 p1 p2 (w6 (ni p1 - 1)) p2 p3 p4 p5 p6)
     (
     jb V 147 [(.agg [(.rs (5,0) p3)])] fun d e =>
     asAgg d fun f => unc f fun g h => jl (5,0) g fun i => unn h (unn e (some ((.tup [(.agg [(.os (5,0) i)]),(.os (1,0) p4),(iN (2)),(iN p2)]),[]))))))))))
  (
  br (decide (ni p1 > 1))
  (
   jb V 147 [(.agg [(.rs (5,0) p3)])] fun a b =>
   asAgg a fun c => unc c fun d e => jl (5,0) d fun f => unn e (unn b (grd (decide (0 <= w6 (ni p1 - 1)) && decide (w6 (ni p1 - 1) < ni p1) && decide (0 + p1 <= List.length p5)) (cT p5 (0 + Int.toNat (w6 (ni p1 - 1))) fun g =>
     asAgg g fun h => cT h 0 fun i =>
      asI .i64 i fun j => some ((.tup [(.agg [(.os (5,0) f)]),(.os (1,0) p4),(iN (4)),(iN j)]),[])))))
  (
   jb V 60 [(.agg [(.rs (5,0) p6)])] fun a b =>
   asB a fun c => unn b (br (!c)
    (
    jb V 147 [(.agg [(.rs (5,0) p3)])] fun d e =>
    asAgg d fun f => unc f fun g h => jl (5,0) g fun i => unn h (unn e (some ((.tup [(.agg [(.os (5,0) i)]),(.os (1,0) p4),(iN (6)),(iN (0))]),[]))))
    (
    grd (decide (0 <= 0) && decide (0 < ni p1) && decide (0 + p1 <= List.length p5)) (cT p5 0 fun d =>
    asAgg d fun e => cT e 1 fun f =>
     jl (1,0) f fun g => asAgg d fun _ => grd (decide (ni (List.length ([] ++ g)) <= LIM)) (nam ([] ++ g) fun h =>
       some ((.tup [(.agg [(.os (5,0) p6)]),(.os (1,0) h),(iN (0)),(iN (ni (ByteArray.size p0)))]),[]))))))) := by
 have h := Jg p0 p1 p2 p3 p4 p5 p6
 simp only [sz3,fl3] at h
 exact h
theorem zq (p0 : ByteArray) (p1 : Int) (p2 : List D) (p3 : List D) (p4 : List D) (p5 : List D) : y4 p0 p1 p2 p3 p4 p5 =
 br (decide (p1 < ni (ByteArray.size p0)))
  (
  grd (decide (0 <= p1) && decide (p1 < ni (ByteArray.size p0))) (br (bt p0 p1 == 32)
  (y4 p0 (w6 (p1 + 1)) p2 p3 p4 p5)
  (
   br (bt p0 p1 == 40)
   (grd (decide
 (ni
   (List.length
    (p4 ++
     [D.agg
       [iN p1,
        D.os
         (1,0)
         []]])) <=
  LIM)) (nam (p4 ++
 [D.agg
   [iN p1,
    D.os
     (1,0)
     []]]) fun a =>
   y4 p0 (w6 (p1 + 1)) p2 p3 a p5))
   (
   br (bt p0 p1 == 41)
   (
    br (w6 (ni p4.length - 1) == 0)
    (
    jb V 147 [(.agg [(.rs (5,0) p2)])] fun a b =>
    asAgg a fun c => unc c fun d e => jl (5,0) d fun f => unn e (unn b (some ((.tup [(.agg [(.os (5,0) f)]),(.os (1,0) p3),(iN (5)),(iN p1)]),[]))))
    (
    grd (decide (0 <= w6 (ni p4.length - 1)) && decide (w6 (ni p4.length - 1) < ni p4.length)) (cT p4 (Int.toNat (w6 (ni p4.length - 1))) fun a =>
    asAgg a fun b => cT b 1 fun c =>
     jl (1,0) c fun d => asAgg a fun e => jb V 210 [(.op [(.os (5,0) p5)]),(.rs (1,0) d)] fun f g =>
       asI .i64 f fun h => unc g fun i j => nC i fun k => unc k fun l m => jl (5,0) l fun n => unn m (unn j (grd (cW (List.length (List.set p4 (Int.toNat (w6 (ni p4.length - 1))) (D.agg (List.take 1 e ++ [D.dead] ++ List.drop 2 e)))) none (some (w6 (ni p4.length - 1)))) (grd (decide (0 <= w6 (w6 (ni p4.length - 1) - 1)) && decide (w6 (w6 (ni p4.length - 1) - 1) < ni (Int.toNat (w6 (ni p4.length - 1)))) && decide (0 + Int.toNat (w6 (ni p4.length - 1)) <= List.length (List.set p4 (Int.toNat (w6 (ni p4.length - 1))) (D.agg (List.take 1 e ++ [D.dead] ++ List.drop 2 e))))) (cT (List.set p4 (Int.toNat (w6 (ni p4.length - 1))) (D.agg (List.take 1 e ++ [D.dead] ++ List.drop 2 e))) (0 + Int.toNat (w6 (w6 (ni p4.length - 1) - 1))) fun o =>
          asAgg o fun p => cT p 1 fun q =>
           jl (1,0) q fun r => asAgg o fun s => grd (decide (ni (List.length (r ++ [iN h])) <= LIM)) (nam (r ++ [iN h]) fun t =>
            grd (decide (0 <= w6 (w6 (ni p4.length - 1) - 1)) && decide (w6 (w6 (ni p4.length - 1) - 1) < ni (Int.toNat (w6 (ni p4.length - 1)))) && decide (0 + Int.toNat (w6 (ni p4.length - 1)) <= List.length (List.set (List.set p4 (Int.toNat (w6 (ni p4.length - 1))) (D.agg (List.take 1 e ++ [D.dead] ++ List.drop 2 e))) (0 + Int.toNat (w6 (w6 (ni p4.length - 1) - 1))) (D.agg (List.take 1 s ++ [D.dead] ++ List.drop 2 s))))) (cT (List.set (List.set p4 (Int.toNat (w6 (ni p4.length - 1))) (D.agg (List.take 1 e ++ [D.dead] ++ List.drop 2 e))) (0 + Int.toNat (w6 (w6 (ni p4.length - 1) - 1))) (D.agg (List.take 1 s ++ [D.dead] ++ List.drop 2 s))) (0 + Int.toNat (w6 (w6 (ni p4.length - 1) - 1))) fun u =>
             asAgg u fun v => nam (List.set (List.set (List.set p4 (Int.toNat (w6 (ni p4.length - 1))) (D.agg (List.take 1 e ++ [D.dead] ++ List.drop 2 e))) (0 + Int.toNat (w6 (w6 (ni p4.length - 1) - 1))) (D.agg (List.take 1 s ++ [D.dead] ++ List.drop 2 s))) (0 + Int.toNat (w6 (w6 (ni p4.length - 1) - 1)))
 (D.agg
  (List.take 1 v ++
    [D.os
      (1,0)
      t] ++
   List.drop 2 v))) fun w =>
              y1 p0 (Int.toNat (w6 (ni p4.length - 1))) (w6 (p1 + 1)) p2 p3 w n)))))))))
   (
    jb V 211 [(.int .u8 (bt p0 p1))] fun a b =>
    asB a fun c => unn b (br c
     (zZ p0 p1 (w6 (ni p4.length - 1)) p1 p2 p3 p4 p5)
     (
     jb V 147 [(.agg [(.rs (5,0) p2)])] fun d e =>
     asAgg d fun f => unc f fun g h => jl (5,0) g fun i => unn h (unn e (some ((.tup [(.agg [(.os (5,0) i)]),(.os (1,0) p3),(iN (2)),(iN p1)]),[]))))))))))
  (
  br (decide (ni p4.length > 1))
  (
   jb V 147 [(.agg [(.rs (5,0) p2)])] fun a b =>
   asAgg a fun c => unc c fun d e => jl (5,0) d fun f => unn e (unn b (grd (decide (0 <= w6 (ni p4.length - 1)) && decide (w6 (ni p4.length - 1) < ni p4.length)) (cT p4 (Int.toNat (w6 (ni p4.length - 1))) fun g =>
     asAgg g fun h => cT h 0 fun i =>
      asI .i64 i fun j => some ((.tup [(.agg [(.os (5,0) f)]),(.os (1,0) p3),(iN (4)),(iN j)]),[])))))
  (
   jb V 60 [(.agg [(.rs (5,0) p5)])] fun a b =>
   asB a fun c => unn b (br (!c)
    (
    jb V 147 [(.agg [(.rs (5,0) p2)])] fun d e =>
    asAgg d fun f => unc f fun g h => jl (5,0) g fun i => unn h (unn e (some ((.tup [(.agg [(.os (5,0) i)]),(.os (1,0) p3),(iN (6)),(iN (0))]),[]))))
    (
    grd (decide (0 <= 0) && decide (0 < ni p4.length)) (cT p4 0 fun d =>
    asAgg d fun e => cT e 1 fun f =>
     jl (1,0) f fun g => asAgg d fun _ => grd (decide (ni (List.length ([] ++ g)) <= LIM)) (nam ([] ++ g) fun h =>
       some ((.tup [(.agg [(.os (5,0) p5)]),(.os (1,0) h),(iN (0)),(iN (ni (ByteArray.size p0)))]),[]))))))) := by
 have h := KJ p0 p1 p2 p3 p4 p5
 simp only [sz3,fl3] at h
 exact h
theorem Ez (p0 : ByteArray) (p1 : Int) (p2 : Int) (p3 : Int) (p4 : List D) (p5 : List D) (p6 : List D) (p7 : List D) : zZ p0 p1 p2 p3 p4 p5 p6 p7 =
 br (decide (p1 < ni (ByteArray.size p0)))
  (
  grd (decide (0 <= p1) && decide (p1 < ni (ByteArray.size p0))) (jb V 211 [(.int .u8 (bt p0 p1))] fun a b =>
  asB a fun c => unn b (br c
   (zZ p0 (w6 (p1 + 1)) p2 p3 p4 p5 p6 p7)
   (
    grd (cW (ByteArray.size p0) (some p3) (some p1)) (jb V 212 [(.str (ByteArray.extract p0 p3.toNat p1.toNat))] fun d e =>
    iV d fun f => unc f fun g h => tk1 g fun i j k l m => (unc h fun n o => asB n fun p => unn o (unn e (br (!p)
            (
            jb V 147 [(.agg [(.rs (5,0) p4)])] fun q r =>
            asAgg q fun s => unc s fun t u => jl (5,0) t fun v => unn u (unn r (some ((.tup [(.agg [(.os (5,0) v)]),(.os (1,0) p5),(iN (3)),(iN p3)]),[]))))
            (
            grd (decide (0 <= p2) && decide (p2 < ni p6.length)) (cT p6 p2.toNat fun q =>
            asAgg q fun r => cT r 1 fun s =>
             jl (1,0) s fun t => asAgg q fun u => jb V 158 [(.op [(.os (5,0) p7)]),(.agg [(iN i),(iN j),(.str k),(iN l),(iN m)])] fun v w =>
               asI .i64 v fun x => unc w fun y z => nC y fun A => unc A fun B C => jl (5,0) B fun E => unn C (unn z (grd (decide (ni (List.length (t ++ [iN x])) <= LIM)) (nam (t ++ [iN x]) fun F =>
                  grd (decide (0 <= p2) && decide (p2 < ni (List.length (List.set p6 p2.toNat (D.agg (List.take 1 u ++ [D.dead] ++ List.drop 2 u)))))) (cT (List.set p6 p2.toNat (D.agg (List.take 1 u ++ [D.dead] ++ List.drop 2 u))) p2.toNat fun G =>
                  asAgg G fun H => nam (List.set (List.set p6 p2.toNat (D.agg (List.take 1 u ++ [D.dead] ++ List.drop 2 u))) p2.toNat
 (D.agg
  (List.take 1 H ++
    [D.os
      (1,0)
      F] ++
   List.drop 2 H))) fun I =>
                   y4 p0 p1 p4 p5 I E))))))))))))))
  (
  grd (cW (ByteArray.size p0) (some p3) (some p1)) (jb V 212 [(.str (ByteArray.extract p0 p3.toNat p1.toNat))] fun a b =>
  iV a fun c => unc c fun d e => tk1 d fun f g h i j => (unc e fun k l => asB k fun m => unn l (unn b (br (!m)
          (
           jb V 147 [(.agg [(.rs (5,0) p4)])] fun n o =>
           asAgg n fun p => unc p fun q r => jl (5,0) q fun s => unn r (unn o (some ((.tup [(.agg [(.os (5,0) s)]),(.os (1,0) p5),(iN (3)),(iN p3)]),[]))))
          (
           grd (decide (0 <= p2) && decide (p2 < ni p6.length)) (cT p6 p2.toNat fun n =>
           asAgg n fun o => cT o 1 fun p =>
            jl (1,0) p fun q => asAgg n fun r => jb V 158 [(.op [(.os (5,0) p7)]),(.agg [(iN f),(iN g),(.str h),(iN i),(iN j)])] fun s t =>
             asI .i64 s fun u => unc t fun v w => nC v fun x => unc x fun y z => jl (5,0) y fun A => unn z (unn w (grd (decide (ni (List.length (q ++ [iN u])) <= LIM)) (nam (q ++ [iN u]) fun B =>
                grd (decide (0 <= p2) && decide (p2 < ni (List.length (List.set p6 p2.toNat (D.agg (List.take 1 r ++ [D.dead] ++ List.drop 2 r)))))) (cT (List.set p6 p2.toNat (D.agg (List.take 1 r ++ [D.dead] ++ List.drop 2 r))) p2.toNat fun C =>
                 asAgg C fun E => nam (List.set (List.set p6 p2.toNat (D.agg (List.take 1 r ++ [D.dead] ++ List.drop 2 r))) p2.toNat
 (D.agg
  (List.take 1 E ++
    [D.os
      (1,0)
      B] ++
   List.drop 2 E))) fun F =>
                  y4 p0 p1 p4 p5 F A))))))))))) := by
 have h := JT p0 p1 p2 p3 p4 p5 p6 p7
 simp only [sz3,fl3] at h
 exact h
theorem Da (p0 : ByteArray) (p1 : Nat) (p2 : Int) (p3 : Int) (p4 : Int) (p5 : List D) (p6 : List D) (p7 : List D) (p8 : List D) : zG p0 p1 p2 p3 p4 p5 p6 p7 p8 =
 br (decide (p2 < ni (ByteArray.size p0)))
  (
  grd (decide (0 <= p2) && decide (p2 < ni (ByteArray.size p0))) (jb V 211 [(.int .u8 (bt p0 p2))] fun a b =>
  asB a fun c => unn b (br c
   (zG p0 p1 (w6 (p2 + 1)) p3 p4 p5 p6 p7 p8)
   (
    grd (cW (ByteArray.size p0) (some p4) (some p2)) (jb V 212 [(.str (ByteArray.extract p0 p4.toNat p2.toNat))] fun d e =>
    iV d fun f => unc f fun g h => tk1 g fun i j k l m => (unc h fun n o => asB n fun p => unn o (unn e (br (!p)
            (
            jb V 147 [(.agg [(.rs (5,0) p5)])] fun q r =>
            asAgg q fun s => unc s fun t u => jl (5,0) t fun v => unn u (unn r (some ((.tup [(.agg [(.os (5,0) v)]),(.os (1,0) p6),(iN (3)),(iN p4)]),[]))))
            (
            grd (decide (0 <= p3) && decide (p3 < ni p1) && decide (0 + p1 <= List.length p7)) (cT p7 (0 + Int.toNat p3) fun q =>
            asAgg q fun r => cT r 1 fun s =>
             jl (1,0) s fun t => asAgg q fun u => jb V 158 [(.op [(.os (5,0) p8)]),(.agg [(iN i),(iN j),(.str k),(iN l),(iN m)])] fun v w =>
               asI .i64 v fun x => unc w fun y z => nC y fun A => unc A fun B C => jl (5,0) B fun E => unn C (unn z (grd (decide (ni (List.length (t ++ [iN x])) <= LIM)) (nam (t ++ [iN x]) fun F =>
                  grd (decide (0 <= p3) && decide (p3 < ni p1) && decide (0 + p1 <= List.length (List.set p7 (0 + Int.toNat p3) (D.agg (List.take 1 u ++ [D.dead] ++ List.drop 2 u))))) (cT (List.set p7 (0 + Int.toNat p3) (D.agg (List.take 1 u ++ [D.dead] ++ List.drop 2 u))) (0 + Int.toNat p3) fun G =>
                  asAgg G fun H => nam (List.set (List.set p7 (0 + Int.toNat p3) (D.agg (List.take 1 u ++ [D.dead] ++ List.drop 2 u))) (0 + Int.toNat p3)
 (D.agg
  (List.take 1 H ++
    [D.os
      (1,0)
      F] ++
   List.drop 2 H))) fun I =>
                   y1 p0 p1 p2 p5 p6 I E))))))))))))))
  (
  grd (cW (ByteArray.size p0) (some p4) (some p2)) (jb V 212 [(.str (ByteArray.extract p0 p4.toNat p2.toNat))] fun a b =>
  iV a fun c => unc c fun d e => tk1 d fun f g h i j => (unc e fun k l => asB k fun m => unn l (unn b (br (!m)
          (
           jb V 147 [(.agg [(.rs (5,0) p5)])] fun n o =>
           asAgg n fun p => unc p fun q r => jl (5,0) q fun s => unn r (unn o (some ((.tup [(.agg [(.os (5,0) s)]),(.os (1,0) p6),(iN (3)),(iN p4)]),[]))))
          (
           grd (decide (0 <= p3) && decide (p3 < ni p1) && decide (0 + p1 <= List.length p7)) (cT p7 (0 + Int.toNat p3) fun n =>
           asAgg n fun o => cT o 1 fun p =>
            jl (1,0) p fun q => asAgg n fun r => jb V 158 [(.op [(.os (5,0) p8)]),(.agg [(iN f),(iN g),(.str h),(iN i),(iN j)])] fun s t =>
             asI .i64 s fun u => unc t fun v w => nC v fun x => unc x fun y z => jl (5,0) y fun A => unn z (unn w (grd (decide (ni (List.length (q ++ [iN u])) <= LIM)) (nam (q ++ [iN u]) fun B =>
                grd (decide (0 <= p3) && decide (p3 < ni p1) && decide (0 + p1 <= List.length (List.set p7 (0 + Int.toNat p3) (D.agg (List.take 1 r ++ [D.dead] ++ List.drop 2 r))))) (cT (List.set p7 (0 + Int.toNat p3) (D.agg (List.take 1 r ++ [D.dead] ++ List.drop 2 r))) (0 + Int.toNat p3) fun C =>
                 asAgg C fun E => nam (List.set (List.set p7 (0 + Int.toNat p3) (D.agg (List.take 1 r ++ [D.dead] ++ List.drop 2 r))) (0 + Int.toNat p3)
 (D.agg
  (List.take 1 E ++
    [D.os
      (1,0)
      B] ++
   List.drop 2 E))) fun F =>
                  y1 p0 p1 p2 p5 p6 F A))))))))))) := by
 have h := IV p0 p1 p2 p3 p4 p5 p6 p7 p8
 simp only [sz3,fl3] at h
 exact h
theorem Ri (a0_0 : List D) (a1_ : ByteArray) : V 191 [.agg [.rs (5,0) a0_0],.str a1_] =
 jb V 60 [(.agg [(.rs (5,0) a0_0)])] fun a b =>
  asB a fun c => unn b (br (!c)
   (some ((.tup [(.agg [(.os (5,0) [])]),(.os (1,0) []),(iN (6)),(iN (0))]),[]))
   (
   br (decide (ni (ByteArray.size a1_) > 400))
   (
    jb V 147 [(.agg [(.rs (5,0) a0_0)])] fun d e =>
    asAgg d fun f => unc f fun g h => jl (5,0) g fun i => unn h (unn e (some ((.tup [(.agg [(.os (5,0) i)]),(.os (1,0) []),(iN (1)),(iN (0))]),[]))))
   (
    jb V 147 [(.agg [(.rs (5,0) a0_0)])] fun d e =>
    asAgg d fun f => unc f fun g h => jl (5,0) g fun i => unn h (unn e (y4 a1_ (0) a0_0 [] ([D.agg
  [iN (0),
   D.os
    (1,0)
    []]]) i))))) := by
 have h := Rz a0_0 a1_
 simp only [sz3,fl3] at h
 exact h

end Go.Eng
/-! reading a text,on both sides -/
namespace Go.Eng
noncomputable section
open Go.Proofs Go.Proofs.Tryz
set_option maxHeartbeats 4000000

def Gw : List Int -> List Nd -> Nat -> List Nd × Nat
 | [],q,c => (q,c)
 | x :: r,q,c => Gw r (q ++ [⟨5,0,⟨#[]⟩,x,(c : Int)⟩]) q.length
def Cj (q : List Nd) (row : List Int) : List Nd × Nat := Gw row.reverse (q ++ [⟨1,0,⟨#[]⟩,0,0⟩]) q.length
theorem LN : ∀ (r : List Int) (q : List Nd) (c : Nat),(Gw r q c).1.length = q.length + r.length
 | [],q,c => rfl
 | x :: r,q,c => by rw [Gw,LN r]; simp only [lnA,lnC,lnN]; omega
theorem Kf (q : List Nd) (row : List Int) : (Cj q row).1.length = q.length + row.length + 1 := by
 rw [Cj,LN]; simp only [lnA,lnC,lnN,List.length_reverse]; omega
theorem Ft {q : List Nd} (h : Aw q) {x : Nd} (hx : x.s.size < 4611686018427387904) : Aw (q ++ [x]) := by
 intro y hy
 rcases List.mem_append.1 hy with h1 | h1
 ·exact h y h1
 ·rw [List.mem_singleton.1 h1]; exact hx
theorem Ku : ∀ (r : List Int) (q : List Nd) (c : Nat),Aw q -> Aw (Gw r q c).1
 | [],q,c,h => h
 | x :: r,q,c,h => Ku r _ _ (Ft h (x := ⟨5,0,⟨#[]⟩,x,(c : Int)⟩) (by show (0 : Nat) < _; omega))
theorem LP {q : List Nd} (h : Aw q) (row : List Int) : Aw (Cj q row).1 := Ku _ _ _ (Ft h (x := ⟨1,0,⟨#[]⟩,0,0⟩) (by show (0 : Nat) < _; omega))
theorem UW {row : List Int} {k : Nat} {x : Int} (hx : row[k]? = some x) : (row.take (k + 1)).reverse = x :: (row.take k).reverse := by
 rw [List.take_add_one,hx]; simp
theorem Mo {row : List Int} (hr : row.length < 4294967296) : ∀ (k : Nat) (q : List Nd) (c : Nat),k <= row.length -> q.length + k < 4294967296 ->
  BZ (row.map eI) (c : Int) ((k : Int) - 1) (q.map eN) = some (iN (Gw (row.take k).reverse q c).2,[rP (Gw (row.take k).reverse q c).1])
 | 0,q,c,_,_ => by rw [D4,xb (decide_eq_false (by omega))]; rfl
 | k + 1,q,c,hk,hq => by
  obtain ⟨x,hx⟩ := xx (l := row) (i := k) (by omega)
  have hp := Cy (p := q) (by omega) ⟨5,0,⟨#[]⟩,x,(c : Int)⟩
  have ih := Mo hr k (q ++ [⟨5,0,⟨#[]⟩,x,(c : Int)⟩]) q.length (by omega) (by simp only [lnA,lnC,lnN]; omega)
  have e : ((k + 1 : Nat) : Int) - 1 = (k : Int) := by omega
  rw [D4,e,xK (decide_eq_true (by omega)),yu (by rw [lnM]; exact yx (by omega)),Int.toNat_natCast,xW hx,ye,z5 hp,w64 (by omega) (by omega),ih,UW hx,Gw]
theorem Vf {q : List Nd} {row : List Int} (h : q.length + row.length < 4294967290) : V 210 [rP q,.rs (1,0) (row.map eI)] = some (iN (Cj q row).2,[rP (Cj q row).1]) := by
 have ha := Cy (p := q) (by omega) ⟨1,0,⟨#[]⟩,0,0⟩
 have hl := Mo (row := row) (by omega) row.length (q ++ [⟨1,0,⟨#[]⟩,0,0⟩]) q.length (Nat.le_refl _) (by simp only [lnA,lnC,lnN]; omega)
 rw [List.take_length] at hl
 rw [O9,z5 ha,lnM,w64 (by simp only [ni]; omega) (by simp only [ni]; omega)]
 exact hl
abbrev RwF := Int × List Int
inductive RdR where
 | err (c a : Int)
 | ok (q : List Nd) (row : List Int)
def CM (l : List UInt8) (j : Nat) : Nat := j + ((l.drop j).takeWhile Gg).length
def SW (l : List UInt8) (G : Nat -> List RwF -> RwF -> List Nd -> RdR) (i : Nat) (o : List RwF) (t : RwF) (q : List Nd) : Option UInt8 -> RdR
 | none => if o = [] then .ok q t.2 else .err 4 t.1
 | some x =>
   if x = 32 then G (i + 1) o t q
   else if x = 40 then G (i + 1) (t :: o) ((i : Int),[]) q
   else if x = 41 then match o with
    | [] => .err 5 (i : Int)
    | u :: o => G (i + 1) o (u.1,u.2 ++ [((Cj q t.2).2 : Int)]) (Cj q t.2).1
   else if Gg x = true then match C9 ((l.drop i).take (CM l i - i)) with
    | none => .err 3 (i : Int)
    | some nd => G (CM l i) o (t.1,t.2 ++ [(q.length : Int)]) (q ++ [nd])
   else .err 2 (i : Int)
def AV (l : List UInt8) : Nat -> Nat -> List RwF -> RwF -> List Nd -> RdR
 | 0,_,_,_,_ => .err 1 0
 | k + 1,i,o,t,q => SW l (AV l k) i o t q l[i]?
theorem JH (l : List UInt8) (G : Nat -> List RwF -> RwF -> List Nd -> RdR) (i : Nat) (o : List RwF) (t : RwF) (q : List Nd) : SW l G i o t q none = if o = [] then .ok q t.2 else .err 4 t.1 := rfl
theorem GX (l : List UInt8) (G : Nat -> List RwF -> RwF -> List Nd -> RdR) (i : Nat) (o : List RwF) (t : RwF) (q : List Nd) (x : UInt8) : SW l G i o t q (some x) = (if x = 32 then G (i + 1) o t q
   else if x = 40 then G (i + 1) (t :: o) ((i : Int),[]) q
   else if x = 41 then match o with
    | [] => .err 5 (i : Int)
    | u :: o => G (i + 1) o (u.1,u.2 ++ [((Cj q t.2).2 : Int)]) (Cj q t.2).1
   else if Gg x = true then match C9 ((l.drop i).take (CM l i - i)) with
    | none => .err 3 (i : Int)
    | some nd => G (CM l i) o (t.1,t.2 ++ [(q.length : Int)]) (q ++ [nd])
   else .err 2 (i : Int)) := rfl
theorem FC (l : List UInt8) (k i : Nat) (o : List RwF) (t : RwF) (q : List Nd) : AV l (k + 1) i o t q = SW l (AV l k) i o t q l[i]? := rfl
theorem GN {l : List UInt8} {j : Nat} {x : UInt8} (hx : l[j]? = some x) (h : Gg x = true) : CM l j = CM l (j + 1) := by
 unfold CM; rw [tU hx,List.takeWhile_cons,if_pos h]; simp only [lnC]; omega
theorem Oi {l : List UInt8} {j : Nat} {x : UInt8} (hx : l[j]? = some x) (h : Gg x = false) : CM l j = j := by
 unfold CM; rw [tU hx,List.takeWhile_cons,if_neg (by rw [h]; simp)]; rfl
theorem Rh {l : List UInt8} {j : Nat} (h : l.length <= j) : CM l j = j := by
 unfold CM; rw [List.drop_of_length_le h]; rfl
theorem PX {l : List UInt8} {j : Nat} (h : j <= l.length) : j <= CM l j /\ CM l j <= l.length := by
 unfold CM
 have := (List.takeWhile_sublist (p := Gg) (l := l.drop j)).length_le
 rw [List.length_drop] at this
 omega
def phi (o : List RwF) (t : RwF) (q : List Nd) : Nat := q.length + t.2.length + (o.map fun x => x.2.length).sum
theorem Jb {l : List UInt8} {x : Nd} (h : C9 l = some x) : x.s.size <= l.length := by
 unfold C9 SN at h
 split at h
 ·cases h; exact Nat.zero_le _
 split at h
 ·cases h; exact Nat.zero_le _
 split at h
 ·cases h; exact Nat.zero_le _
 split at h
 ·cases h; exact Nat.le_of_eq (yO _)
 ·cases h
theorem Aq {A B : List D} {x : D} (K : D -> Option Ret) : cT (A ++ x :: B) A.length K = K x := by simp [cT]
theorem AP {A B : List D} {x v : D} : (A ++ x :: B).set A.length v = A ++ v :: B := by simp
theorem QF {l : List D} (h : l.length <= 4294967296) : decide (ni l.length <= LIM) = true := decide_eq_true (by rw [pE]; simp only [ni]; omega)
theorem CQ {x : UInt8} (c : UInt8) (n : Int) (hn : (c.toNat : Int) = n) (h : ¬ x = c) : ((x.toNat : Int) == n) = false := by
 subst hn
 simp only [beq_eq_false_iff_ne,ne_eq]
 intro e
 exact h (UInt8.toNat_inj.1 (by omega))
end
end Go.Eng
/-! a step of a machine,plain -/
namespace Go.Eng
noncomputable section

abbrev ndN : Nd := ⟨1,0,⟨#[]⟩,0,0⟩
def nod (p : List Nd) (v : Int) : Nd := p.getD v.toNat ndN
abbrev InP (p : List Nd) (v : Int) : Prop := 0 <= v /\ v < (p.length : Int)

def Gx (p : List Nd) : Nat -> Int -> List Int × Bool
 | 0,_ => ([],false)
 | k + 1,v => if (nod p v).kind = 5 then ((nod p v).a :: (Gx p k (nod p v).b).1,(Gx p k (nod p v).b).2) else ([],(nod p v).kind == 1)
def AZ (p : List Nd) (v : Int) : List Int × Bool := Gx p (v.toNat + 1) v
def WX (c : Cd) (n : Int) : Bool := wi n 0 ((c.list.length : Int) - 1)
end
end Go.Eng
