/- the program and the reference on plain data, part 4 -/
import Derived.Test.YtkndfhaehnfnmaaGreatPart3
import Derived.Test.YtkndfhaehnfnmaaGreatEngC
import Derived.Test.YtkndfhaehnfnmaaGreatPart1
import Derived.Test.YtkndfhaehnfnmaaGreatPart2
/-! reading a text: the spec -/
namespace Go.Eng
noncomputable section
open Go.Proofs Go.Proofs.Tryz
set_option maxHeartbeats 4000000

theorem PT {p : List Nd} (hl : p.length <= 4294967296) : V 147 [eP p] = some (oP p,[]) := by
 rw [Jq,List.nil_append]
 simp (disch := first | omega | (simp only [lnA,lnC,lnN,lnM,yO,wY]; omega)) only [↓xP,↓yA,yJ,lnM,pE,wY]

abbrev eO (x : RwF) : D := .agg [iN x.1,.os (1,0) (x.2.map eI)]
theorem Ct (t : RwF) (K : List D -> List D -> Option Ret) : (asAgg (eO t) fun l => cT l 1 fun y => jl (1,0) y fun r => asAgg (eO t) fun l2 => K r l2) = K (t.2.map eI) [iN t.1,.os (1,0) (t.2.map eI)] := rfl
theorem VY (t : RwF) (K : Int -> Option Ret) : (asAgg (eO t) fun l => cT l 0 fun y => asI .i64 y fun r => K r) = K t.1 := rfl
theorem tdd (a b : D) : List.take 1 [a,b] ++ [D.dead] ++ List.drop 2 [a,b] = [a,.dead] := rfl
theorem tds (a b c : D) : List.take 1 [a,b] ++ [c] ++ List.drop 2 [a,b] = [a,c] := rfl
theorem WJ (A J : List D) (x : D) : part (A ++ x :: J) (some (0,A.length + 1)) = A ++ [x] := by
 simp only [part,List.drop_zero]
 rw [show A ++ x :: J = (A ++ [x]) ++ J by simp,List.take_left' (by simp)]
def SR (P : List D) (n : Nat) (r : RdR) : Option Ret := match r with
 | .err c a => some (.tup [.agg [.os (5,0) P],.os (1,0) [],iN c,iN a],[])
 | .ok q row => if yW q = true then some (.tup [.agg [.os (5,0) (q.map eN)],.os (1,0) (row.map eI),iN 0,iN (n : Int)],[]) else some (.tup [.agg [.os (5,0) P],.os (1,0) [],iN 6,iN 0],[])
def Oj (r : Option Nd) (p : List Nd) (i : Nat) (X : Nd -> Option Ret) : Option Ret := match r with
 | none => some (.tup [.agg [.os (5,0) (p.map eN)],.os (1,0) [],iN 3,iN (i : Int)],[])
 | some nd => X nd
theorem Wa {l : List UInt8} (hl : l.length < 1000000000) {i : Nat} {p q : List Nd} {A : List D} {t : RwF} (hp : p.length < 4294967290) (hq : q.length < 4294967290) (hA : A.length < 4294967290) (ht : t.2.length < 4294967290) : ∀ (m j : Nat),j + m = l.length -> i <= j ->
  zZ (mk l) (j : Int) (A.length : Int) (i : Int) (p.map eN) [] (A ++ [eO t]) (q.map eN) = Oj (C9 ((l.drop i).take (CM l j - i))) p i fun nd => y4 (mk l) (CM l j : Nat) (p.map eN) [] (A ++ [eO (t.1,t.2 ++ [(q.length : Int)])]) ((q ++ [nd]).map eN)
 | m,j,hm,hij => by
  have hcut : cW l.length (some (i : Int)) (some (j : Int)) = true := by unfold cW; simp; omega
  obtain ⟨x,b,h1,h2⟩ := Rb (l := (l.drop i).take (j - i)) (by simp only [List.length_take,List.length_drop]; omega)
  have ha := Cy (p := q) (by omega) x
  have hc := PT (p := p) (by omega)
  have hin : ∀ x : D,(decide (0 <= (A.length : Int)) && decide ((A.length : Int) < ni (A ++ [x]).length)) = true := fun x => yx (by simp)
  have hlim : decide (ni (t.2.map eI ++ [iN (q.length : Int)]).length <= LIM) = true := QF (by simp only [lnA,lnM,lnC,lnN]; omega)
  have hrow : (t.2 ++ [(q.length : Int)]).map eI = t.2.map eI ++ [iN (q.length : Int)] := by simp
  match m with
  | 0 =>
   rw [Ez,yO,xb (yr (by omega)),yu hcut,Int.toNat_natCast,Int.toNat_natCast,Dz,Eo h1,Rh (by omega)]
   cases hw : C9 ((l.drop i).take (j - i)) with
   | none =>
    rw [hw] at h2
    have h2 : b = false := h2
    rw [h2,Bool.not_false,yk,zi hc]; rfl
   | some nd =>
    rw [hw] at h2
    obtain ⟨rfl,rfl⟩ : x = nd /\ b = true := h2
    rw [Bool.not_true,xJ,yu (hin _),Int.toNat_natCast,Aq,Ct,z5 ha,yu hlim,yA,AP,tdd,yu (hin _),Aq,xu,AP,tds,yA,Oj,eO,hrow]
  | m + 1 =>
   obtain ⟨y,hy⟩ := xx (l := l) (i := j) (by omega)
   have hb := Ny hy
   have hwb := FT y
   rw [Ez,yO,xK (yz (by omega)),yu (yx (by omega)),hb,zT hwb]
   cases hwu : Gg y with
   | true =>
    have ih := Wa hl hp hq hA ht (A := A) (i := i) m (j + 1) (by omega) (by omega)
    rw [yk,yM (by omega),ih,GN hy hwu]
   | false =>
    rw [xJ,yu hcut,Int.toNat_natCast,Int.toNat_natCast,Dz,Eo h1,Oi hy hwu]
    cases hw : C9 ((l.drop i).take (j - i)) with
    | none =>
     rw [hw] at h2
     have h2 : b = false := h2
     rw [h2,Bool.not_false,yk,zi hc]; rfl
    | some nd =>
     rw [hw] at h2
     obtain ⟨rfl,rfl⟩ : x = nd /\ b = true := h2
     rw [Bool.not_true,xJ,yu (hin _),Int.toNat_natCast,Aq,Ct,z5 ha,yu hlim,yA,AP,tdd,yu (hin _),Aq,xu,AP,tds,yA,Oj,eO,hrow]
theorem Pw {A J : List D} {x : D} : (decide (0 <= (A.length : Int)) && decide ((A.length : Int) < ni (A.length + 1)) && decide (0 + (A.length + 1) <= (A ++ x :: J).length)) = true := by
 simp only [ni,Bool.and_eq_true,decide_eq_true_eq,lnA,lnC]; omega
theorem UV {l : List UInt8} (hl : l.length < 1000000000) {i : Nat} {p q : List Nd} {A J : List D} {t : RwF} (hp : p.length < 4294967290) (hq : q.length < 4294967290) (hA : A.length < 4294967290) (ht : t.2.length < 4294967290) : ∀ (m j : Nat),j + m = l.length -> i <= j ->
  zG (mk l) (A.length + 1) (j : Int) (A.length : Int) (i : Int) (p.map eN) [] (A ++ eO t :: J) (q.map eN) = Oj (C9 ((l.drop i).take (CM l j - i))) p i fun nd => y1 (mk l) (A.length + 1) (CM l j : Nat) (p.map eN) [] (A ++ eO (t.1,t.2 ++ [(q.length : Int)]) :: J) ((q ++ [nd]).map eN)
 | m,j,hm,hij => by
  have hcut : cW l.length (some (i : Int)) (some (j : Int)) = true := by unfold cW; simp; omega
  obtain ⟨x,b,h1,h2⟩ := Rb (l := (l.drop i).take (j - i)) (by simp only [List.length_take,List.length_drop]; omega)
  have ha := Cy (p := q) (by omega) x
  have hc := PT (p := p) (by omega)
  have hlim : decide (ni (t.2.map eI ++ [iN (q.length : Int)]).length <= LIM) = true := QF (by simp only [lnA,lnM,lnC,lnN]; omega)
  have hrow : (t.2 ++ [(q.length : Int)]).map eI = t.2.map eI ++ [iN (q.length : Int)] := by simp
  match m with
  | 0 =>
   rw [Da,yO,xb (yr (by omega)),yu hcut,Int.toNat_natCast,Int.toNat_natCast,Dz,Eo h1,Rh (by omega)]
   cases hw : C9 ((l.drop i).take (j - i)) with
   | none =>
    rw [hw] at h2
    have h2 : b = false := h2
    rw [h2,Bool.not_false,yk,zi hc]; rfl
   | some nd =>
    rw [hw] at h2
    obtain ⟨rfl,rfl⟩ : x = nd /\ b = true := h2
    rw [Bool.not_true,xJ,yu Pw,Int.toNat_natCast,Nat.zero_add,Aq,Ct,z5 ha,yu hlim,yA,AP,tdd,yu Pw,Aq,xu,AP,tds,yA,Oj,eO,hrow]
  | m + 1 =>
   obtain ⟨y,hy⟩ := xx (l := l) (i := j) (by omega)
   have hb := Ny hy
   have hwb := FT y
   rw [Da,yO,xK (yz (by omega)),yu (yx (by omega)),hb,zT hwb]
   cases hwu : Gg y with
   | true =>
    have ih := UV hl hp hq hA ht (A := A) (J := J) (i := i) m (j + 1) (by omega) (by omega)
    rw [yk,yM (by omega),ih,GN hy hwu]
   | false =>
    rw [xJ,yu hcut,Int.toNat_natCast,Int.toNat_natCast,Dz,Eo h1,Oi hy hwu]
    cases hw : C9 ((l.drop i).take (j - i)) with
    | none =>
     rw [hw] at h2
     have h2 : b = false := h2
     rw [h2,Bool.not_false,yk,zi hc]; rfl
    | some nd =>
     rw [hw] at h2
     obtain ⟨rfl,rfl⟩ : x = nd /\ b = true := h2
     rw [Bool.not_true,xJ,yu Pw,Int.toNat_natCast,Nat.zero_add,Aq,Ct,z5 ha,yu hlim,yA,AP,tdd,yu Pw,Aq,xu,AP,tds,yA,Oj,eO,hrow]
theorem WK {A J : List D} {x y v : D} : ((A ++ [x]) ++ y :: J).set (A.length + 1) v = A ++ x :: v :: J := by
 have := AP (A := A ++ [x]) (B := J) (x := y) (v := v)
 rw [lnA,List.length_singleton] at this
 rw [this,List.append_assoc]; rfl
theorem WG {A J : List D} {x y : D} (K : D -> Option Ret) : cT ((A ++ [x]) ++ y :: J) (A.length + 1) K = K y := by
 have := Aq (A := A ++ [x]) (B := J) (x := y) K
 rw [lnA,List.length_singleton] at this
 exact this
theorem Vq {n : Nat} (h : n < 4611686018427387904) : w6 (((n + 1 : Nat) : Int) - 1) = (n : Int) := by
 rw [w64 (by omega) (by omega)]; omega
theorem Uh (P : List D) (n : Nat) (q : List Nd) (row : List Int) : SR P n (.ok q row) = if yW q = true then some (.tup [.agg [.os (5,0) (q.map eN)],.os (1,0) (row.map eI),iN 0,iN (n : Int)],[]) else some (.tup [.agg [.os (5,0) P],.os (1,0) [],iN 6,iN 0],[]) := rfl
theorem Od {l : List UInt8} (hl : l.length < 1000000000) {p : List Nd} (hp : p.length < 4294967290) : ∀ (k i : Nat) (o : List RwF) (t : RwF) (q : List Nd),l.length < i + k -> i <= l.length -> phi o t q + 2 * (l.length - i) < 4000000000 -> o.length + (l.length - i) < 4000000000 -> Aw q ->
  y4 (mk l) (i : Int) (p.map eN) [] (o.reverse.map eO ++ [eO t]) (q.map eN) = SR (p.map eN) l.length (AV l k i o t q) /\
  ∀ J,y1 (mk l) (o.length + 1) (i : Int) (p.map eN) [] (o.reverse.map eO ++ eO t :: J) (q.map eN) = SR (p.map eN) l.length (AV l k i o t q)
 | 0,i,o,t,q,h1,h2,_,_,_ => by omega
 | k + 1,i,o,t,q,h1,h2,h3,h4,hf => by
  have hph : phi o t q = q.length + t.2.length + (o.map fun x => x.2.length).sum := rfl
  have hc := PT (p := p) (by omega)
  have hAl : (o.reverse.map eO).length = o.length := by rw [lnM,List.length_reverse]
  have hn1 : (o.reverse.map eO ++ [eO t]).length = o.length + 1 := by rw [lnA,hAl]; rfl
  have hw1 : w6 (ni (o.length + 1) - 1) = ((o.reverse.map eO).length : Int) := by rw [hAl]; exact Vq (by omega)
  have hin : ∀ J,(decide (0 <= ((o.reverse.map eO).length : Int)) && decide (((o.reverse.map eO).length : Int) < ni (o.length + 1)) && decide (0 + (o.length + 1) <= (o.reverse.map eO ++ eO t :: J).length)) = true := fun J => by
   rw [<- hAl]; exact Pw
  rw [FC]
  by_cases hi : i = l.length
  ·have hx : l[i]? = none := List.getElem?_eq_none (by omega)
   have hok := zr hf (by omega)
   rw [hx,JH]
   cases o with
   | nil =>
    have hlim : decide (ni ([] ++ t.2.map eI).length <= LIM) = true := QF (by rw [List.nil_append,lnM]; omega)
    rw [if_pos rfl]
    constructor
    ·rw [zq,yO,xb (yr (by omega)),xb (by rfl),Ej hok]
     rw [Uh]
     cases hq : yW q with
     | false => rw [Bool.not_false,yk,zi hc,if_neg (by simp)]
     | true => rw [Bool.not_true,xJ,yu (by rfl),if_pos rfl,show ∀ K : D -> Option Ret,cT (([] : List RwF).reverse.map eO ++ [eO t]) 0 K = K (eO t) from fun K => rfl,Ct,yu hlim,yA,List.nil_append]
    ·intro J
     rw [zj,yO,xb (yr (by omega)),xb (by rfl),Ej hok]
     rw [Uh]
     cases hq : yW q with
     | false => rw [Bool.not_false,yk,zi hc,if_neg (by simp)]
     | true => rw [Bool.not_true,xJ,yu (by simp [ni]),if_pos rfl,show ∀ K : D -> Option Ret,cT (([] : List RwF).reverse.map eO ++ eO t :: J) 0 K = K (eO t) from fun K => rfl,Ct,yu hlim,yA,List.nil_append]
   | cons u o =>
    rw [if_neg (by simp)]
    constructor
    ·rw [zq,yO,xb (yr (by omega)),hn1,xK (decide_eq_true (by simp only [ni,lnC]; omega)),zi hc,hw1,yu (by rw [hAl]; exact yx (by omega)),Int.toNat_natCast,Aq,VY]; rfl
    ·intro J
     rw [zj,yO,xb (yr (by omega)),xK (decide_eq_true (by simp only [ni,lnC]; omega)),zi hc,hw1,yu (hin J),Int.toNat_natCast,Nat.zero_add,Aq,VY]; rfl
  obtain ⟨x,hx⟩ := xx (l := l) (i := i) (by omega)
  have hb := Ny hx
  rw [hx,GX]
  by_cases h32 : x = 32
  ·subst h32
   have ih := Od hl hp k (i + 1) o t q (by omega) (by omega) (by omega) (by omega) hf
   rw [if_pos rfl]
   constructor
   ·rw [zq,yO,xK (yz (by omega)),yu (yx (by omega)),hb,xK (by rfl),yM (by omega)]
    exact ih.1
   ·intro J
    rw [zj,yO,xK (yz (by omega)),yu (yx (by omega)),hb,xK (by rfl),yM (by omega)]
    exact ih.2 J
  rw [if_neg h32]
  by_cases h40 : x = 40
  ·subst h40
   have hlo : decide (ni (o.reverse.map eO ++ [eO t] ++ [D.agg [iN (i : Int),.os (1,0) []]]).length <= LIM) = true := QF (by rw [lnA,hn1]; simp only [lnC,lnN]; omega)
   have ih := (Od hl hp k (i + 1) (t :: o) ((i : Int),[]) q (by omega) (by omega) (by simp only [phi,List.map_cons,List.sum_cons,lnN]; omega) (by simp only [lnC]; omega) hf).1
   rw [show (t :: o).reverse.map eO = o.reverse.map eO ++ [eO t] by simp] at ih
   rw [if_pos rfl]
   constructor
   ·rw [zq,yO,xK (yz (by omega)),yu (yx (by omega)),hb,xb (by rfl),xK (by rfl),yu hlo,yA,yM (by omega)]
    exact ih
   ·intro J
    have hpt := WJ (o.reverse.map eO) J (eO t)
    rw [hAl] at hpt
    rw [zj,yO,xK (yz (by omega)),yu (yx (by omega)),hb,xb (by rfl),xK (by rfl),hpt,yu hlo,yA,yM (by omega)]
    exact ih
  rw [if_neg h40]
  by_cases h41 : x = 41
  ·subst h41
   rw [if_pos rfl]
   cases o with
   | nil =>
    constructor
    ·rw [zq,yO,xK (yz (by omega)),yu (yx (by omega)),hb,xb (by rfl),xb (by rfl),xK (by rfl),hn1,hw1,xK (by rfl),zi hc]; rfl
    ·intro J
     rw [zj,yO,xK (yz (by omega)),yu (yx (by omega)),hb,xb (by rfl),xb (by rfl),xK (by rfl),hw1,xK (by rfl),zi hc]; rfl
   | cons u o =>
    simp only [List.map_cons,List.sum_cons] at hph
    simp only [lnC] at h4
    have hll := Vf (q := q) (row := t.2) (by omega)
    have ih := (Od hl hp k (i + 1) o (u.1,u.2 ++ [((Cj q t.2).2 : Int)]) (Cj q t.2).1 (by omega) (by omega) (by simp only [phi,Kf,lnA,lnC,lnN]; omega) (by omega) (LP hf _)).2
    obtain ⟨O,hO⟩ : ∃ O,O = o.reverse.map eO := ⟨_,rfl⟩
    have hA : O.length = o.length := by rw [hO,lnM,List.length_reverse]
    have hrev : (u :: o).reverse.map eO = O ++ [eO u] := by rw [hO]; simp
    have hlim : decide (ni (u.2.map eI ++ [iN ((Cj q t.2).2 : Int)]).length <= LIM) = true := QF (by simp only [lnA,lnM,lnC,lnN]; omega)
    have hrow : (u.2 ++ [((Cj q t.2).2 : Int)]).map eI = u.2.map eI ++ [iN ((Cj q t.2).2 : Int)] := by simp
    have hl2 : (u :: o).length = O.length + 1 := by rw [hA]; rfl
    have hn2 : (O ++ [eO u] ++ [eO t]).length = O.length + 1 + 1 := by simp
    have hw2 : w6 (ni (O.length + 1 + 1) - 1) = ((O.length + 1 : Nat) : Int) := Vq (by omega)
    have hw3 : w6 (((O.length + 1 : Nat) : Int) - 1) = (O.length : Int) := Vq (by omega)
    have hne : (((O.length + 1 : Nat) : Int) == 0) = false := by simp only [beq_eq_false_iff_ne,ne_eq]; omega
    rw [<- hA,<- hO] at ih
    rw [hrev,hl2]
    constructor
    ·rw [zq,yO,xK (yz (by omega)),yu (yx (by omega)),hb,xb (by rfl),xb (by rfl),xK (by rfl),hn2,hw2,xb hne,yu (yx (by omega)),Int.toNat_natCast,WG,Ct,Kx hll,tdd,WK,hw3,Int.toNat_natCast,Nat.zero_add O.length]
     rw [yu (by unfold cW; simp; try omega),yu Pw,Aq,Ct,yu hlim,yA,AP,tdd,yu Pw,Aq,xu,AP,tds,yA,yM (by omega),<- hrow]
     exact ih _
    ·intro J
     rw [zj,yO,xK (yz (by omega)),yu (yx (by omega)),hb,xb (by rfl),xb (by rfl),xK (by rfl),hw2,xb hne,yu (by simp only [ni,Bool.and_eq_true,decide_eq_true_eq,lnA,lnC,lnN]; omega),Int.toNat_natCast,Nat.zero_add (O.length + 1),WG,Ct,Kx hll,tdd,WK,hw3,Int.toNat_natCast,Nat.zero_add O.length]
     rw [yu (by unfold gW; simp; try omega),yu (by have := Pw (A := O) (J := D.agg [iN t.1,.dead] :: J) (x := eO u); rwa [Nat.zero_add] at this),Aq,Ct,yu hlim,yA,AP,tdd,yu (by have := Pw (A := O) (J := D.agg [iN t.1,.dead] :: J) (x := .agg [iN u.1,.dead]); rwa [Nat.zero_add] at this),Aq,xu,AP,tds,yA,yM (by omega),<- hrow]
     exact ih _
  rw [if_neg h41]
  have hwb := FT x
  cases hw : Gg x with
  | false =>
   rw [hw] at hwb
   rw [if_neg (by simp)]
   constructor
   ·rw [zq,yO,xK (yz (by omega)),yu (yx (by omega)),hb,xb (CQ 32 32 rfl h32),xb (CQ 40 40 rfl h40),xb (CQ 41 41 rfl h41),zT hwb,xJ,zi hc]; rfl
   ·intro J
    rw [zj,yO,xK (yz (by omega)),yu (yx (by omega)),hb,xb (CQ 32 32 rfl h32),xb (CQ 40 40 rfl h40),xb (CQ 41 41 rfl h41),zT hwb,xJ,zi hc]; rfl
  | true =>
   rw [hw] at hwb
   have hs := Wa hl (i := i) (p := p) (q := q) (A := o.reverse.map eO) (t := t) hp (by omega) (by rw [hAl]; omega) (by omega) (l.length - i) i (by omega) (by omega)
   have hs1 := fun J => UV hl (i := i) (p := p) (q := q) (A := o.reverse.map eO) (J := J) (t := t) hp (by omega) (by rw [hAl]; omega) (by omega) (l.length - i) i (by omega) (by omega)
   rw [hAl] at hs hs1
   have hwe := GN hx hw
   have hwl := PX (l := l) (j := i + 1) (by omega)
   rw [hAl] at hw1
   rw [if_pos rfl]
   constructor
   ·rw [zq,yO,xK (yz (by omega)),yu (yx (by omega)),hb,xb (CQ 32 32 rfl h32),xb (CQ 40 40 rfl h40),xb (CQ 41 41 rfl h41),zT hwb,yk,hn1,hw1,hs]
    cases hwd : C9 ((l.drop i).take (CM l i - i)) with
    | none => rfl
    | some nd =>
     have hz := Jb hwd
     exact (Od hl hp k (CM l i) o (t.1,t.2 ++ [(q.length : Int)]) (q ++ [nd]) (by omega) (by omega) (by simp only [phi,lnA,lnC,lnN]; omega) (by omega) (Ft hf (by rw [List.length_take,List.length_drop] at hz; omega))).1
   ·intro J
    rw [zj,yO,xK (yz (by omega)),yu (yx (by omega)),hb,xb (CQ 32 32 rfl h32),xb (CQ 40 40 rfl h40),xb (CQ 41 41 rfl h41),zT hwb,yk,hw1,hs1]
    cases hwd : C9 ((l.drop i).take (CM l i - i)) with
    | none => rfl
    | some nd =>
     have hz := Jb hwd
     exact (Od hl hp k (CM l i) o (t.1,t.2 ++ [(q.length : Int)]) (q ++ [nd]) (by omega) (by omega) (by simp only [phi,lnA,lnC,lnN]; omega) (by omega) (Ft hf (by rw [List.length_take,List.length_drop] at hz; omega))).2 J
end
end Go.Eng
/-! reading a text: both sides agree -/
namespace Go.Eng
noncomputable section
open Go.Proofs Go.Proofs.Tryz
set_option maxHeartbeats 4000000

theorem FE {l : List UInt8} (hl : l.length < 1000000000) : ∀ (k i : Nat) (o : List RwF) (t : RwF) (q : List Nd),i <= l.length -> phi o t q + 2 * (l.length - i) < 4000000000 -> Aw q -> ∀ q' row,AV l k i o t q = .ok q' row -> Aw q' /\ q'.length < 4000000000 /\ row.length < 4000000000
 | 0,i,o,t,q,_,_,_,q',row,h => by rw [AV] at h; cases h
 | k + 1,i,o,t,q,h2,h3,hf,q',row,h => by
  have hph : phi o t q = q.length + t.2.length + (o.map fun x => x.2.length).sum := rfl
  rw [FC] at h
  by_cases hi : i = l.length
  ·have hx : l[i]? = none := List.getElem?_eq_none (by omega)
   rw [hx,JH] at h
   by_cases ho : o = []
   ·rw [if_pos ho] at h
    cases h
    exact ⟨hf,by omega,by omega⟩
   ·rw [if_neg ho] at h; cases h
  obtain ⟨x,hx⟩ := xx (l := l) (i := i) (by omega)
  rw [hx,GX] at h
  by_cases h32 : x = 32
  ·rw [if_pos h32] at h
   exact FE hl k (i + 1) o t q (by omega) (by omega) hf q' row h
  rw [if_neg h32] at h
  by_cases h40 : x = 40
  ·rw [if_pos h40] at h
   exact FE hl k (i + 1) (t :: o) ((i : Int),[]) q (by omega) (by simp only [phi,List.map_cons,List.sum_cons,lnN]; omega) hf q' row h
  rw [if_neg h40] at h
  by_cases h41 : x = 41
  ·rw [if_pos h41] at h
   cases o with
   | nil => cases h
   | cons u o =>
    simp only [List.map_cons,List.sum_cons] at hph
    exact FE hl k (i + 1) o (u.1,u.2 ++ [((Cj q t.2).2 : Int)]) (Cj q t.2).1 (by omega) (by simp only [phi,Kf,lnA,lnC,lnN]; omega) (LP hf _) q' row h
  rw [if_neg h41] at h
  by_cases hw : Gg x = true
  ·rw [if_pos hw] at h
   have hwe := GN hx hw
   have hwl := PX (l := l) (j := i + 1) (by omega)
   cases hwd : C9 ((l.drop i).take (CM l i - i)) with
   | none => rw [hwd] at h; cases h
   | some nd =>
    rw [hwd] at h
    have hz := Jb hwd
    exact FE hl k (CM l i) o (t.1,t.2 ++ [(q.length : Int)]) (q ++ [nd]) (by omega) (by simp only [phi,lnA,lnC,lnN]; omega) (Ft hf (by rw [List.length_take,List.length_drop] at hz; omega)) q' row h
  ·rw [if_neg hw] at h; cases h
def TN (p : List Nd) (n : Nat) (r : RdR) : List Nd × List Int × Int × Int := match r with
 | .err c a => (p,[],c,a)
 | .ok q row => if yW q = true then (q,row,0,(n : Int)) else (p,[],6,0)
def Bg (p : List Nd) (l : List UInt8) : List Nd × List Int × Int × Int := if yW p = false then ([],[],6,0) else if 400 < l.length then (p,[],1,0) else TN p l.length (AV l (l.length + 1) 0 [] (0,[]) p)
abbrev PJ (r : List Nd × List Int × Int × Int) : Option Ret := some (.tup [oP r.1,.os (1,0) (r.2.1.map eI),iN r.2.2.1,iN r.2.2.2],[])
theorem Vu (p : List Nd) (n : Nat) (r : RdR) : SR (p.map eN) n r = PJ (TN p n r) := by
 cases r with
 | err c a => rfl
 | ok q row =>
  rw [Uh]
  unfold TN
  by_cases h : yW q = true
  ·rw [if_pos h]; simp only [if_pos h]
  ·rw [if_neg h]; simp only [if_neg h]; rfl
theorem KH {p : List Nd} (hf : Aw p) (hl : p.length < 4611686018427387904) (l : List UInt8) : V 191 [eP p,.str (mk l)] = PJ (Bg p l) := by
 have hok := zr hf hl
 unfold Bg
 rw [Ri,Ej hok]
 cases h : yW p with
 | false => rw [Bool.not_false,yk,if_pos rfl]; rfl
 | true =>
  have hp := yX h
  have hc := PT (p := p) (by omega)
  rw [Bool.not_true,xJ,if_neg (by simp),yO]
  by_cases h4 : 400 < l.length
  ·rw [xK (decide_eq_true (by simp only [ni]; omega)),zi hc,if_pos h4]; rfl
  ·have hs := (Od (l := l) (by omega) (p := p) (by omega) (l.length + 1) 0 [] (0,[]) p (by omega) (by omega) (by simp only [phi,List.map_nil,List.sum_nil,lnN]; omega) (by simp only [lnN]; omega) hf).1
   rw [xb (decide_eq_false (by simp only [ni]; omega)),zi hc,if_neg h4,<- Vu]
   exact hs
end
end Go.Eng
/-! compiling,plain (the reference's way) -/
namespace Go.Eng
noncomputable section

structure Ms where
 list : List In
 defs : List Df
 how : Int
abbrev inO (op : Int) : In := ⟨op,0,0,⟨#[]⟩⟩
def wrds : List (List UInt8) := [[113,117,111,116,101],[105,102],[102,110],[100,111],[108,101,116],[100,101,102,105,110,101]]
def RZ (s : ByteArray) : Bool := wrds.any fun x => kc s (mk x)
def zL (m : Ms) (x : In) : Ms := if m.how = 0 then (if m.list.length = 400 then ⟨m.list,m.defs,3⟩ else ⟨m.list ++ [x],m.defs,0⟩) else m
def Cg (m : Ms) : Int := if m.how = 0 then (if m.list.length = 400 then 0 else m.list.length) else 0
def toC (m : Ms) (k : Int) : Ms := if m.how = 0 then ⟨m.list.set k.toNat ⟨(m.list.getD k.toNat (inO 0)).op,m.list.length,(m.list.getD k.toNat (inO 0)).i,(m.list.getD k.toNat (inO 0)).s⟩,m.defs,0⟩ else m
def CG (m : Ms) (h : Int) : Ms := ⟨m.list,m.defs,h⟩
def nmC (p : List Nd) (v : Int) : Bool := (nod p v).kind == 4 && !RZ (nod p v).s
def Ie (p : List Nd) : List Int -> Int -> List ByteArray -> List ByteArray × Int
 | [],h,out => (out,h)
 | x :: r,h,out => if h = 0 then Ie p r (if nmC p x = true then 0 else 1) (out ++ [(nod p x).s]) else (out,h)
def Lx (out : List ByteArray) : Nat -> Nat -> Int -> Int
 | 0,_,h => h
 | k + 1,i,h => if h = 0 then Lx out k (i + 1) (if (out.take i).any (fun t => kc t (out.getD i ⟨#[]⟩)) = true then 2 else 0) else h
def z4 (p : List Nd) (xs : List Int) (h : Int) : List ByteArray × Int :=
 let r := Ie p xs (if xs.length > 4 then 1 else h) []
 (r.1,Lx r.1 r.1.length 0 r.2)
def Vo (s : ByteArray) : List ByteArray -> Nat -> Option Nat
 | [],_ => none
 | x :: r,i => if kc x s = true then some i else Vo s r (i + 1)
def Ue (s : ByteArray) : List (List ByteArray) -> Nat -> Option (Nat × Nat)
 | [],_ => none
 | e :: r,n => match Vo s e 0 with
  | some i => some (n,i)
  | none => Ue s r (n + 1)
section
variable (E : List (List ByteArray) -> Int -> Ms -> Ms)
def Du (env : List (List ByteArray)) : List Int -> Bool -> Ms -> Ms
 | [],_,m => m
 | x :: r,f,m => if m.how = 0 then Du env r false (E env x (if f = true then m else zL m (inO 9))) else m
def RC (names : List ByteArray) (body : List Int) (env : List (List ByteArray)) (m : Ms) : Ms :=
 let m1 := zL m ⟨6,0,names.length,⟨#[]⟩⟩
 let m2 := zL m1 (inO 5)
 let m3 := Du E (names :: env) body true (toC m2 (Cg m))
 toC (zL m3 (inO 8)) (Cg m1)
def LI (p : List Nd) (s : ByteArray) (xs : List Int) (env : List (List ByteArray)) (m : Ms) : Ms :=
 if kc s (mk [113,117,111,116,101]) = true /\ xs.length = 2 then zL m ⟨1,xs.getD 1 0,0,⟨#[]⟩⟩
 else if kc s (mk [105,102]) = true /\ xs.length = 4 then
  let m1 := E env (xs.getD 1 0) m
  let m3 := E env (xs.getD 2 0) (zL m1 (inO 4))
  let m5 := toC (zL m3 (inO 5)) (Cg m1)
  toC (E env (xs.getD 3 0) m5) (Cg m3)
 else if kc s (mk [100,111]) = true /\ 2 <= xs.length then Du E env (xs.drop 1) true m
 else if kc s (mk [102,110]) = true /\ 3 <= xs.length then
  let a := AZ p (xs.getD 1 0)
  if a.2 = false then CG m 1 else
  let r := z4 p a.1 m.how
  RC E r.1 (xs.drop 2) env (CG m r.2)
 else if kc s (mk [108,101,116]) = true /\ 4 <= xs.length then
  let r := z4 p [xs.getD 1 0] m.how
  zL (E env (xs.getD 2 0) (RC E r.1 (xs.drop 3) env (CG m r.2))) ⟨7,0,1,⟨#[]⟩⟩
 else CG m 1
end
def Ip (p : List Nd) : Nat -> List (List ByteArray) -> Int -> Ms -> Ms
 | 0,_,_,m => m
 | k + 1,env,v,m => if m.how ≠ 0 then m else
  let x := nod p v
  if x.kind = 1 \/ x.kind = 2 \/ x.kind = 3 then zL m ⟨1,v,0,⟨#[]⟩⟩
  else if x.kind = 4 then
   if RZ x.s = true then CG m 1 else match Ue x.s env 0 with
    | some (n,i) => zL m ⟨2,n,i,⟨#[]⟩⟩
    | none => zL m ⟨3,0,0,x.s⟩
  else if x.kind ≠ 5 then CG m 1
  else if (AZ p v).2 = false then CG m 1
  else
   let xs := (AZ p v).1
   let h := nod p (xs.getD 0 0)
   if h.kind = 4 /\ RZ h.s = true then LI (Ip p k) p h.s xs env m
   else if xs.length > 5 then CG m 1
   else zL (xs.foldl (fun m x => Ip p k env x m) m) ⟨7,0,(xs.length : Int) - 1,⟨#[]⟩⟩
def Gc (p : List Nd) (env : List (List ByteArray)) (v : Int) (m : Ms) : Ms := Ip p (v.toNat + 1) env v m
def Ij (s : ByteArray) : List Df -> Int -> Int
 | [],h => h
 | d :: r,h => if h = 0 then Ij s r (if kc d.name s = true then 2 else 0) else h
def JW (p : List Nd) (s : ByteArray) (names : List ByteArray) (body : List Int) (m : Ms) : Ms :=
 zL (Du (Gc p) [names] body true ⟨m.list,m.defs ++ [⟨s,m.list.length,names.length⟩],Ij s m.defs m.how⟩) (inO 8)
def UB : ByteArray := mk [109,97,105,110]
def Mq (p : List Nd) (v : Int) (m : Ms) : Ms :=
 let l := AZ p v
 if (nod p v).kind = 5 /\ l.2 = true /\ (nod p (l.1.getD 0 0)).kind = 4 /\ kc (nod p (l.1.getD 0 0)).s (mk [100,101,102,105,110,101]) = true then
  if l.1.length < 3 \/ (nod p (l.1.getD 1 0)).kind ≠ 5 then CG m 1 else
  let a := AZ p (l.1.getD 1 0)
  if a.2 = false then CG m 1
  else if nmC p (a.1.getD 0 0) = false then CG m 1
  else
   let r := z4 p (a.1.drop 1) m.how
   JW p (nod p (a.1.getD 0 0)).s r.1 (l.1.drop 2) (CG m r.2)
 else JW p UB [] [v] m
def Dv (p : List Nd) (n : Int) : List Int -> Int -> Ms -> Cd × Int × Int
 | [],_,m => if AU ⟨p,m.list,m.defs⟩ = true then (⟨p,m.list,m.defs⟩,0,n) else (⟨[],[],[]⟩,3,0)
 | x :: r,i,m =>
  let m1 := Mq p x m
  if m1.how = 3 then (⟨[],[],[]⟩,3,0) else if m1.how ≠ 0 then (⟨[],[],[]⟩,m1.how,i) else Dv p n r (i + 1) m1
def Jl (p : List Nd) (xs : List Int) : Cd × Int × Int := if yW p = true /\ zw p xs = true then Dv p xs.length xs 0 ⟨[],[],0⟩ else (⟨[],[],[]⟩,3,0)
end
end Go.Eng
/-! a step of a machine: the program's side: the stack,the frames,lists -/
namespace Go.Eng
open Go.Proofs Go.Proofs.Tryz
set_option maxHeartbeats 4000000

theorem GU {p : List Nd} {v : Int} (h : InP p v) : p[v.toNat]? = some (nod p v) := by
 have : v.toNat < p.length := by omega
 simp [nod,List.getD_eq_getElem?_getD,List.getElem?_eq_getElem this]
theorem LU {p : List Nd} (hp : z7 p) {v : Int} (h : InP p v) : okN (nod p v) v = true := by
 have := hp _ _ (GU h)
 rwa [Int.toNat_of_nonneg h.1] at this
theorem WH {p : List Nd} (hp : z7 p) {v : Int} (h : InP p v) (hk : (nod p v).kind = 5 \/ (nod p v).kind = 6 \/ (nod p v).kind = 7) : InP p (nod p v).a := by
 rcases hk with hk | hk
 ·have := Ai (LU hp h) hk; exact ⟨by omega,by omega⟩
 ·have := Az (LU hp h) hk; exact ⟨by omega,by omega⟩
theorem UG {p : List Nd} (hp : z7 p) {v : Int} (h : InP p v) (hk : (nod p v).kind = 5) : InP p (nod p v).b := by
 have := Ai (LU hp h) hk; exact ⟨by omega,by omega⟩
section
variable {R : Type} {p : List Nd} {v : Int}
theorem QD (h : InP p v) : (decide (0 <= v) && decide (v < ni (p.map eN).length)) = true := by
 rw [lnM]; simp only [ni,Bool.and_eq_true,decide_eq_true_eq]; exact ⟨h.1,h.2⟩
theorem Rq (h : InP p v) (K : Int -> Int -> ByteArray -> Int -> Int -> Option R) : grd (decide (0 <= v) && decide (v < ni (p.map eN).length)) (cT (p.map eN) v.toNat fun x => tk1 x fun n4 n7 s10 n13 n16 => (K n4 n7 s10 n13 n16)) = K (nod p v).kind (nod p v).n (nod p v).s (nod p v).a (nod p v).b := by
 rw [yu (QD h),xW (GU h),Ja]
theorem Uk (h : InP p v) (K : Int -> Option R) : grd (decide (0 <= v) && decide (v < ni (p.map eN).length)) (cT (p.map eN) v.toNat fun x => asAgg x fun l => cT l 0 fun y => asI .i64 y fun n => K n) = K (nod p v).kind := by
 rw [yu (QD h),xW (GU h),WY]
theorem WU (h : InP p v) (K : Int -> Option R) : grd (decide (0 <= v) && decide (v < ni (p.map eN).length)) (cT (p.map eN) v.toNat fun x => asAgg x fun l => cT l 3 fun y => asI .i64 y fun n => K n) = K (nod p v).a := by
 rw [yu (QD h),xW (GU h),W7]
theorem WV (h : InP p v) (K : Int -> Option R) : grd (decide (0 <= v) && decide (v < ni (p.map eN).length)) (cT (p.map eN) v.toNat fun x => asAgg x fun l => cT l 4 fun y => asI .i64 y fun n => K n) = K (nod p v).b := by
 rw [yu (QD h),xW (GU h),W8]
end

theorem SG {p : List Nd} (hp : z7 p) : ∀ (k : Nat) (v : Int),InP p v -> ∀ x ∈ (Gx p k v).1,InP p x
 | 0,v,hv,x,hx => by simp [Gx] at hx
 | k + 1,v,hv,x,hx => by
  unfold Gx at hx
  split at hx
  ·rename_i h5
   rcases List.mem_cons.1 hx with rfl | hx
   ·exact WH hp hv (.inl h5)
   ·exact SG hp k _ (UG hp hv h5) x hx
  ·simp at hx
theorem QG {p : List Nd} : ∀ (k : Nat) (v : Int),(Gx p k v).1.length <= k
 | 0,v => by simp [Gx]
 | k + 1,v => by
  unfold Gx
  split
  ·have := QG (p := p) k (nod p v).b; simp only [lnC]; omega
  ·simp
end Go.Eng
/-! which nodes are alike: both sides -/
namespace Go.Eng
open Go.Proofs Go.Proofs.Tryz
set_option maxHeartbeats 4000000

theorem VE {R : Type} {l : List Int} {v : Int} (h0 : 0 <= v) (h1 : v < (l.length : Int)) (K : Int -> Option R) : grd (decide (0 <= v) && decide (v < ni (l.map eI).length)) (cT (l.map eI) v.toNat fun x => asI .i64 x fun n => K n) = K (l.getD v.toNat 0) := by
 obtain ⟨x,hx⟩ := xx (l := l) (i := v.toNat) (by omega)
 rw [yu (by rw [lnM]; simp only [ni,Bool.and_eq_true,decide_eq_true_eq]; exact ⟨h0,h1⟩),xW hx,ye,List.getD_eq_getElem?_getD,hx]; rfl
end Go.Eng
/-! what is built in: both sides -/
namespace Go.Eng
open Go.Proofs Go.Proofs.Tryz
set_option maxHeartbeats 4000000

theorem QE {R : Type} {l : List Int} {v x : Int} (h0 : 0 <= v) (h : l[v.toNat]? = some x) (K : Int -> Option R) : grd (decide (0 <= v) && decide (v < ni (l.map eI).length)) (cT (l.map eI) v.toNat fun x => asI .i64 x fun n => K n) = K x := by
 have := aQ h
 rw [VE h0 (by omega),List.getD_eq_getElem?_getD,h]; rfl
theorem Px {R : Type} {a : Int} {r : List Int} (K : Int -> Option R) : grd (decide ((0 : Nat) <= 0) && decide ((0 : Int) < ni ((a :: r).map eI).length)) (cT ((a :: r).map eI) 0 fun x => asI .i64 x fun n => K n) = K a := QE (l := a :: r) (v := 0) (by omega) rfl K
theorem UA {R : Type} {a b : Int} {r : List Int} (K : Int -> Option R) : grd (decide ((0 : Nat) <= 1) && decide ((1 : Int) < ni ((a :: b :: r).map eI).length)) (cT ((a :: b :: r).map eI) 1 fun x => asI .i64 x fun n => K n) = K b := QE (l := a :: b :: r) (v := 1) (by omega) rfl K
end Go.Eng
/-! a step of a machine keeps it right: plain -/
namespace Go.Eng

structure GM (m : Mc) : Prop where
 ok : z7 m.pool
 s : InP m.pool m.s
 e : InP m.pool m.e
 d : InP m.pool m.d
theorem Li {p : List Nd} (hp : z7 p) {v : Int} (hv : InP p v) : ∀ x ∈ (AZ p v).1,InP p x := SG hp _ v hv
structure GoesM (c : Cd) (m m' : Mc) (k : Nat) : Prop where
 gm : GM m'
 ext : ∃ t,m'.pool = m.pool ++ t /\ t.length <= k
 st : VJ c m' = true
structure RunM (c : Cd) (m : Mc) : Prop where
 gm : GM m
 st : m.state = 0
 ask : m.ask = 0
 arg : m.arg = 0
 pl : WX c m.at' = true
theorem FM {c : Cd} (hc : AU c = true) : yW c.pool = true /\ c.list.length <= 400 /\ c.defs.length <= 20 := by
 unfold AU at hc
 simp only [Bool.and_eq_true,decide_eq_true_eq] at hc
 exact ⟨hc.1,hc.2.1,hc.2.2.1⟩
end Go.Eng
/-! a step of a machine: the program's side: calls -/
namespace Go.Eng
open Go.Proofs Go.Proofs.Tryz
set_option maxHeartbeats 4000000

theorem UC {α : Type} {f : α -> D} {l : List α} {k : Int} (h : (l.length : Int) = k) : ni (l.map f).length = k := by rw [lnM]; exact h
theorem UE {α : Type} {f : α -> D} {l : List α} {k : Int} (h : ¬ (l.length : Int) = k) : ¬ ni (l.map f).length = k := by rw [lnM]; exact h
end Go.Eng
/-! a step of a machine: the program's side: whole -/
namespace Go.Eng
open Go.Proofs Go.Proofs.Tryz
set_option maxHeartbeats 4000000

end Go.Eng
/-! a step of a machine: the reference's side: the stack,the frames,calls -/
namespace Go.Eng
open Go.Proofs Go.Proofs.Tryz
set_option maxHeartbeats 4000000

theorem Iy {p : List Nd} (hp : z7 p) (hl : p.length < 4294967290) : ∀ (k : Nat) (v : Int) (acc : List Int),InP p v -> v < k -> acc.length + k < 4294967296 ->
  AL v (p.map eN) (acc.map eI) = some (.tup [.os (1,0) ((if (Gx p k v).2 = true then acc ++ (Gx p k v).1 else []).map eI),.bool (Gx p k v).2],[])
 | 0,v,acc,hv,hk,ha => by omega
 | k + 1,v,acc,hv,hk,ha => by
  rw [GZ,Uk hv]
  unfold Gx
  by_cases h5 : (nod p v).kind = 5
  ·have hb := Ai (LU hp hv) h5
   have ih := Iy hp hl k (nod p v).b (acc ++ [(nod p v).a]) (UG hp hv h5) (by omega) (by simp only [lnA,lnC,lnN]; omega)
   have ea : acc.map eI ++ [iN (nod p v).a] = (acc ++ [(nod p v).a]).map eI := by simp
   have hlim : decide (ni ((acc ++ [(nod p v).a]).map eI).length <= LIM) = true := decide_eq_true (by rw [pE]; simp only [ni,lnM,lnA,lnC,lnN]; omega)
   rw [if_pos h5,xK (yF h5),WU hv,ea,yu hlim,yA,WV hv,ih]
   simp
  ·rw [if_neg h5,xb (yE h5),Uk hv]
   by_cases h1 : (nod p v).kind = 1
   ·rw [xb (yG h1)]; simp [h1]
   ·rw [xK (yH h1)]; simp [h1]
theorem FW {p : List Nd} (hp : z7 p) (hl : p.length < 2147483648) {v : Int} (hv : InP p v) : V 228 [eP p,iN v] = some (.tup [.os (1,0) ((if (AZ p v).2 = true then (AZ p v).1 else []).map eI),.bool (AZ p v).2],[]) := by
 have := Iy hp (by omega) (v.toNat + 1) v [] hv (by omega) (by simp only [lnN]; omega)
 rw [LF]
 simp only [List.nil_append] at this
 exact this
end Go.Eng
/-! a step of a machine: the program's side: every instruction; runs -/
namespace Go.Eng
open Go.Proofs Go.Proofs.Tryz
set_option maxHeartbeats 4000000

end Go.Eng
/-! compiling: the reference's side -/
namespace Go.Eng
noncomputable section
open Go.Proofs Go.Proofs.Tryz
set_option maxHeartbeats 4000000

abbrev eMs (p : List Nd) (m : Ms) : D := .op [.os (5,0) (p.map eN),.os (4,0) (m.list.map eIn),.os (3,0) (m.defs.map eDf),iN m.how]
abbrev eEs (env : List (List ByteArray)) : List D := env.map fun e => D.rs (1,0) (e.map D.str)
structure Le (m m' : Ms) : Prop where
 len : m.list.length <= m'.list.length
 four : m'.list.length <= 400
 how : m'.how = 0 -> m.how = 0
 defs : m'.defs = m.defs
theorem Le.refl {m : Ms} (h : m.list.length <= 400) : Le m m := ⟨Nat.le_refl _,h,id,rfl⟩
theorem Le.trans {a b c : Ms} (h : Le a b) (h2 : Le b c) : Le a c := ⟨Nat.le_trans h.len h2.len,h2.four,fun x => h.how (h2.how x),h2.defs.trans h.defs⟩
theorem zD {m : Ms} (h : m.list.length <= 400) (x : In) : Le m (zL m x) := by
 unfold zL
 split
 ·rename_i h0
  split
  ·exact ⟨Nat.le_refl _,h,fun _ => h0,rfl⟩
  ·exact ⟨by simp,by simp; omega,fun _ => h0,rfl⟩
 ·exact Le.refl h
theorem Lf {m : Ms} (_ : m.list.length <= 400) (x : In) (h0 : (zL m x).how = 0) : 0 <= Cg m /\ Cg m < ((zL m x).list.length : Int) := by
 unfold zL at h0 ⊢
 unfold Cg
 split at h0
 ·rename_i e
  split at h0
  ·simp at h0
  ·rename_i e2
   rw [if_pos e,if_pos e,if_neg e2,if_neg e2]
   simp
   omega
 ·rename_i e; exact absurd h0 e
theorem Og {m : Ms} (h : m.list.length <= 400) (k : Int) : Le m (toC m k) := by
 unfold toC
 split
 ·exact ⟨by simp,by simpa using h,fun _ => ‹_›,rfl⟩
 ·exact Le.refl h
theorem Sc {p : List Nd} {m : Ms} (h : m.list.length <= 400) (x : In) : V 237 [eMs p m,eIn x] = some (iN (Cg m),[eMs p (zL m x)]) := by
 have e : m.list.map eIn ++ [D.agg [iN x.op,iN x.n,iN x.i,D.str x.s]] = (m.list ++ [x]).map eIn := by simp
 rw [Pe,e]
 unfold zL Cg
 by_cases h0 : m.how = 0
 ·rw [xK (yF h0),if_pos h0,if_pos h0]
  by_cases h4 : m.list.length = 400
  ·rw [xK (yF (UC (by omega))),if_pos h4,if_pos h4]
  ·rw [xb (yE (UE (by omega))),xb (yG h0),if_neg h4,if_neg h4,yu (decide_eq_true (by rw [pE,lnM]; simp only [ni,lnA,lnC,lnN]; omega)),yA,w64 (by rw [lnM]; simp only [ni,lnA,lnC,lnN]; omega) (by rw [lnM]; simp only [ni,lnA,lnC,lnN]; omega),h0]
   simp [ni]
 ·rw [xb (yE h0),xK (yH h0),if_neg h0,if_neg h0]
theorem VU {p : List Nd} {m : Ms} (_ : m.list.length <= 400) {k : Int} (hk : m.how = 0 -> 0 <= k /\ k < (m.list.length : Int)) : V 253 [eMs p m,iN k] = some (.tup [],[eMs p (toC m k)]) := by
 rw [RB]
 unfold toC
 by_cases h0 : m.how = 0
 ·obtain ⟨k0,k1⟩ := hk h0
  obtain ⟨x,hx⟩ := xx (l := m.list) (i := k.toNat) (by omega)
  have hg : m.list.getD k.toNat (inO 0) = x := by rw [List.getD_eq_getElem?_getD,hx]; rfl
  have e : List.set (m.list.map eIn) k.toNat (D.agg (List.take 1 [iN x.op,iN x.n,iN x.i,D.str x.s] ++ [iN (ni (m.list.map eIn).length)] ++ List.drop 2 [iN x.op,iN x.n,iN x.i,D.str x.s])) = (m.list.set k.toNat ⟨x.op,m.list.length,x.i,x.s⟩).map eIn := by
   rw [List.map_set,lnM]; rfl
  rw [xK (yF h0),if_pos h0,yu (by rw [lnM]; simp only [ni,Bool.and_eq_true,decide_eq_true_eq]; omega),xW hx,xu,yA,e,hg,h0]
 ·rw [xb (yE h0),if_neg h0]
theorem Se (s : ByteArray) : V 238 [.str s] = some (.bool (RZ s),[]) := by
 rw [Kc]
 unfold RZ wrds
 simp only [List.any_cons,List.any_nil,Bool.or_false]
 show br (kc s (mk [113,117,111,116,101])) (some (D.bool true,[])) (br (kc s (mk [105,102])) (some (D.bool true,[])) (br (kc s (mk [102,110])) (some (D.bool true,[])) (br (kc s (mk [100,111])) (some (D.bool true,[])) (br (kc s (mk [108,101,116])) (some (D.bool true,[])) (some (D.bool (kc s (mk [100,101,102,105,110,101])),[])))))) = _
 cases kc s (mk [113,117,111,116,101]) <;> cases kc s (mk [105,102]) <;> cases kc s (mk [102,110]) <;> cases kc s (mk [100,111]) <;> cases kc s (mk [108,101,116]) <;> rfl
theorem Vl {p : List Nd} (m : Ms) {v : Int} (hv : InP p v) : V 230 [eMs p m,iN v] = some (.tup [.str (nod p v).s,.bool (nmC p v)],[eMs p m]) := by
 rw [Ph,Rq hv]
 unfold nmC
 by_cases h4 : (nod p v).kind = 4
 ·rw [xK (yF h4),CR (Se _),yF h4,Bool.true_and]
 ·rw [xb (yE h4),yE h4,Bool.false_and]
theorem Jk {p : List Nd} (m : Ms) {xs : List Int} (hl : xs.length <= 100000) (hx : ∀ x ∈ xs,InP p x) : ∀ (k i : Nat) (h : Int) (out : List ByteArray),i + k = xs.length -> out.length <= i ->
  zH (xs.map eI) (i : Int) h (out.map D.str) (p.map eN) (m.list.map eIn) (m.defs.map eDf) = zA 0 (Ie p (xs.drop i) h out).2 ((Ie p (xs.drop i) h out).1.map D.str) (p.map eN) (m.list.map eIn) (m.defs.map eDf) /\ (Ie p (xs.drop i) h out).1.length <= xs.length
 | 0,i,h,out,hi,ho => by
  rw [Dp,xb (by rw [lnM]; exact yr (by omega)),List.drop_of_length_le (by omega),Ie]
  exact ⟨rfl,by show out.length <= _; omega⟩
 | k + 1,i,h,out,hi,ho => by
  obtain ⟨x,hg⟩ := xx (l := xs) (i := i) (by omega)
  have hp := hx x (List.mem_of_getElem? hg)
  rw [Dp,xK (by rw [lnM]; exact yz (by omega)),tU hg,Ie]
  by_cases h0 : h = 0
  ·have ea : out.map D.str ++ [D.str (nod p x).s] = (out ++ [(nod p x).s]).map D.str := by simp
   have hlim : decide (ni ((out ++ [(nod p x).s]).map D.str).length <= LIM) = true := decide_eq_true (by rw [pE]; simp only [ni,lnM,lnA,lnC,lnN]; omega)
   have hn : V 230 [.op [.os (5,0) (p.map eN),.os (4,0) (m.list.map eIn),.os (3,0) (m.defs.map eDf),iN h],iN x] = _ := Vl (p := p) ⟨m.list,m.defs,h⟩ hp
   rw [xK (yF h0),yu (by rw [lnM]; exact yx (by omega)),Int.toNat_natCast,xW hg,ye,Ky hn,ea,yM (by omega),if_pos h0]
   have ih := fun h' => Jk m hl hx k (i + 1) h' (out ++ [(nod p x).s]) (by omega) (by simp; omega)
   cases hc : nmC p x with
   | false => rw [Bool.not_false,yk,if_neg (by simp),yu hlim,yA]; exact ih 1
   | true => rw [Bool.not_true,xJ,if_pos rfl,h0,yu hlim,yA]; exact ih 0
  ·rw [xb (yE h0),if_neg h0]
   exact ⟨rfl,by show out.length <= _; omega⟩
theorem Rx {p : List Nd} (m : Ms) {out : List ByteArray} (hl : out.length <= 100000) {i : Nat} (hi : i < out.length) {s : ByteArray} (hs : out[i]? = some s) : ∀ (k j : Nat) (h : Int),j + k = i ->
  z9 (i : Int) (j : Int) h (out.map D.str) (p.map eN) (m.list.map eIn) (m.defs.map eDf) = zA ((i + 1 : Nat) : Int) (if ((out.take i).drop j).any (fun t => kc t s) = true then 2 else h) (out.map D.str) (p.map eN) (m.list.map eIn) (m.defs.map eDf)
 | 0,j,h,hj => by
  rw [CY,xb (decide_eq_false (by omega)),yM (by omega),List.drop_of_length_le (by simp; omega)]
  rfl
 | k + 1,j,h,hj => by
  obtain ⟨t,ht⟩ := xx (l := out) (i := j) (by omega)
  have ht2 : (out.take i)[j]? = some t := by rw [List.getElem?_take]; rw [if_pos (by omega)]; exact ht
  rw [CY,xK (decide_eq_true (by omega)),yu (by rw [lnM]; exact yx (by omega)),Int.toNat_natCast,xW ht,yi,yu (by rw [lnM]; exact yx (by omega)),Int.toNat_natCast,xW hs,yi,yM (by omega),Rx m hl hi hs k (j + 1) 2 (by omega),Rx m hl hi hs k (j + 1) h (by omega),tU ht2,List.any_cons]
  cases kc t s with
  | true => rw [yk,Bool.true_or,if_pos rfl]; split <;> rfl
  | false => rw [xJ,Bool.false_or]
theorem Qh {p : List Nd} (m : Ms) {out : List ByteArray} (hl : out.length <= 100000) : ∀ (k i : Nat) (h : Int),i + k = out.length ->
  zA (i : Int) h (out.map D.str) (p.map eN) (m.list.map eIn) (m.defs.map eDf) = some (.os (1,0) (out.map D.str),[eMs p (CG m (Lx out k i h))])
 | 0,i,h,hi => by
  rw [CX,xb (by rw [lnM]; exact yr (by omega))]
  rfl
 | k + 1,i,h,hi => by
  obtain ⟨s,hs⟩ := xx (l := out) (i := i) (by omega)
  have hg : out.getD i ⟨#[]⟩ = s := by rw [List.getD_eq_getElem?_getD,hs]; rfl
  have hin := Rx (p := p) m hl (i := i) (by omega) hs i 0 h (by omega)
  rw [Int.natCast_zero,List.drop_zero] at hin
  rw [CX,xK (by rw [lnM]; exact yz (by omega)),hin,Qh m hl k (i + 1) _ (by omega),Lx,hg]
  by_cases h0 : h = 0
  ·rw [xK (yF h0),if_pos h0,h0]
  ·rw [xb (yE h0),if_neg h0]
   rfl
theorem PW {p : List Nd} (m : Ms) {xs : List Int} (hl : xs.length <= 100000) (hx : ∀ x ∈ xs,InP p x) : V 231 [eMs p m,.rs (1,0) (xs.map eI)] = some (.os (1,0) ((z4 p xs m.how).1.map D.str),[eMs p (CG m (z4 p xs m.how).2)]) /\ (z4 p xs m.how).1.length <= xs.length := by
 have h := fun h' => Jk (p := p) m hl hx xs.length 0 h' [] (by omega) (by simp)
 simp only [Int.natCast_zero,List.drop_zero,List.map_nil] at h
 have key : ∀ h',zH (xs.map eI) 0 h' [] (p.map eN) (m.list.map eIn) (m.defs.map eDf) = some (.os (1,0) ((Ie p xs h' []).1.map D.str),[eMs p (CG m (Lx (Ie p xs h' []).1 (Ie p xs h' []).1.length 0 (Ie p xs h' []).2))]) := fun h' => by
  have hd := Qh (p := p) m (out := (Ie p xs h' []).1) (by have := (h h').2; omega) (Ie p xs h' []).1.length 0 (Ie p xs h' []).2 (by omega)
  rw [(h h').1]
  exact hd
 rw [Nc,lnM]
 unfold z4
 by_cases h4 : xs.length > 4
 ·rw [xK (decide_eq_true (by simp only [ni]; omega)),if_pos h4]
  exact ⟨key 1,(h 1).2⟩
 ·rw [xb (decide_eq_false (by simp only [ni]; omega)),if_neg h4]
  exact ⟨key m.how,(h m.how).2⟩

def vrD (r : Option (Nat × Nat)) : D := match r with | some (n,i) => .tup [iN n,iN i] | none => .tup [iN (-1),iN 0]
theorem Vp {env : List (List ByteArray)} {s : ByteArray} (h1 : env.length <= 100000) {n : Nat} {e : List ByteArray} (he : env[n]? = some e) (h2 : e.length <= 100000) : ∀ (k i : Nat),i + k = e.length ->
  Cr (eEs env) s (n : Int) (i : Int) = match Vo s (e.drop i) i with
   | some j => some (.tup [iN n,iN j],[])
   | none => AY (eEs env) s ((n + 1 : Nat) : Int)
 | 0,i,hi => by
  have hn := aQ he
  rw [Fj,yu (by rw [lnM]; exact yx (by omega)),Int.toNat_natCast,xW he,yh,lnM,xb (yr (by omega)),List.drop_of_length_le (by omega),yM (by omega)]
  rfl
 | k + 1,i,hi => by
  have hn := aQ he
  obtain ⟨t,ht⟩ := xx (l := e) (i := i) (by omega)
  rw [Fj,yu (by rw [lnM]; exact yx (by omega)),Int.toNat_natCast,xW he,yh,lnM,xK (yz (by omega)),xW he,yh,yu (by rw [lnM]; exact yx (by omega)),Int.toNat_natCast,xW ht,yi,tU ht,Vo,yM (by omega),Vp h1 he h2 k (i + 1) (by omega),yu (by rw [lnM]; exact yx (by omega))]
  cases kc t s with
  | true => rw [yk,if_pos rfl]
  | false => rw [xJ,if_neg (by simp)]
theorem Rf {env : List (List ByteArray)} {s : ByteArray} (h1 : env.length <= 100000) (h2 : ∀ e ∈ env,e.length <= 100000) : ∀ (k n : Nat),n + k = env.length -> AY (eEs env) s (n : Int) = some (vrD (Ue s (env.drop n) n),[])
 | 0,n,hn => by
  rw [Fi,xb (by rw [lnM]; exact yr (by omega)),List.drop_of_length_le (by omega)]
  rfl
 | k + 1,n,hn => by
  obtain ⟨e,he⟩ := xx (l := env) (i := n) (by omega)
  have hi := Vp (s := s) h1 he (h2 e (List.mem_of_getElem? he)) e.length 0 (by omega)
  rw [Int.natCast_zero,List.drop_zero] at hi
  rw [Fi,xK (by rw [lnM]; exact yz (by omega)),hi,tU he,Ue,Rf h1 h2 k (n + 1) (by omega)]
  cases Vo s e 0 <;> rfl
theorem WS {env : List (List ByteArray)} (s : ByteArray) (h1 : env.length <= 100000) (h2 : ∀ e ∈ env,e.length <= 100000) : V 248 [.rs (1,1) (eEs env),.str s] = some (vrD (Ue s env 0),[]) := by
 rw [Qt]
 exact Rf h1 h2 env.length 0 (by omega)
end
end Go.Eng
/-! compiling: the reference's side: expressions -/
namespace Go.Eng
noncomputable section
open Go.Proofs Go.Proofs.Tryz
set_option maxHeartbeats 4000000

theorem SI {p : List Nd} (hp : z7 p) : ∀ (k : Nat) (v : Int),InP p v -> ∀ x ∈ (Gx p k v).1,x < v
 | 0,v,hv,x,hx => by simp [Gx] at hx
 | k + 1,v,hv,x,hx => by
  unfold Gx at hx
  split at hx
  ·rename_i h5
   have := Ai (LU hp hv) h5
   rcases List.mem_cons.1 hx with rfl | hx
   ·omega
   ·have := SI hp k _ (UG hp hv h5) x hx; omega
  ·simp at hx
theorem VH {p : List Nd} (hp : z7 p) {v : Int} (hv : InP p v) : ∀ x ∈ (AZ p v).1,x < v := SI hp _ v hv
theorem Ju {p : List Nd} (v : Int) : (AZ p v).1.length <= v.toNat + 1 := QG _ _
def FX (E : List (List ByteArray) -> Int -> Ms -> Ms) : Prop := ∀ env v (m : Ms),m.list.length <= 400 -> Le m (E env v m)
theorem EF {m : Ms} (h : m.list.length <= 400) {k : Int} (hk : k = 0 -> m.how = 0) : Le m (CG m k) := ⟨Nat.le_refl _,h,hk,rfl⟩
theorem D9 {E} (hE : FX E) (env : List (List ByteArray)) : ∀ (xs : List Int) (f : Bool) (m : Ms),m.list.length <= 400 -> Le m (Du E env xs f m)
 | [],f,m,h => Le.refl h
 | x :: r,f,m,h => by
  unfold Du
  split
  ·have h1 : Le m (if f = true then m else zL m (inO 9)) := by
    split
    ·exact Le.refl h
    ·exact zD h _
   have h2 := hE env x _ h1.four
   exact (h1.trans h2).trans (D9 hE env r false _ h2.four)
  ·exact Le.refl h
theorem RE {E} (hE : FX E) (names : List ByteArray) (body : List Int) (env : List (List ByteArray)) {m : Ms} (h : m.list.length <= 400) : Le m (RC E names body env m) := by
 unfold RC
 simp only
 have a1 := zD h ⟨6,0,names.length,⟨#[]⟩⟩
 have a2 := zD a1.four (inO 5)
 have a3 := Og a2.four (Cg m)
 have a4 := D9 hE (names :: env) body true _ a3.four
 have a5 := zD a4.four (inO 8)
 have a6 := Og a5.four (Cg (zL m ⟨6,0,names.length,⟨#[]⟩⟩))
 exact ((((a1.trans a2).trans a3).trans a4).trans a5).trans a6
theorem Vz (out : List ByteArray) : ∀ (k i : Nat) (h : Int),Lx out k i h = 0 -> h = 0
 | 0,i,h,e => e
 | k + 1,i,h,e => by
  unfold Lx at e
  split at e
  ·assumption
  ·exact e
theorem Wk (p : List Nd) : ∀ (xs : List Int) (h : Int) (out : List ByteArray),(Ie p xs h out).2 = 0 -> h = 0
 | [],h,out,e => e
 | x :: r,h,out,e => by
  unfold Ie at e
  split at e
  ·assumption
  ·exact e
theorem GT {p : List Nd} {xs : List Int} {h : Int} (e : (z4 p xs h).2 = 0) : h = 0 := by
 unfold z4 at e
 have := Wk p xs _ _ (Vz _ _ _ _ e)
 split at this
 ·omega
 ·exact this
theorem VC {E} (hE : FX E) (p : List Nd) (s : ByteArray) (xs : List Int) (env : List (List ByteArray)) {m : Ms} (h : m.list.length <= 400) : Le m (LI E p s xs env m) := by
 unfold LI
 simp only
 split
 ·exact zD h _
 split
 ·have a1 := hE env (xs.getD 1 0) m h
  have a2 := zD a1.four (inO 4)
  have a3 := hE env (xs.getD 2 0) _ a2.four
  have a4 := zD a3.four (inO 5)
  have a5 := Og a4.four (Cg (E env (xs.getD 1 0) m))
  have a6 := hE env (xs.getD 3 0) _ a5.four
  exact (((((a1.trans a2).trans a3).trans a4).trans a5).trans a6).trans (Og a6.four _)
 split
 ·exact D9 hE env _ true m h
 split
 ·split
  ·exact EF h (by omega)
  ·have a1 : Le m (CG m (z4 p (AZ p (xs.getD 1 0)).1 m.how).2) := EF h GT
   exact a1.trans (RE hE _ _ env a1.four)
 split
 ·have a1 : Le m (CG m (z4 p [xs.getD 1 0] m.how).2) := EF h GT
  have a2 := RE hE (z4 p [xs.getD 1 0] m.how).1 (xs.drop 3) env a1.four
  have a3 := hE env (xs.getD 2 0) _ a2.four
  exact ((a1.trans a2).trans a3).trans (zD a3.four _)
 ·exact EF h (by omega)
theorem Sm {E} (hE : FX E) (env : List (List ByteArray)) : ∀ (xs : List Int) (m : Ms),m.list.length <= 400 -> Le m (xs.foldl (fun m x => E env x m) m)
 | [],m,h => Le.refl h
 | x :: r,m,h => by
  have a1 := hE env x m h
  exact a1.trans (Sm hE env r _ a1.four)
theorem FH (p : List Nd) : ∀ k,FX (Ip p k)
 | 0,env,v,m,h => Le.refl h
 | k + 1,env,v,m,h => by
  unfold Ip
  split
  ·exact Le.refl h
  simp only
  split
  ·exact zD h _
  split
  ·split
   ·exact EF h (by omega)
   ·split <;> exact zD h _
  split
  ·exact EF h (by omega)
  split
  ·exact EF h (by omega)
  split
  ·exact VC (FH p k) p _ _ env h
  split
  ·exact EF h (by omega)
  ·have a1 := Sm (FH p k) env (AZ p v).1 m h
   exact a1.trans (zD a1.four _)

def Jd (env : List (List ByteArray)) (n : Nat) : Prop := env.length + n <= 10000 /\ ∀ e ∈ env,e.length <= 10000
def Lr (p : List Nd) (k : Nat) (E : List (List ByteArray) -> Int -> Ms -> Ms) : Prop := ∀ env v (m : Ms),InP p v -> v < (k : Int) -> Jd env k -> m.list.length <= 400 -> V 244 [eMs p m,iN v,.rs (1,1) (eEs env)] = some (.tup [],[eMs p (E env v m)])
section
variable {p : List Nd} {k : Nat} {E : List (List ByteArray) -> Int -> Ms -> Ms}
theorem JU (hG : FX E) (hS : Lr p k E) {env : List (List ByteArray)} (he : Jd env k) {xs : List Int} (hl : xs.length <= 100000) (hx : ∀ x ∈ xs,InP p x /\ x < (k : Int)) : ∀ (j i : Nat) (m : Ms),i + j = xs.length -> m.list.length <= 400 ->
  AF (xs.map eI) (eEs env) (i : Int) m.how (p.map eN) (m.list.map eIn) (m.defs.map eDf) = some (.tup [],[eMs p (Du E env (xs.drop i) (decide (i = 0)) m)])
 | 0,i,m,hi,hm => by
  rw [D5,xb (by rw [lnM]; exact yr (by omega)),List.drop_of_length_le (by omega)]
  rfl
 | j + 1,i,m,hi,hm => by
  obtain ⟨x,hg⟩ := xx (l := xs) (i := i) (by omega)
  obtain ⟨x1,x2⟩ := hx x (List.mem_of_getElem? hg)
  rw [D5,xK (by rw [lnM]; exact yz (by omega)),tU hg,Du]
  by_cases h0 : m.how = 0
  ·rw [xK (yF h0),if_pos h0]
   by_cases hi0 : i = 0
   ·have a1 := hS env x m x1 x2 he hm
    have ih := JU hG hS he hl hx j (i + 1) (E env x m) (by omega) (hG env x m hm).four
    rw [xb (decide_eq_false (by omega)),yu (by rw [lnM]; exact yx (by omega)),Int.toNat_natCast,xW hg,ye,AI a1,yM (by omega),ih,decide_eq_true hi0,if_pos rfl,decide_eq_false (by omega)]
   ·have a0 : V 237 [eMs p m,.agg [iN 9,iN 0,iN 0,.str ⟨#[]⟩]] = _ := Sc (p := p) hm (inO 9)
    have le := zD hm (inO 9)
    have a1 := hS env x _ x1 x2 he le.four
    have ih := JU hG hS he hl hx j (i + 1) (E env x (zL m (inO 9))) (by omega) (hG env x _ le.four).four
    rw [xK (decide_eq_true (by omega)),zb a0,yu (by rw [lnM]; exact yx (by omega)),Int.toNat_natCast,xW hg,ye,AI a1,yM (by omega),ih,decide_eq_false hi0,if_neg (by simp),decide_eq_false (by omega)]
  ·rw [xb (yE h0),if_neg h0]
theorem Sa (hG : FX E) (hS : Lr p k E) {env : List (List ByteArray)} (he : Jd env k) {xs : List Int} (hl : xs.length <= 100000) (hx : ∀ x ∈ xs,InP p x /\ x < (k : Int)) {m : Ms} (hm : m.list.length <= 400) : V 236 [eMs p m,.rs (1,0) (xs.map eI),.rs (1,1) (eEs env)] = some (.tup [],[eMs p (Du E env xs true m)]) := by
 have h := JU hG hS he hl hx xs.length 0 m (by omega) hm
 rw [Pc]
 simpa using h
theorem Ch {p : List Nd} {m : Ms} (h : m.list.length <= 400) (op n i : Int) : V 237 [eMs p m,.agg [iN op,iN n,iN i,.str ⟨#[]⟩]] = some (iN (Cg m),[eMs p (zL m ⟨op,n,i,⟨#[]⟩⟩)]) := Sc h ⟨op,n,i,⟨#[]⟩⟩
theorem Wd (hG : FX E) (hS : Lr p k E) {names : List ByteArray} (hn : names.length <= 10000) {env : List (List ByteArray)} (he : Jd env (k + 1)) {xs : List Int} (hl : xs.length <= 100000) (hx : ∀ x ∈ xs,InP p x /\ x < (k : Int)) {m : Ms} (hm : m.list.length <= 400) : V 254 [eMs p m,.rs (1,0) (names.map D.str),.rs (1,0) (xs.map eI),.rs (1,1) (eEs env)] = some (.tup [],[eMs p (RC E names xs env m)]) := by
 have he1 := he.1
 have e1 : [D.rs (1,0) (names.map D.str)] ++ eEs env = eEs (names :: env) := rfl
 have hlim : decide (ni (eEs (names :: env)).length <= LIM) = true := decide_eq_true (by rw [pE]; simp only [ni,lnM,lnC]; omega)
 have he2 : Jd (names :: env) k := ⟨by simp only [lnC]; omega,fun e h => by
  rcases List.mem_cons.1 h with rfl | h
  ·exact hn
  ·exact he.2 e h⟩
 have a1 := zD hm ⟨6,0,names.length,⟨#[]⟩⟩
 have i1 := Lf hm ⟨6,0,names.length,⟨#[]⟩⟩
 have a2 := zD a1.four (inO 5)
 have i2 := Lf a1.four (inO 5)
 have a3 := Og a2.four (Cg m)
 have a4 := D9 hG (names :: env) xs true _ a3.four
 have a5 := zD a4.four (inO 8)
 have e0 : ni (names.map D.str).length = (names.length : Int) := by rw [lnM]
 have b1 := Ch (p := p) hm 6 0 names.length
 have b2 := Ch (p := p) a1.four 5 0 0
 have b3 := VU (p := p) a2.four (k := Cg m) (fun h => by have := i1 (a2.how h); have := a2.len; omega)
 have b4 := Sa hG hS he2 hl hx a3.four
 have b5 := Ch (p := p) a4.four 8 0 0
 have b6 := VU (p := p) a5.four (k := Cg (zL m ⟨6,0,names.length,⟨#[]⟩⟩)) (fun h => by have := i2 (a3.how (a4.how (a5.how h))); have := a5.len; have := a4.len; have := a3.len; omega)
 rw [Qq,e0,zb b1,zb b2,GV b3,e1,yu hlim,yA,Eu b4,zb b5,GV b6]
 rfl
theorem Ak {s : ByteArray} {a b : List UInt8} (h : kc s (mk a) = true) (hn : a ≠ b) : kc s (mk b) = false := by
 rw [DG] at h ⊢
 simp only [decide_eq_true_eq,decide_eq_false_iff_not] at h ⊢
 intro e
 exact hn (mk_inj.1 (h.symm.trans e))
theorem Wv (hp : z7 p) (hl : p.length < 100000) (hG : FX E) (hS : Lr p k E) {env : List (List ByteArray)} (he : Jd env (k + 1)) {xs : List Int} (hn : xs ≠ []) (hxl : xs.length <= 100000) (hx : ∀ x ∈ xs,InP p x /\ x < (k : Int)) {m : Ms} (hm : m.list.length <= 400) (s : ByteArray) : V 249 [eMs p m,.str s,.rs (1,0) (xs.map eI),.rs (1,1) (eEs env)] = some (.tup [],[eMs p (LI E p s xs env m)]) := by
 have he1 := he.1
 have he2 : Jd env k := ⟨by omega,he.2⟩
 have get : ∀ i : Nat,i < xs.length -> InP p (xs.getD i 0) /\ xs.getD i 0 < (k : Int) /\ xs[i]? = some (xs.getD i 0) := fun i hi => by
  obtain ⟨x,hg⟩ := xx (l := xs) (i := i) hi
  have e : xs.getD i 0 = x := by rw [List.getD_eq_getElem?_getD,hg]; rfl
  obtain ⟨g1,g2⟩ := hx x (List.mem_of_getElem? hg)
  rw [e]
  exact ⟨g1,g2,hg⟩
 have hdrop : ∀ n,∀ x ∈ xs.drop n,InP p x /\ x < (k : Int) := fun n x h => hx x (List.mem_of_mem_drop h)
 have hdl : ∀ n,(xs.drop n).length <= 100000 := fun n => by rw [List.length_drop]; omega
 have cut : ∀ n : Int,0 <= n -> n <= (xs.length : Int) -> cW (xs.map eI).length (some n) none = true := fun n h0 h1 => by simp [cW]; omega
 have cutd1 : wu (xs.map eI) 1 = (xs.drop 1).map eI := by unfold wu; rw [List.map_drop]; rfl
 have cutd2 : wu (xs.map eI) 2 = (xs.drop 2).map eI := by unfold wu; rw [List.map_drop]; rfl
 have cutd3 : wu (xs.map eI) 3 = (xs.drop 3).map eI := by unfold wu; rw [List.map_drop]; rfl
 have other : ∀ {a b : List UInt8},kc s (mk a) = true -> a ≠ b -> ¬ kc s (mk b) = true := fun h hn e => by rw [Ak h hn] at e; cases e
 rw [Pg]
 unfold LI
 by_cases hq : kc s (mk [113,117,111,116,101]) = true
 ·have tq : kc s ⟨#[113,117,111,116,101]⟩ = true := hq
  have ti : kc s ⟨#[105,102]⟩ = false := Ak hq (by decide)
  have td : kc s ⟨#[100,111]⟩ = false := Ak hq (by decide)
  have tf : kc s ⟨#[102,110]⟩ = false := Ak hq (by decide)
  have tl : kc s ⟨#[108,101,116]⟩ = false := Ak hq (by decide)
  by_cases h2 : xs.length = 2
  ·obtain ⟨g1,g2,g3⟩ := get 1 (by omega)
   have b1 := Ch (p := p) hm 1 (xs.getD 1 0) 0
   rw [if_pos ⟨hq,h2⟩,xK tq,xK (yF (UC (by omega))),yu (by rw [lnM]; simp only [ni,Bool.and_eq_true,decide_eq_true_eq]; omega),xW g3,ye,zb b1]
  ·rw [if_neg (fun h => h2 h.2),if_neg (fun h => other hq (by decide) h.1),if_neg (fun h => other hq (by decide) h.1),if_neg (fun h => other hq (by decide) h.1),if_neg (fun h => other hq (by decide) h.1),xK tq,xb (yE (UE (by omega))),xb ti,xb td,xb tf,xb tl]
   rfl
 have tq : kc s ⟨#[113,117,111,116,101]⟩ = false := by cases e : kc s ⟨#[113,117,111,116,101]⟩ with | true => exact absurd e hq | false => rfl
 rw [if_neg (fun h => hq h.1),xb tq]
 by_cases hi : kc s (mk [105,102]) = true
 ·have ti : kc s ⟨#[105,102]⟩ = true := hi
  have td : kc s ⟨#[100,111]⟩ = false := Ak hi (by decide)
  have tf : kc s ⟨#[102,110]⟩ = false := Ak hi (by decide)
  have tl : kc s ⟨#[108,101,116]⟩ = false := Ak hi (by decide)
  by_cases h4 : xs.length = 4
  ·obtain ⟨g1,g2,g3⟩ := get 1 (by omega)
   obtain ⟨g4,g5,g6⟩ := get 2 (by omega)
   obtain ⟨g7,g8,g9⟩ := get 3 (by omega)
   have l1 := hG env (xs.getD 1 0) m hm
   have l2 := zD l1.four (inO 4)
   have i2 := Lf l1.four (inO 4)
   have l3 := hG env (xs.getD 2 0) _ l2.four
   have l4 := zD l3.four (inO 5)
   have i4 := Lf l3.four (inO 5)
   have l5 := Og l4.four (Cg (E env (xs.getD 1 0) m))
   have l6 := hG env (xs.getD 3 0) _ l5.four
   have b1 := hS env (xs.getD 1 0) m g1 g2 he2 hm
   have b2 := Ch (p := p) l1.four 4 0 0
   have b3 := hS env (xs.getD 2 0) _ g4 g5 he2 l2.four
   have b4 := Ch (p := p) l3.four 5 0 0
   have b5 := VU (p := p) l4.four (k := Cg (E env (xs.getD 1 0) m)) (fun h => by have := i2 (l3.how (l4.how h)); have := l4.len; have := l3.len; omega)
   have b6 := hS env (xs.getD 3 0) _ g7 g8 he2 l5.four
   have b7 := VU (p := p) l6.four (k := Cg (E env (xs.getD 2 0) (zL (E env (xs.getD 1 0) m) (inO 4)))) (fun h => by have := i4 (l5.how (l6.how h)); have := l6.len; have := l5.len; omega)
   rw [if_pos ⟨hi,h4⟩,xK ti,xK (yF (UC (by omega))),yu (by rw [lnM]; simp only [ni,Bool.and_eq_true,decide_eq_true_eq]; omega),xW g3,ye,AI b1,zb b2,yu (by rw [lnM]; simp only [ni,Bool.and_eq_true,decide_eq_true_eq]; omega),xW g6,ye,AI b3,zb b4,GV b5,yu (by rw [lnM]; simp only [ni,Bool.and_eq_true,decide_eq_true_eq]; omega),xW g9,ye,AI b6,GV b7]
  ·rw [if_neg (fun h => h4 h.2),if_neg (fun h => other hi (by decide) h.1),if_neg (fun h => other hi (by decide) h.1),if_neg (fun h => other hi (by decide) h.1),xK ti,xb (yE (UE (by omega))),xb td,xb tf,xb tl]
   rfl
 have ti : kc s ⟨#[105,102]⟩ = false := by cases e : kc s ⟨#[105,102]⟩ with | true => exact absurd e hi | false => rfl
 rw [if_neg (fun h => hi h.1),xb ti]
 by_cases hd : kc s (mk [100,111]) = true
 ·have td : kc s ⟨#[100,111]⟩ = true := hd
  have tf : kc s ⟨#[102,110]⟩ = false := Ak hd (by decide)
  have tl : kc s ⟨#[108,101,116]⟩ = false := Ak hd (by decide)
  by_cases h2 : 2 <= xs.length
  ·have b1 := Sa hG hS he2 (hdl 1) (hdrop 1) hm
   rw [if_pos ⟨hd,h2⟩,xK td,lnM,xK (decide_eq_true (by simp only [ni]; omega)),<- lnM (f := eI),yu (cut 1 (by omega) (by omega)),cutd1,Eu b1]
  ·rw [if_neg (fun h => h2 h.2),if_neg (fun h => other hd (by decide) h.1),if_neg (fun h => other hd (by decide) h.1),xK td,xb (decide_eq_false (by rw [lnM]; simp only [ni]; omega)),xb tf,xb tl]
   rfl
 have td : kc s ⟨#[100,111]⟩ = false := by cases e : kc s ⟨#[100,111]⟩ with | true => exact absurd e hd | false => rfl
 rw [if_neg (fun h => hd h.1),xb td]
 by_cases hf : kc s (mk [102,110]) = true
 ·have tf : kc s ⟨#[102,110]⟩ = true := hf
  have tl : kc s ⟨#[108,101,116]⟩ = false := Ak hf (by decide)
  by_cases h3 : 3 <= xs.length
  ·obtain ⟨g1,g2,g3⟩ := get 1 (by omega)
   have b1 := FW hp (by omega) g1
   rw [if_pos ⟨hf,h3⟩,xK tf,xK (decide_eq_true (by rw [lnM]; simp only [ni]; omega)),yu (by rw [lnM]; simp only [ni,Bool.and_eq_true,decide_eq_true_eq]; omega),xW g3,ye,Cu b1]
   simp only
   cases hb : (AZ p (xs.getD 1 0)).2 with
   | false => rw [if_pos rfl,Bool.not_false,yk]; rfl
   | true =>
    have ll := Ju (p := p) (xs.getD 1 0)
    obtain ⟨b2,b3⟩ := PW (p := p) m (xs := (AZ p (xs.getD 1 0)).1) (by have := g1.2; omega) (Li hp g1)
    have l1 : Le m (CG m (z4 p (AZ p (xs.getD 1 0)).1 m.how).2) := EF hm GT
    have b4 := Wd hG hS (names := (z4 p (AZ p (xs.getD 1 0)).1 m.how).1) (by have := g1.2; omega) he (hdl 2) (hdrop 2) l1.four
    rw [if_pos (rfl : true = true),if_neg (by decide : ¬ true = false),Bool.not_true,xJ,FK b2,yu (cut 2 (by omega) (by omega)),cutd2,LX b4]
  ·rw [if_neg (fun h => h3 h.2),if_neg (fun h => other hf (by decide) h.1),xK tf,xb (decide_eq_false (by rw [lnM]; simp only [ni]; omega)),xb tl]
   rfl
 have tf : kc s ⟨#[102,110]⟩ = false := by cases e : kc s ⟨#[102,110]⟩ with | true => exact absurd e hf | false => rfl
 rw [if_neg (fun h => hf h.1),xb tf]
 by_cases hl : kc s (mk [108,101,116]) = true
 ·have tl : kc s ⟨#[108,101,116]⟩ = true := hl
  by_cases h4 : 4 <= xs.length
  ·obtain ⟨g1,g2,g3⟩ := get 1 (by omega)
   obtain ⟨g4,g5,g6⟩ := get 2 (by omega)
   have ec : wu (wt (xs.map eI) 2) 1 = [xs.getD 1 0].map eI := by
    obtain ⟨g7,g8,g9⟩ := get 0 (by omega)
    match xs,h4 with
    | a :: b :: r,_ => rfl
   obtain ⟨b2,b3⟩ := PW (p := p) m (xs := [xs.getD 1 0]) (by simp) (fun x h => by rw [List.mem_singleton.1 h]; exact g1)
   have l1 : Le m (CG m (z4 p [xs.getD 1 0] m.how).2) := EF hm GT
   have b4 := Wd hG hS (names := (z4 p [xs.getD 1 0] m.how).1) (by have : [xs.getD 1 0].length = 1 := rfl; omega) he (hdl 3) (hdrop 3) l1.four
   have l2 := RE hG (z4 p [xs.getD 1 0] m.how).1 (xs.drop 3) env l1.four
   have b5 := hS env (xs.getD 2 0) _ g4 g5 he2 l2.four
   have l3 := hG env (xs.getD 2 0) _ l2.four
   have b6 := Ch (p := p) l3.four 7 0 1
   rw [if_pos ⟨hl,h4⟩,xK tl,xK (decide_eq_true (by rw [List.length_map]; simp only [ni]; omega)),yu (by simp [cW]; omega),ec,FK b2,yu (cut 3 (by omega) (by omega)),cutd3,LX b4,yu (by rw [List.length_map]; simp only [ni,Bool.and_eq_true,decide_eq_true_eq]; omega),xW g6,ye,AI b5,zb b6]
  ·rw [if_neg (fun h => h4 h.2),xK tl,xb (decide_eq_false (by rw [lnM]; simp only [ni]; omega))]
   rfl
 have tl : kc s ⟨#[108,101,116]⟩ = false := by cases e : kc s ⟨#[108,101,116]⟩ with | true => exact absurd e hl | false => rfl
 rw [if_neg (fun h => hl h.1),xb tl]
 rfl
end
theorem Pz {p : List Nd} {v : Int} (h : (nod p v).kind = 5) : (AZ p v).1 ≠ [] := by
 unfold AZ Gx
 rw [if_pos h]
 simp
theorem NA {p : List Nd} {k : Nat} {E : List (List ByteArray) -> Int -> Ms -> Ms} (hG : FX E) (hS : Lr p k E) {env : List (List ByteArray)} (he : Jd env k) {xs : List Int} (hl : xs.length <= 100000) (hx : ∀ x ∈ xs,InP p x /\ x < (k : Int)) : ∀ (j i : Nat) (m : Ms),i + j = xs.length -> m.list.length <= 400 ->
  zk (eEs env) (i : Int) m.how (xs.map eI) (p.map eN) (m.list.map eIn) (m.defs.map eDf) = some (.tup [],[eMs p (zL ((xs.drop i).foldl (fun m x => E env x m) m) ⟨7,0,(xs.length : Int) - 1,⟨#[]⟩⟩)])
 | 0,i,m,hi,hm => by
  have b : V 237 [eMs p m,.agg [iN 7,iN 0,iN (ni xs.length - 1),.str ⟨#[]⟩]] = _ := Ch (p := p) hm 7 0 ((xs.length : Int) - 1)
  rw [Dn,lnM,xb (yr (by omega)),List.drop_of_length_le (by omega),w64 (n := ni xs.length - 1) (by simp only [ni]; omega) (by simp only [ni]; omega),zb b]
  rfl
 | j + 1,i,m,hi,hm => by
  obtain ⟨x,hg⟩ := xx (l := xs) (i := i) (by omega)
  obtain ⟨x1,x2⟩ := hx x (List.mem_of_getElem? hg)
  have a1 := hS env x m x1 x2 he hm
  have ih := NA hG hS he hl hx j (i + 1) (E env x m) (by omega) (hG env x m hm).four
  rw [Dn,xK (by rw [lnM]; exact yz (by omega)),yu (by rw [lnM]; exact yx (by omega)),Int.toNat_natCast,xW hg,ye,AI a1,yM (by omega),ih,tU hg,List.foldl_cons]
theorem Vc {p : List Nd} (hp : z7 p) (hl : p.length < 100000) : ∀ k,k <= 100000 -> Lr p k (Ip p k)
 | 0,hk,env,v,m,hv,hlt,he,hm => by have := hv.1; omega
 | k + 1,hk,env,v,m,hv,hlt,he,hm => by
  have ih := Vc hp hl k (by omega)
  have hG := FH p k
  have he2 : Jd env k := ⟨by have := he.1; omega,he.2⟩
  rw [Pf]
  unfold Ip
  by_cases h0 : m.how = 0
  ·rw [xb (yG h0),if_neg (fun h => h h0),Rq hv]
   simp only
   have bl := Ch (p := p) hm 1 v 0
   by_cases k1 : (nod p v).kind = 1
   ·rw [xK (yF k1),xK (yF k1),zb bl,if_pos (.inl k1)]
   rw [xb (yE k1)]
   by_cases k2 : (nod p v).kind = 2
   ·rw [xK (yF k2),xK (yF k2),zb bl,if_pos (.inr (.inl k2))]
   rw [xb (yE k2)]
   by_cases k3 : (nod p v).kind = 3
   ·rw [xK (yF k3),zb bl,if_pos (.inr (.inr k3))]
   rw [xb (yE k3),if_neg (by omega)]
   by_cases k4 : (nod p v).kind = 4
   ·rw [xK (yF k4),if_pos k4,CR (Se _)]
    cases hr : RZ (nod p v).s with
    | true => rw [yk,if_pos rfl]; rfl
    | false =>
     have hw := WS (nod p v).s (env := env) (by have := he.1; omega) (fun e h => by have := he.2 e h; omega)
     rw [xJ,if_neg (by decide)]
     cases hvn : Ue (nod p v).s env 0 with
     | none =>
      rw [hvn] at hw
      have b := Sc (p := p) hm ⟨3,0,0,(nod p v).s⟩
      rw [LY hw,xb (decide_eq_false (by omega)),zb b]
     | some ni =>
      obtain ⟨n,i⟩ := ni
      rw [hvn] at hw
      have b := Ch (p := p) hm 2 n i
      rw [LY hw,xK (decide_eq_true (by omega)),zb b]
   rw [xb (yE k4),if_neg k4]
   by_cases k5 : (nod p v).kind = 5
   ·have b1 := FW hp (by omega) hv
    rw [xb (yG k5),if_neg (fun h => h k5),Cu b1]
    cases hb : (AZ p v).2 with
    | false => rw [if_pos rfl,Bool.not_false,yk]; rfl
    | true =>
     have ll := Ju (p := p) v
     have hne := Pz k5
     have hin := Li hp hv
     have hlt2 := VH hp hv
     rw [if_pos (rfl : true = true),if_neg (by decide : ¬ true = false),Bool.not_true,xJ]
     generalize hxs : (AZ p v).1 = xs at ll hne hin hlt2 ⊢
     have hx : ∀ x ∈ xs,InP p x /\ x < (k : Int) := fun x h => ⟨hin x h,by have := hlt2 x h; omega⟩
     obtain ⟨a,r,rfl⟩ : ∃ a r,xs = a :: r := by
      cases xs with
      | nil => exact absurd rfl hne
      | cons a r => exact ⟨a,r,rfl⟩
     have ha := hin a (by simp)
     have hcl := NA hG ih he2 (xs := a :: r) (by have := hv.2; omega) hx (a :: r).length 0 m (by omega) hm
     rw [Int.natCast_zero,List.drop_zero] at hcl
     rw [Px,Rq ha]
     simp only [List.getD_cons_zero]
     have fin : (br (decide (ni ((a :: r).map eI).length > 5)) (some (.tup [],[.op [.os (5,0) (p.map eN),.os (4,0) (m.list.map eIn),.os (3,0) (m.defs.map eDf),iN 1]])) (zk (eEs env) 0 m.how ((a :: r).map eI) (p.map eN) (m.list.map eIn) (m.defs.map eDf))) = some (.tup [],[eMs p (if (a :: r).length > 5 then CG m 1 else zL ((a :: r).foldl (fun m x => Ip p k env x m) m) ⟨7,0,((a :: r).length : Int) - 1,⟨#[]⟩⟩)]) := by
      rw [lnM]
      by_cases h5 : (a :: r).length > 5
      ·rw [xK (decide_eq_true (by simp only [ni]; omega)),if_pos h5]; rfl
      ·rw [xb (decide_eq_false (by simp only [ni]; omega)),if_neg h5,hcl]
     by_cases ka : (nod p a).kind = 4
     ·rw [xK (yF ka),CR (Se _)]
      cases hr : RZ (nod p a).s with
      | true =>
       have bf := Wv hp hl hG ih he (xs := a :: r) (by simp) (by have := hv.2; omega) hx hm (nod p a).s
       rw [yk,QV bf,if_pos ⟨ka,rfl⟩]
      | false => rw [xJ,if_neg (fun h => by simp at h)]; exact fin
     ·rw [xb (yE ka),if_neg (fun h => ka h.1)]; exact fin
   ·rw [xK (yH k5),if_pos k5]; rfl
  ·rw [xK (yH h0),if_pos h0]
end
end Go.Eng
/-! compiling: the reference's side: definitions,programs -/
namespace Go.Eng
open Go.Proofs Go.Proofs.Tryz
set_option maxHeartbeats 4000000

theorem WW {R : Type} (x : Df) (K : ByteArray -> Option R) : (asAgg (eDf x) fun l => cT l 0 fun y => asS y fun n => K n) = K x.name := rfl
theorem Wh {p : List Nd} (s : ByteArray) (names : List ByteArray) (body : List Int) {m : Ms} (h : m.list.length <= 400) : (JW p s names body m).list.length <= 400 /\ m.list.length <= (JW p s names body m).list.length /\ ((JW p s names body m).how = 0 -> m.list.length < (JW p s names body m).list.length) := by
 unfold JW
 have a1 := D9 (E := Gc p) (fun env v m h => FH p _ env v m h) [names] body true ⟨m.list,m.defs ++ [⟨s,m.list.length,names.length⟩],Ij s m.defs m.how⟩ h
 have a2 := zD a1.four (inO 8)
 have a3 := a1.len
 have a4 := a2.len
 refine ⟨a2.four,by simp only at a3; omega,fun h0 => ?_⟩
 have h1 := a2.how h0
 have : (zL (Du (Gc p) [names] body true ⟨m.list,m.defs ++ [⟨s,m.list.length,names.length⟩],Ij s m.defs m.how⟩) (inO 8)).list.length = (Du (Gc p) [names] body true ⟨m.list,m.defs ++ [⟨s,m.list.length,names.length⟩],Ij s m.defs m.how⟩).list.length + 1 := by
  unfold zL at h0 ⊢
  rw [if_pos h1] at h0 ⊢
  split at h0
  ·simp at h0
  ·rename_i e; rw [if_neg e]; simp
 simp only at a3
 omega
theorem WL {p : List Nd} (hp : z7 p) (hl : p.length <= 5000) : Lr p p.length (Gc p) := fun env v m hv hlt he hm => by
 unfold Gc
 exact Vc hp (by omega) (v.toNat + 1) (by omega) env v m hv (by have := hv.1; omega) ⟨by have := he.1; omega,he.2⟩ hm
theorem NG {p : List Nd} (hp : z7 p) (hl : p.length <= 5000) {s : ByteArray} {names : List ByteArray} (hn : names.length <= 10000) {body : List Int} (hbl : body.length <= 100000) (hb : ∀ x ∈ body,InP p x) {m : Ms} (hm : m.list.length <= 400) (hd : m.defs.length <= 1000000) : ∀ (k i : Nat) (h : Int),i + k = m.defs.length ->
  z8 s (names.map D.str) (body.map eI) (i : Int) h (p.map eN) (m.list.map eIn) (m.defs.map eDf) = some (.tup [],[eMs p (zL (Du (Gc p) [names] body true ⟨m.list,m.defs ++ [⟨s,m.list.length,names.length⟩],Ij s (m.defs.drop i) h⟩) (inO 8))])
 | k,i,h,hi => by
  have ea : m.defs.map eDf ++ [D.agg [D.str s,iN (ni (m.list.map eIn).length),iN (ni (names.map D.str).length)]] = (m.defs ++ [(⟨s,m.list.length,names.length⟩ : Df)]).map eDf := by
   rw [List.map_append,lnM,lnM]; rfl
  have hlim : decide (ni ((m.defs ++ [(⟨s,m.list.length,names.length⟩ : Df)]).map eDf).length <= LIM) = true := decide_eq_true (by rw [pE]; simp only [ni,lnM,lnA,lnC,lnN]; omega)
  have hG : FX (Gc p) := fun env v m h => FH p _ env v m h
  have b1 : ∀ h' : Int,V 236 [eMs p ⟨m.list,m.defs ++ [(⟨s,m.list.length,names.length⟩ : Df)],h'⟩,.rs (1,0) (body.map eI),.rs (1,1) [.rs (1,0) (names.map D.str)]] = some (.tup [],[eMs p (Du (Gc p) [names] body true ⟨m.list,m.defs ++ [(⟨s,m.list.length,names.length⟩ : Df)],h'⟩)]) := fun h' => Sa (m := ⟨m.list,m.defs ++ [(⟨s,m.list.length,names.length⟩ : Df)],h'⟩) hG (WL hp hl) (env := [names]) ⟨by simp; omega,fun e he => by rw [List.mem_singleton.1 he]; exact hn⟩ hbl (fun x h => ⟨hb x h,(hb x h).2⟩) hm
  have b2 := fun h' : Int => Ch (p := p) (D9 hG [names] body true ⟨m.list,m.defs ++ [(⟨s,m.list.length,names.length⟩ : Df)],h'⟩ hm).four 8 0 0
  rw [Ia,ea]
  match k with
  | 0 =>
   rw [xb (by rw [lnM]; exact yr (by omega)),List.drop_of_length_le (by omega),Ij,yu hlim,yA,Eu (b1 h),zb (b2 h)]
  | k + 1 =>
   obtain ⟨d,hg⟩ := xx (l := m.defs) (i := i) (by omega)
   rw [xK (by rw [lnM]; exact yz (by omega)),tU hg,Ij]
   by_cases h0 : h = 0
   ·have ih := fun h' => NG hp hl (s := s) hn hbl hb hm hd k (i + 1) h' (by omega)
    rw [xK (yF h0),if_pos h0,yu (by rw [lnM]; exact yx (by omega)),Int.toNat_natCast,xW hg,WW,yM (by omega),ih,ih,h0]
    cases kc d.name s with
    | true => rw [yk,if_pos rfl]
    | false => rw [xJ,if_neg (by decide)]
   ·rw [xb (yE h0),if_neg h0,yu hlim,yA,Eu (b1 h),zb (b2 h)]
 termination_by k => k
theorem Wc {p : List Nd} (hp : z7 p) (hl : p.length <= 5000) (s : ByteArray) {names : List ByteArray} (hn : names.length <= 10000) {body : List Int} (hbl : body.length <= 100000) (hb : ∀ x ∈ body,InP p x) {m : Ms} (hm : m.list.length <= 400) (hd : m.defs.length <= 1000000) : V 229 [eMs p m,.str s,.rs (1,0) (names.map D.str),.rs (1,0) (body.map eI)] = some (.tup [],[eMs p (JW p s names body m)]) := by
 have h := NG hp hl (s := s) hn hbl hb hm hd m.defs.length 0 m.how (by omega)
 rw [LG]
 rw [Int.natCast_zero,List.drop_zero] at h
 exact h
theorem UL (l : List Int) (k : Nat) (K : Int) (hK : K.toNat = k) : part (l.map eI) (some (K.toNat,(l.map eI).length - K.toNat)) = (l.drop k).map eI := by
 rw [hK]
 simp only [part]
 rw [<- List.map_drop]
 exact List.take_of_length_le (by simp)
theorem WQ {p : List Nd} (hp : z7 p) (hl : p.length <= 5000) {v : Int} (hv : InP p v) {m : Ms} (hm : m.list.length <= 400) (hd : m.defs.length <= 1000000) : V 215 [eMs p m,iN v] = some (.tup [],[eMs p (Mq p v m)]) := by
 have dm : V 229 [eMs p m,.str ⟨#[109,97,105,110]⟩,.rs (1,0) [],.rs (1,0) [iN v]] = some (.tup [],[eMs p (JW p UB [] [v] m)]) := Wc hp hl UB (names := []) (by simp) (body := [v]) (by simp) (fun x h => by rw [List.mem_singleton.1 h]; exact hv) hm hd
 rw [Qr,Uk hv]
 unfold Mq
 simp only
 by_cases k5 : (nod p v).kind = 5
 ·have b1 := FW hp (by omega) hv
  rw [xK (yF k5),Cu b1]
  cases hb : (AZ p v).2 with
  | false => rw [if_neg (by decide : ¬ false = true),Bool.not_false,yk,Ba dm,if_neg (fun h => by simp at h)]
  | true =>
   have ll := Ju (p := p) v
   have hne := Pz k5
   have hin := Li hp hv
   rw [if_pos (rfl : true = true),Bool.not_true,xJ]
   generalize hxs : (AZ p v).1 = xs at ll hne hin ⊢
   obtain ⟨a,r,rfl⟩ : ∃ a r,xs = a :: r := by
    cases xs with
    | nil => exact absurd rfl hne
    | cons a r => exact ⟨a,r,rfl⟩
   have ha := hin a (by simp)
   have e2 := WZ (R := Ret) (nod p a)
   rw [Px,Uk ha]
   simp only [List.getD_cons_zero]
   by_cases k4 : (nod p a).kind = 4
   ·rw [xb (yG k4),Px,yu (QD ha),xW (GU ha),e2]
    by_cases hs : kc (nod p a).s (mk [100,101,102,105,110,101]) = true
    ·have hs' : kc (nod p a).s ⟨#[100,101,102,105,110,101]⟩ = true := hs
     rw [hs',Bool.not_true,xJ,if_pos ⟨k5,trivial,k4,hs⟩]
     by_cases h3 : (a :: r).length < 3
     ·rw [xK (decide_eq_true (by rw [lnM]; simp only [ni]; omega)),if_pos (.inl h3)]; rfl
     ·rw [xb (decide_eq_false (by rw [lnM]; simp only [ni]; omega))]
      obtain ⟨b,c,r,rfl⟩ : ∃ b c r',r = b :: c :: r' := by
       match r,h3 with
       | b :: c :: r',_ => exact ⟨b,c,r',rfl⟩
       | [],h => simp at h
       | [_],h => simp at h
      have hb1 := hin b (by simp)
      rw [UA,Uk hb1]
      simp only [List.getD_cons_succ,List.getD_cons_zero]
      by_cases kb : (nod p b).kind = 5
      ·have b2 := FW hp (by omega) hb1
       rw [xb (yG kb),UA,if_neg (fun h => h.elim h3 (fun h => h kb)),Cu b2]
       cases hbb : (AZ p b).2 with
       | false => rw [if_neg (by decide : ¬ false = true),Bool.not_false,yk,if_pos rfl]; rfl
       | true =>
        have l2 := Ju (p := p) b
        have n2 := Pz kb
        have i2 := Li hp hb1
        rw [if_pos (rfl : true = true),Bool.not_true,xJ,if_neg (by decide : ¬ true = false)]
        generalize hys : (AZ p b).1 = ys at l2 n2 i2 ⊢
        obtain ⟨f,q,rfl⟩ : ∃ f q,ys = f :: q := by
         cases ys with
         | nil => exact absurd rfl n2
         | cons f q => exact ⟨f,q,rfl⟩
        have hf := i2 f (by simp)
        have bn := Vl (p := p) m hf
        rw [Px,Ky bn]
        simp only [List.getD_cons_zero]
        cases hnm : nmC p f with
        | false => rw [Bool.not_false,yk,if_pos rfl]; rfl
        | true =>
         have hq : ∀ x ∈ (f :: q).drop 1,InP p x := fun x h => i2 x (List.mem_of_mem_drop h)
         have hql : ((f :: q).drop 1).length <= 5001 := by have := hb1.2; rw [List.length_drop]; omega
         obtain ⟨b3,b4⟩ := PW (p := p) m (xs := (f :: q).drop 1) (by omega) hq
         have bd := Wc hp hl (nod p f).s (names := (z4 p ((f :: q).drop 1) m.how).1) (by omega) (body := (a :: b :: c :: r).drop 2) (by have := hv.2; rw [List.length_drop]; omega) (fun x h => hin x (List.mem_of_mem_drop h)) (m := CG m (z4 p ((f :: q).drop 1) m.how).2) hm hd
         rw [Bool.not_true,xJ,if_neg (by decide : ¬ true = false),yu (by simp [cW]; omega),UL _ 1 1 rfl,FK b3,yu (by simp [cW]; omega),UL _ 2 2 rfl,Ba bd]
      ·rw [xK (yH kb),if_pos (.inr kb)]; rfl
    ·have hs' : kc (nod p a).s ⟨#[100,101,102,105,110,101]⟩ = false := by cases e : kc (nod p a).s ⟨#[100,101,102,105,110,101]⟩ with | true => exact absurd e hs | false => rfl
     rw [hs',Bool.not_false,yk,Ba dm,if_neg (fun h => hs h.2.2.2)]
   ·rw [xK (yH k4),Ba dm,if_neg (fun h => k4 h.2.2.1)]
 ·rw [xb (yE k5),Ba dm,if_neg (fun h => k5 h.1)]
end Go.Eng
/-! compiling: the reference's side: whole programs -/
namespace Go.Eng
noncomputable section
open Go.Proofs Go.Proofs.Tryz
set_option maxHeartbeats 4000000

structure LeD (m m' : Ms) : Prop where
 len : m.list.length <= m'.list.length
 four : m'.list.length <= 400
 grew : m'.how = 0 -> m.list.length < m'.list.length
 defs : m'.defs.length <= m.defs.length + 1
theorem Sg {p : List Nd} (s : ByteArray) (names : List ByteArray) (body : List Int) {m : Ms} (h : m.list.length <= 400) : LeD m (JW p s names body m) := by
 obtain ⟨h1,h2,h3⟩ := Wh (p := p) s names body h
 refine ⟨h2,h1,h3,?_⟩
 unfold JW
 have a1 := D9 (E := Gc p) (fun env v m h => FH p _ env v m h) [names] body true ⟨m.list,m.defs ++ [⟨s,m.list.length,names.length⟩],Ij s m.defs m.how⟩ h
 rw [(zD a1.four (inO 8)).defs,a1.defs]
 simp
theorem UZ {p : List Nd} {v : Int} {m : Ms} (h : m.list.length <= 400) : LeD m (Mq p v m) := by
 unfold Mq
 simp only
 split
 ·split
  ·exact ⟨Nat.le_refl _,h,fun h => by simp [CG] at h,Nat.le_succ _⟩
  ·split
   ·exact ⟨Nat.le_refl _,h,fun h => by simp [CG] at h,Nat.le_succ _⟩
   ·split
    ·exact ⟨Nat.le_refl _,h,fun h => by simp [CG] at h,Nat.le_succ _⟩
    ·have h2 : (CG m (z4 p (List.drop 1 (AZ p ((AZ p v).1.getD 1 0)).1) m.how).2).list.length <= 400 := h
     have := Sg (p := p) (nod p ((AZ p ((AZ p v).1.getD 1 0)).1.getD 0 0)).s (z4 p (List.drop 1 (AZ p ((AZ p v).1.getD 1 0)).1) m.how).1 (List.drop 2 (AZ p v).1) h2
     exact ⟨this.len,this.four,this.grew,this.defs⟩
 ·exact Sg _ _ _ h
def IW (l : List In) : Prop := ∀ x ∈ l,x.s.size < 4611686018427387904
def Tj (E : List (List ByteArray) -> Int -> Ms -> Ms) : Prop := ∀ env v (m : Ms),IW m.list -> IW (E env v m).list
theorem Ac {m : Ms} (h : IW m.list) {x : In} (hx : x.s.size < 4611686018427387904) : IW (zL m x).list := by
 unfold zL
 split
 ·split
  ·exact h
  ·intro y hy
   rcases List.mem_append.1 hy with hy | hy
   ·exact h y hy
   ·rw [List.mem_singleton.1 hy]; exact hx
 ·exact h
theorem EE : (⟨#[]⟩ : ByteArray).size < 4611686018427387904 := by decide
theorem PR {m : Ms} (h : IW m.list) (k : Int) : IW (toC m k).list := by
 unfold toC
 split
 ·intro y hy
  rcases List.mem_or_eq_of_mem_set hy with hy | rfl
  ·exact h y hy
  ·simp only
   rw [List.getD_eq_getElem?_getD]
   cases hg : m.list[k.toNat]? with
   | none => exact EE
   | some x => exact h x (List.mem_of_getElem? hg)
 ·exact h
theorem Jh {E} (hE : Tj E) (env : List (List ByteArray)) : ∀ (xs : List Int) (f : Bool) (m : Ms),IW m.list -> IW (Du E env xs f m).list
 | [],f,m,h => h
 | x :: r,f,m,h => by
  unfold Du
  split
  ·refine Jh hE env r false _ (hE env x _ ?_)
   split
   ·exact h
   ·exact Ac h EE
  ·exact h
theorem Sn {E} (hE : Tj E) (names : List ByteArray) (body : List Int) (env : List (List ByteArray)) {m : Ms} (h : IW m.list) : IW (RC E names body env m).list := by
 unfold RC
 exact PR (Ac (Jh hE _ _ _ _ (PR (Ac (Ac h EE) EE) _)) EE) _
theorem Uv {E} (hE : Tj E) (p : List Nd) (s : ByteArray) (xs : List Int) (env : List (List ByteArray)) {m : Ms} (h : IW m.list) : IW (LI E p s xs env m).list := by
 unfold LI
 simp only
 split
 ·exact Ac h EE
 split
 ·exact PR (hE _ _ _ (PR (Ac (hE _ _ _ (Ac (hE _ _ _ h) EE)) EE) _)) _
 split
 ·exact Jh hE _ _ _ _ h
 split
 ·split
  ·exact h
  ·exact Sn hE _ _ _ h
 split
 ·refine Ac (hE _ _ _ (Sn hE _ _ _ ?_)) ?_
  ·exact h
  ·exact EE
 ·exact h
theorem Qw {E} (hE : Tj E) (env : List (List ByteArray)) : ∀ (xs : List Int) (m : Ms),IW m.list -> IW (xs.foldl (fun m x => E env x m) m).list
 | [],_,h => h
 | x :: r,m,h => Qw hE env r _ (hE env x m h)
theorem SM {p : List Nd} (hf : Aw p) (v : Int) : (nod p v).s.size < 4611686018427387904 := by
 unfold nod
 rw [List.getD_eq_getElem?_getD]
 cases hg : p[v.toNat]? with
 | none => exact EE
 | some x => exact hf x (List.mem_of_getElem? hg)
theorem LH {p : List Nd} (hf : Aw p) : ∀ k,Tj (Ip p k)
 | 0,env,v,m,h => h
 | k + 1,env,v,m,h => by
  unfold Ip
  split
  ·exact h
  simp only
  split
  ·exact Ac h EE
  split
  ·split
   ·exact h
   ·split
    ·exact Ac h EE
    ·exact Ac h (SM hf v)
  split
  ·exact h
  split
  ·exact h
  split
  ·exact Uv (LH hf k) p _ _ env h
  split
  ·exact h
  ·exact Ac (Qw (LH hf k) env _ m h) EE
def Rm (m : Ms) : Prop := IW m.list /\ ∀ x ∈ m.defs,x.name.size < 4611686018427387904
theorem Si {p : List Nd} (hf : Aw p) {s : ByteArray} (hs : s.size < 4611686018427387904) (names : List ByteArray) (body : List Int) {m : Ms} (hm : m.list.length <= 400) (h : Rm m) : Rm (JW p s names body m) := by
 have hE : Tj (Gc p) := fun env v m h => LH hf _ env v m h
 have hG : FX (Gc p) := fun env v m h => FH p _ env v m h
 unfold JW
 refine ⟨?_,?_⟩
 ·refine Ac (Jh hE _ _ _ _ ?_) ?_
  ·exact h.1
  ·exact EE
 have a1 := D9 hG [names] body true ⟨m.list,m.defs ++ [⟨s,m.list.length,names.length⟩],Ij s m.defs m.how⟩ hm
 rw [(zD a1.four (inO 8)).defs,a1.defs]
 intro x hx
 rcases List.mem_append.1 hx with hx | hx
 ·exact h.2 x hx
 ·rw [List.mem_singleton.1 hx]; exact hs
theorem S6 {p : List Nd} (hf : Aw p) {v : Int} {m : Ms} (hm : m.list.length <= 400) (h : Rm m) : Rm (Mq p v m) := by
 unfold Mq
 simp only
 split
 ·split
  ·exact h
  ·split
   ·exact h
   ·split
    ·exact h
    ·exact Si hf (SM hf _) _ _ hm h
 ·exact Si hf (by decide) _ _ hm h
abbrev NB (r : Cd × Int × Int) : Option Ret := some (.tup [oCd r.1,iN r.2.1,iN r.2.2],[])
theorem NF {p : List Nd} (hp : z7 p) (hf : Aw p) (hl : p.length <= 5000) {xs : List Int} (hxl : xs.length <= 1000000) (hx : ∀ x ∈ xs,InP p x) : ∀ (k i : Nat) (m : Ms),i + k = xs.length -> m.list.length <= 400 -> m.defs.length <= i -> Rm m ->
  Ap (xs.map eI) (i : Int) m.how (p.map eN) (m.list.map eIn) (m.defs.map eDf) = NB (Dv p xs.length (xs.drop i) i m)
 | 0,i,m,hi,hm,hd,hs => by
  have hfc : FitsC ⟨p,m.list,m.defs⟩ := ⟨hf,by show p.length < _; omega,hs.1,by show m.list.length < _; omega,hs.2,by show m.defs.length < _; omega⟩
  have hok := EZ hfc
  rw [Ax,xb (by rw [lnM]; exact yr (by omega)),QR hok,List.drop_of_length_le (by omega),Dv,lnM]
  cases AU ⟨p,m.list,m.defs⟩ with
  | false => rw [Bool.not_false,yk,if_neg (by decide)]; rfl
  | true => rw [Bool.not_true,xJ,if_pos rfl]
 | k + 1,i,m,hi,hm,hd,hs => by
  obtain ⟨x,hg⟩ := xx (l := xs) (i := i) (by omega)
  have ht := WQ hp hl (hx x (List.mem_of_getElem? hg)) hm (by omega)
  have le := UZ (p := p) (v := x) hm
  have ih := NF hp hf hl hxl hx k (i + 1) (Mq p x m) (by omega) le.four (by have := le.defs; omega) (S6 hf hm hs)
  rw [Ax,xK (by rw [lnM]; exact yz (by omega)),yu (by rw [lnM]; exact yx (by omega)),Int.toNat_natCast,xW hg,ye,RT ht,tU hg,Dv,yM (by omega),ih]
  by_cases h3 : (Mq p x m).how = 3
  ·rw [xK (yF h3),if_pos h3]; rfl
  ·rw [xb (yE h3),if_neg h3]
   by_cases h0 : (Mq p x m).how = 0
   ·rw [xb (yG h0),if_neg (fun h => h h0)]; rfl
   ·rw [xK (yH h0),if_pos h0]; rfl
theorem Rt {p : List Nd} (hp : z7 p) (hf : Aw p) (hl : p.length <= 5000) {xs : List Int} (hxl : xs.length <= 1000000) (hx : ∀ x ∈ xs,InP p x) : Ck (xs.map eI) 0 0 (p.map eN) = NB (Dv p xs.length xs 0 ⟨[],[],0⟩) := by
 have hs : Rm ⟨[],[],0⟩ := ⟨fun x h => by simp at h,fun x h => by simp at h⟩
 have h := NF hp hf hl hxl hx xs.length 0 ⟨[],[],0⟩ (by omega) (by simp) (by simp) hs
 rw [Int.natCast_zero,List.drop_zero] at h
 rw [<- h,GY,Ax]
 rfl
theorem QC {p : List Nd} (hp : z7 p) (hf : Aw p) (hl : p.length <= 4999) {xs : List Int} (hxl : xs.length <= 1000000) : ∀ (k i : Nat),i + k = xs.length -> (∀ x ∈ xs.take i,wi x 0 ((p.length : Int) - 1) = true) ->
  Bj (xs.map eI) (i : Int) (p.map eN) = NB (if zw p (xs.drop i) = true then Dv p xs.length xs 0 ⟨[],[],0⟩ else (⟨[],[],[]⟩,3,0))
 | 0,i,hi,ht => by
  have hx : ∀ x ∈ xs,InP p x := fun x h => by
   have := wi_iff.1 (ht x (by rw [List.take_of_length_le (by omega)]; exact h))
   exact ⟨this.1,by omega⟩
  have hcp := Ve (p := p) (by omega)
  rw [Dk,xb (by rw [lnM]; exact yr (by omega)),zi hcp,Rt hp hf (by omega) hxl hx,List.drop_of_length_le (by omega),if_pos (by rfl)]
 | k + 1,i,hi,ht => by
  obtain ⟨x,hg⟩ := xx (l := xs) (i := i) (by omega)
  rw [Dk,xK (by rw [lnM]; exact yz (by omega)),yu (by rw [lnM]; exact yx (by omega)),Int.toNat_natCast,xW hg,ye,RN (Ew (by omega) x),tU hg,yM (by omega)]
  have er : zw p (x :: xs.drop (i + 1)) = (wi x 0 ((p.length : Int) - 1) && zw p (xs.drop (i + 1))) := rfl
  rw [er]
  cases hw : wi x 0 ((p.length : Int) - 1) with
  | false => rw [Bool.not_false,yk,Bool.false_and,if_neg (by decide)]; rfl
  | true =>
   have ih := QC hp hf hl hxl k (i + 1) (by omega) (fun y hy => by
    rw [List.take_add_one,hg] at hy
    rcases List.mem_append.1 hy with hy | hy
    ·exact ht y hy
    ·simp at hy; rw [hy]; exact hw)
   rw [Bool.not_true,xJ,Bool.true_and,ih]
theorem GK {p : List Nd} (hf : Aw p) (hl : p.length < 4611686018427387904) {xs : List Int} (hxl : xs.length <= 1000000) : V 193 [eP p,.rs (1,0) (xs.map eI)] = NB (Jl p xs) := by
 rw [MU,Ej (zr hf hl)]
 unfold Jl
 cases h : yW p with
 | false => rw [Bool.not_false,yk,if_neg (by simp)]; rfl
 | true =>
  obtain ⟨h1,h2⟩ := okPool_iff.1 h
  have hh := QC h1 hf (by omega) hxl xs.length 0 (by omega) (by simp)
  rw [Int.natCast_zero,List.drop_zero] at hh
  rw [Bool.not_true,xJ,hh]
  by_cases hr : zw p xs = true
  ·rw [if_pos hr,if_pos ⟨rfl,hr⟩]
  ·rw [if_neg hr,if_neg (fun h => hr h.2)]
end
end Go.Eng
/-! the functions as the interpreter has them -/
/-! what is drawn: the cursor -/
namespace Go.Eng
noncomputable section
open Go.Proofs Go.Proofs.Tryz

def eB (x : Int) : D := .int .u8 x
abbrev eC (b : List Int) (c : Int × Int) : D := .op [.rs (1,0) (b.map eB),iN c.1,iN c.2]
def zJ (b : List Int) (c : Int × Int) : Prop := 0 <= c.1 /\ c.1 <= b.length
theorem Ol (x : Int) : 0 <= w6 (ni (BitVec.toNat (BitVec.ofInt (IntKind.bits IntKind.i64) x &&& BitVec.ofInt (IntKind.bits IntKind.i64) 255))) /\ w6 (ni (BitVec.toNat (BitVec.ofInt (IntKind.bits IntKind.i64) x &&& BitVec.ofInt (IntKind.bits IntKind.i64) 255))) <= 255 := by
 have h : BitVec.toNat (BitVec.ofInt (IntKind.bits IntKind.i64) x &&& BitVec.ofInt (IntKind.bits IntKind.i64) 255) <= 255 := by
  rw [BitVec.toNat_and]
  exact Nat.le_trans Nat.and_le_right (by decide)
 rw [w64 (by simp only [ni]; omega) (by simp only [ni]; omega)]
 simp only [ni]; omega

section
variable {b : List Int} {c : Int × Int}
theorem Gj (hb : b.length < 4611686018427387904) (h : zJ b c) : ∃ v c',V 143 [eC b c] = some (iN v,[eC b c']) /\ zJ b c' /\ 0 <= v /\ v <= 255 := by
 obtain ⟨h1,h2⟩ := h
 rw [O5,yu (by decide),yu (by decide)]
 by_cases hi : c.1 < b.length
 ·obtain ⟨k,hk⟩ := Int.eq_ofNat_of_zero_le h1
  obtain ⟨x,hx⟩ := xx (l := b) (i := k) (by omega)
  rw [hk]
  rw [xK (by rw [lnM]; exact yz (by omega)),yu (by rw [lnM]; exact yx (by omega)),Int.toNat_natCast,xW hx]
  unfold eB
  rw [ye]
  refine ⟨_,(_,_),rfl,⟨?_,?_⟩,(Ol _).1,(Ol _).2⟩
  ·show 0 <= w6 ((k : Int) + 1)
   rw [w64 (by omega) (by omega)]; omega
  ·show w6 ((k : Int) + 1) <= _
   rw [w64 (by omega) (by omega)]; omega
 ·rw [xb (decide_eq_false (by simp only [ni,lnM]; omega))]
  exact ⟨_,(c.1,w6 (w6 (c.2 * 6364136223846793005) + 1442695040888963407)),rfl,⟨h1,h2⟩,(Ol _).1,(Ol _).2⟩

theorem JV (hb : b.length < 4611686018427387904) (h : zJ b c) (n : Int) : ∃ v c',V 76 [eC b c,iN n] = some (iN v,[eC b c']) /\ zJ b c' /\ 0 <= v /\ (0 < n -> v < n) := by
 rw [M8]
 by_cases hn : n <= 0
 ·rw [xK (by simpa using hn)]
  exact ⟨_,c,rfl,h,by omega,by omega⟩
 rw [xb (by simpa using hn)]
 by_cases h256 : n <= 256
 ·rw [xK (by simpa using h256)]
  obtain ⟨v,c1,hv,h1,hv1,hv2⟩ := Gj hb h
  rw [CI hv]
  try simp only [ye,xI,yi,yg,yh,xu,xw,yf,yb,yo,yA]
  rw [yu (by simp; omega)]
  exact ⟨_,c1,rfl,h1,Int.tmod_nonneg _ hv1,fun _ => Int.tmod_lt_of_pos _ (by omega)⟩
 ·rw [xb (by simpa using h256)]
  obtain ⟨v1,c1,hv1,a1,b1⟩ := Gj hb h
  obtain ⟨v2,c2,hv2,a2,b2⟩ := Gj hb a1
  obtain ⟨v3,c3,hv3,a3,b3⟩ := Gj hb a2
  obtain ⟨v4,c4,hv4,a4,b4⟩ := Gj hb a3
  rw [CI hv1,CI hv2,CI hv3,CI hv4]
  try simp only [ye,xI,yi,yg,yh,xu,xw,yf,yb,yo,yA]
  rw [yu (by simp; omega)]
  refine ⟨_,c4,rfl,a4,Int.tmod_nonneg _ ?_,fun _ => Int.tmod_lt_of_pos _ (by omega)⟩
  rw [w64 (n := v1 * 16777216) (by omega) (by omega),w64 (n := v2 * 65536) (by omega) (by omega),w64 (n := v3 * 256) (by omega) (by omega)]
  rw [w64 (n := v1 * 16777216 + v2 * 65536) (by omega) (by omega),w64 (n := v1 * 16777216 + v2 * 65536 + v3 * 256) (by omega) (by omega),w64 (by omega) (by omega)]
  omega

theorem Qb (hb : b.length < 4611686018427387904) (h : zJ b c) {l : List Int} (hl : 0 < l.length) : ∃ v c',V 122 [eC b c,.rs (1,0) (l.map (D.int .i64))] = some (iN v,[eC b c']) /\ zJ b c' /\ v ∈ l := by
 obtain ⟨v,c1,hv,a1,b1,b2⟩ := JV hb h (ni (l.map (D.int .i64)).length)
 rw [KW,JE hv]
 try simp only [ye,xI,yi,yg,yh,xu,xw,yf,yb,yo,yA]
 simp only [ni,lnM] at b2
 obtain ⟨k,rfl⟩ := Int.eq_ofNat_of_zero_le b1
 have hk : k < l.length := by have := b2 (by omega); omega
 obtain ⟨x,hx⟩ := xx hk
 rw [yu (by rw [lnM]; exact yx hk),Int.toNat_natCast,xW hx,ye]
 exact ⟨_,c1,rfl,a1,List.mem_of_getElem? hx⟩

theorem Um (hb : b.length < 4611686018427387904) (h : zJ b c) {l : List ByteArray} (hl : 0 < l.length) : ∃ v c',V 75 [eC b c,.rs (1,0) (l.map D.str)] = some (.str v,[eC b c']) /\ zJ b c' /\ v ∈ l := by
 obtain ⟨v,c1,hv,a1,b1,b2⟩ := JV hb h (ni (l.map D.str).length)
 rw [O7,JE hv]
 try simp only [ye,xI,yi,yg,yh,xu,xw,yf,yb,yo,yA]
 simp only [ni,lnM] at b2
 obtain ⟨k,rfl⟩ := Int.eq_ofNat_of_zero_le b1
 have hk : k < l.length := by have := b2 (by omega); omega
 obtain ⟨x,hx⟩ := xx hk
 rw [yu (by rw [lnM]; exact yx hk),Int.toNat_natCast,xW hx,yi]
 exact ⟨_,c1,rfl,a1,List.mem_of_getElem? hx⟩

theorem QI (hb : b.length < 4611686018427387904) : ∀ (k i : Nat) (h : Int),i + k = b.length -> ∃ h',Cq (b.map eB) h (i : Int) = some (eC b (0,h'),[])
 | 0,i,h,hi => by
  rw [Fg,xb (by rw [lnM]; exact yr (by omega))]
  exact ⟨_,rfl⟩
 | k + 1,i,h,hi => by
  obtain ⟨x,hx⟩ := xx (l := b) (i := i) (by omega)
  rw [Fg,xK (by rw [lnM]; exact yz (by omega)),yu (by rw [lnM]; exact yx (by omega)),Int.toNat_natCast,xW hx]
  cases h4 : decide ((i : Int) < 4000) with
  | false => exact ⟨_,rfl⟩
  | true =>
   unfold eB
   rw [yk,ye,yM (by omega)]
   exact QI hb k (i + 1) _ (by omega)
theorem Vv (hb : b.length < 4611686018427387904) : ∃ c,V 51 [.rs (1,0) (b.map eB)] = some (eC b c,[]) /\ zJ b c := by
 rw [Qm]
 obtain ⟨h',he⟩ := QI hb b.length 0 (w6 (17000 + ni (List.length (b.map eB)))) (by omega)
 exact ⟨(0,h'),he,Int.le_refl _,Int.natCast_nonneg _⟩
end
theorem WO (b : List Int) : V 12 [.rs (1,0) (b.map eB)] = some (.bool (decide ((b.length : Int) > 1048576)),[]) := by
 rw [Tn,lnM]
set_option maxRecDepth 100000 in
theorem Uj {x : D} (h : ShapeV prog 22 x) : ∃ b : List Int,x = .rs (1,0) (b.map eB) /\ b.length < 4611686018427387904 := by
 obtain ⟨ys,hs,rfl⟩ := h
 obtain ⟨bs,rfl,h1,h2⟩ := hs.slice Tryz.underlying22 (show zOf prog 5 = some (1,0) by kernel_rfl)
 obtain ⟨l,rfl,-⟩ := sw (enc := eB) (p := fun _ => True) (ys := bs) (fun x hx => by
  obtain ⟨ps,hs,rfl⟩ := h2 x hx
  obtain ⟨n,rfl,_⟩ := hs.int Tryz.underlying5
  exact ⟨n,sn Tryz.underlying5,trivial⟩)
 have hby : prog.bytesOf 5 = 1 := by kernel_rfl
 have hr : reachBytes = 140737488351232 := rfl
 rw [hby,lnM] at h1
 exact ⟨l,by rw [wv Tryz.underlying22],by omega⟩
end
end Go.Eng
/-! draws: what is drawn fits,and the cursor goes on -/
namespace Go.Eng
noncomputable section
open Go.Proofs Go.Proofs.Tryz

def Got (P : D -> List D -> Prop) (r : Option Ret) : Prop := ∃ v l,r = some (v,l) /\ P v l
theorem Tp {r s : Option Ret} (h : r = s) (P : D -> List D -> Prop) : Got P r = Got P s := by rw [h]
attribute [congr] Tp
section
variable {P Q : D -> List D -> Prop}
theorem Uz {v : D} {l : List D} (h : P v l) : Got P (some (v,l)) := ⟨v,l,rfl,h⟩
theorem zg {b : Bool} {x y : Option Ret} (h1 : b = true -> Got P x) (h2 : b = false -> Got P y) : Got P (br b x y) := by
 cases b with
 | true => exact h1 rfl
 | false => exact h2 rfl
theorem Ay {b : Bool} {x : Option Ret} (h : b = true) (h1 : Got P x) : Got P (grd b x) := by rw [yu h]; exact h1
theorem Lg {v : D} {l : List D} {f : Nat} {ds : List D} {K : D -> List D -> Option Ret} (h : V f ds = some (v,l)) (h2 : Got P (K v l)) : Got P (jb V f ds K) := by
 rw [xh h]; exact h2
end
abbrev CN (b : List Int) (Q : D -> Prop) : Option Ret -> Prop := Got (fun v l => ∃ c',l = [eC b c'] /\ zJ b c' /\ Q v)
section
variable {b : List Int} {Q : D -> Prop} {P : D -> List D -> Prop}
theorem yQ {f : Nat} {ds : List D} {K : D -> List D -> Option Ret} (h : CN b Q (V f ds)) (h2 : ∀ v c',zJ b c' -> Q v -> Got P (K v [eC b c'])) : Got P (jb V f ds K) := by
 obtain ⟨v,l,e,c',rfl,hc,hq⟩ := h
 rw [xh e]; exact h2 v c' hc hq
theorem yV {v : D} {c' : Int × Int} (h : zJ b c') (hq : Q v) : CN b Q (some (v,[eC b c'])) := ⟨v,_,rfl,c',rfl,h,hq⟩
theorem JX {Q' : D -> Prop} {r : Option Ret} (h : CN b Q r) (h2 : ∀ v,Q v -> Q' v) : CN b Q' r := by
 obtain ⟨v,l,e,c',e2,hc,hq⟩ := h
 exact ⟨v,l,e,c',e2,hc,h2 v hq⟩
end
theorem DB : (⟨#[]⟩ : ByteArray).size <= 100 := by decide
def Wy (n : Int) (v : D) : Prop := ∃ m : Int,v = iN m /\ 0 <= m /\ (0 < n -> m < n)
def IsB (v : D) : Prop := ∃ m : Bool,v = .bool m
section
variable {b : List Int} {c : Int × Int}
theorem y9 (hb : b.length < 4611686018427387904) (h : zJ b c) (n : Int) : CN b (Wy n) (V 76 [eC b c,iN n]) := by
 obtain ⟨v,c',e,h1,h2,h3⟩ := JV hb h n
 exact ⟨_,_,e,c',rfl,h1,v,rfl,h2,h3⟩
theorem GQ (hb : b.length < 4611686018427387904) (h : zJ b c) (n : Int) : CN b IsB (V 155 [eC b c,iN n]) := by
 rw [O6]
 refine yQ (y9 hb h n) fun v c1 a1 ⟨m,e,_⟩ => ?_
 subst e
 simp (disch := first | omega | (simp only [lnA,lnC,lnN,lnM,yO,wY]; omega)) only [↓yo,↓yb,↓ye,↓yh,↓yf]
 exact yV a1 ⟨_,rfl⟩
theorem Lv (hb : b.length < 4611686018427387904) (h : zJ b c) (l : List Int) (hl : 0 < l.length) : CN b (fun v => ∃ m : Int,v = iN m /\ m ∈ l) (V 122 [eC b c,.rs (1,0) (l.map (D.int .i64))]) := by
 obtain ⟨v,c',e,h1,h2⟩ := Qb hb h hl
 exact ⟨_,_,e,c',rfl,h1,v,rfl,h2⟩
theorem Dc (hb : b.length < 4611686018427387904) (h : zJ b c) (l : List ByteArray) (hl : 0 < l.length) : CN b (fun v => ∃ m : ByteArray,v = .str m /\ m ∈ l) (V 75 [eC b c,.rs (1,0) (l.map D.str)]) := by
 obtain ⟨v,c',e,h1,h2⟩ := Um hb h hl
 exact ⟨_,_,e,c',rfl,h1,v,rfl,h2⟩

def Vt (v : D) : Prop := ∃ x : Nd,v = eN x /\ x.s.size <= 100
theorem Vw (hb : b.length < 4611686018427387904) (h : zJ b c) : CN b Vt (V 201 [eC b c]) := by
 rw [J5]
 refine yQ (y9 hb h _) fun v c1 a1 ⟨m,e,m0,m1⟩ => ?_
 subst e
 simp (disch := first | omega | (simp only [lnA,lnC,lnN,lnM,yO,wY]; omega)) only [↓yo,↓yb,↓ye,↓yh,↓yf]
 refine zg (fun _ => yV a1 ⟨⟨_,_,_,_,_⟩,rfl,DB⟩) fun _ => zg (fun _ => ?_) fun _ => zg (fun _ => ?_) fun _ => zg (fun _ => ?_) fun _ => zg (fun _ => ?_) fun _ => ?_
 ·refine yQ (y9 hb a1 _) fun v c2 a2 ⟨m,e,m0,m1⟩ => ?_
  subst e
  simp (disch := first | omega | (simp only [lnA,lnC,lnN,lnM,yO,wY]; omega)) only [↓yo,↓yb,↓ye,↓yh,↓yf]
  exact yV a2 ⟨⟨_,_,_,_,_⟩,rfl,DB⟩
 ·refine yQ (Dc hb a1 [⟨#[97]⟩,⟨#[98,99]⟩,⟨#[120]⟩,⟨#[102]⟩,⟨#[43]⟩,⟨#[108,105,115,116]⟩] (by simp)) fun v c2 a2 ⟨m,e,hm⟩ => ?_
  subst e
  simp (disch := first | omega | (simp only [lnA,lnC,lnN,lnM,yO,wY]; omega)) only [↓yo,↓yb,↓ye,↓yi,↓yh,↓yf]
  refine yV a2 ⟨⟨_,_,m,_,_⟩,rfl,?_⟩
  simp only [List.mem_cons,List.not_mem_nil,or_false] at hm
  rcases hm with rfl | rfl | rfl | rfl | rfl | rfl <;> decide
 all_goals
  refine yQ (y9 hb a1 _) fun v c2 a2 ⟨m,e,m0,m1⟩ => ?_
  subst e
  simp (disch := first | omega | (simp only [lnA,lnC,lnN,lnM,yO,wY]; omega)) only [↓yo,↓yb,↓ye,↓yh,↓yf]
  exact yV a2 ⟨⟨_,_,_,_,_⟩,rfl,DB⟩
theorem Sk (hb : b.length < 4611686018427387904) (h : zJ b c) (n : Int) : CN b Vt (V 197 [eC b c,iN n]) := by
 have hat : ∀ {c : Int × Int},zJ b c -> CN b Vt (V 201 [eC b c]) := fun h => Vw hb h
 rw [J6]
 refine zg (fun _ => ?_) fun _ => ?_
 ·refine yQ (hat h) fun v c1 a1 ⟨x,e,hx⟩ => ?_
  subst e
  simp (disch := first | omega | (simp only [lnA,lnC,lnN,lnM,yO,wY]; omega)) only [↓yo,↓yb,↓ye,↓yi,↓yh,↓xu,↓yf]
  exact yV a1 ⟨x,rfl,hx⟩
 refine yQ (GQ hb h 2) fun v c1 a1 ⟨o,e⟩ => ?_
 subst e
 simp (disch := first | omega | (simp only [lnA,lnC,lnN,lnM,yO,wY]; omega)) only [↓yo,↓yb,↓ye,↓xI,↓yh,↓yf]
 refine zg (fun _ => ?_) fun _ => ?_
 ·refine yQ (hat a1) fun v c1 a1 ⟨x,e,hx⟩ => ?_
  subst e
  simp (disch := first | omega | (simp only [lnA,lnC,lnN,lnM,yO,wY]; omega)) only [↓yo,↓yb,↓ye,↓yi,↓yh,↓xu,↓yf]
  exact yV a1 ⟨x,rfl,hx⟩
 refine Lg (Tg _ _) ?_
 simp (disch := first | omega | (simp only [lnA,lnC,lnN,lnM,yO,wY]; omega)) only [↓yo,↓ye]
 refine yQ (y9 hb a1 _) fun v c2 a2 ⟨m,e,m0,m1⟩ => ?_
 subst e
 simp (disch := first | omega | (simp only [lnA,lnC,lnN,lnM,yO,wY]; omega)) only [↓yo,↓yb,↓ye,↓yh,↓yf]
 refine yQ (y9 hb a2 _) fun v c3 a3 ⟨m3,e,_,_⟩ => ?_
 subst e
 simp (disch := first | omega | (simp only [lnA,lnC,lnN,lnM,yO,wY]; omega)) only [↓yo,↓yb,↓ye,↓yh,↓yf]
 refine zg (fun _ => ?_) fun _ => zg (fun _ => yV a3 ⟨⟨_,_,_,_,_⟩,rfl,DB⟩) fun _ => ?_
 ·refine yQ (y9 hb a3 _) fun v c4 a4 ⟨m4,e,_,_⟩ => ?_
  subst e
  simp (disch := first | omega | (simp only [lnA,lnC,lnN,lnM,yO,wY]; omega)) only [↓yo,↓yb,↓ye,↓yh,↓yf]
  exact yV a4 ⟨⟨_,_,_,_,_⟩,rfl,DB⟩
 refine Lg (Tg _ _) ?_
 simp (disch := first | omega | (simp only [lnA,lnC,lnN,lnM,yO,wY]; omega)) only [↓yo,↓ye]
 refine yQ (y9 hb a3 _) fun v c4 a4 ⟨m4,e,_,_⟩ => ?_
 subst e
 simp (disch := first | omega | (simp only [lnA,lnC,lnN,lnM,yO,wY]; omega)) only [↓yo,↓yb,↓ye,↓yh,↓yf]
 exact yV a4 ⟨⟨_,_,_,_,_⟩,rfl,DB⟩
def Rl (p : List Nd) : Prop := ∀ x ∈ p,x.s.size <= 100
theorem TT {p : List Nd} (h : Rl p) : Aw p := fun x hx => by have := h x hx; omega
def Rk (v : D) : Prop := ∃ p : List Nd,v = oP p /\ Rl p /\ (p.length <= 15 \/ (p.length <= 3001 /\ ∀ x ∈ p,x.kind = 1))
theorem Il (hb : b.length < 4611686018427387904) {n : Int} (hn : n < 16) : ∀ (k i : Nat) (c : Int × Int) (p : List Nd),(i : Int) + k = n -> zJ b c -> Rl p -> p.length <= i -> 0 < i -> CN b (fun v => ∃ p : List Nd,v = oP p /\ Rl p /\ p.length <= 15) (zP n (i : Int) (b.map eB) c.1 c.2 (p.map eN))
 | 0,i,c,p,hi,hc,hp,hl,h0 => by
  rw [AX]
  simp (disch := first | omega | (simp only [lnA,lnC,lnN,lnM,yO,wY]; omega)) only [↓xJ,yI]
  exact yV hc ⟨p,rfl,hp,by omega⟩
 | k + 1,i,c,p,hi,hc,hp,hl,h0 => by
  rw [AX,xK (decide_eq_true (by omega))]
  refine yQ (Sk hb hc _) fun v c1 a1 ⟨x,e,hx⟩ => ?_
  subst e
  simp (disch := first | omega | (simp only [lnA,lnC,lnN,lnM,yO,wY]; omega)) only [↓wZ,xi,↓yo,↓yb,↓ye,↓yi,↓yg,↓yh,↓xu,↓yf,wS,Cy (p := p) (by omega) x]
  refine Il hb hn k (i + 1) c1 (p ++ [x]) (by omega) a1 ?_ (by simp; omega) (by omega)
  intro y hy
  rcases List.mem_append.1 hy with hy | hy
  ·exact hp y hy
  ·simp at hy; subst hy; exact hx
theorem Uo (hb : b.length < 4611686018427387904) (h : zJ b c) : CN b (fun v => ∃ p : List Nd,v = oP p /\ Rl p /\ p.length <= 15) (V 154 [eC b c]) := by
 rw [Jr]
 refine yQ (y9 hb h _) fun v c1 a1 ⟨m,e,m0,m1⟩ => ?_
 subst e
 have := m1 (by omega)
 simp (disch := first | omega | (simp only [lnA,lnC,lnN,lnM,yO,wY]; omega)) only [↓yo,↓yb,↓ye,↓yh,↓yf]
 rw [FF]
 refine zg (fun h0 => ?_) fun _ => yV a1 ⟨[],rfl,fun x hx => by simp at hx,by simp⟩
 have h0 := of_decide_eq_true h0
 refine yQ (Sk hb a1 _) fun v c2 a2 ⟨x,e,hx⟩ => ?_
 subst e
 have ha : V 158 [.op [.os (5,0) []],eN x] = some (iN 0,[rP [x]]) := Cy (p := []) (by simp) x
 simp (disch := first | omega | (simp only [lnA,lnC,lnN,lnM,yO,wY]; omega)) only [↓wZ,xi,↓yo,↓yb,↓ye,↓yi,↓yg,↓yh,↓xu,↓yf,Int.reduceAdd,wS,ha]
 obtain ⟨k,hk⟩ := Int.eq_ofNat_of_zero_le (show 0 <= m - 1 by omega)
 exact Il hb (by omega) k 1 c2 [x] (by simp; omega) a2 (by simpa [Rl] using hx) (by simp) (by omega)
theorem Uq (hb : b.length < 4611686018427387904) (h : zJ b c) {x : Nd} (hx : x.s.size <= 100) : CN b Vt (V 156 [eC b c,eN x]) := by
 rw [M9]
 refine yQ (y9 hb h _) fun v c1 a1 ⟨m,e,m0,m1⟩ => ?_
 subst e
 simp (disch := first | omega | (simp only [lnA,lnC,lnN,lnM,yO,wY]; omega)) only [↓yo,↓yb,↓ye,↓yh,↓yf]
 refine zg (fun _ => ?_) fun _ => zg (fun _ => ?_) fun _ => zg (fun _ => ?_) fun _ => zg (fun _ => ?_) fun _ => zg (fun _ => ?_) fun _ => yV a1 ⟨x,rfl,hx⟩
 ·refine yQ (y9 hb a1 _) fun v c2 a2 ⟨m2,e,_,_⟩ => ?_
  subst e
  simp (disch := first | omega | (simp only [lnA,lnC,lnN,lnM,yO,wY]; omega)) only [↓yo,↓yb,↓ye,↓yh,↓yf]
  exact yV a2 ⟨⟨m2,x.n,x.s,x.a,x.b⟩,rfl,hx⟩
 ·refine yQ (y9 hb a1 _) fun v c2 a2 ⟨m2,e,_,h2⟩ => ?_
  subst e
  have := h2 (by omega)
  simp (disch := first | omega | (simp only [lnA,lnC,lnN,lnM,yO,wY]; omega)) only [↓yo,↓yb,↓ye,↓yh,↓yf]
  exact yV a2 ⟨⟨x.kind,x.n,x.s,w6 (m2 - 1),x.b⟩,rfl,hx⟩
 ·refine yQ (y9 hb a1 _) fun v c2 a2 ⟨m2,e,_,h2⟩ => ?_
  subst e
  have := h2 (by omega)
  simp (disch := first | omega | (simp only [lnA,lnC,lnN,lnM,yO,wY]; omega)) only [↓yo,↓yb,↓ye,↓yh,↓yf]
  exact yV a2 ⟨⟨x.kind,x.n,x.s,x.a,w6 (m2 - 1)⟩,rfl,hx⟩
 ·refine yQ (Lv hb a1 [-1,2,99,100,1000000000,1000000001,-1000000000,-1000000001] (by simp)) fun v c2 a2 ⟨m2,e,_⟩ => ?_
  subst e
  simp (disch := first | omega | (simp only [lnA,lnC,lnN,lnM,yO,wY]; omega)) only [↓yo,↓yb,↓ye,↓yh,↓yf]
  exact yV a2 ⟨⟨x.kind,m2,x.s,x.a,x.b⟩,rfl,hx⟩
 ·refine yQ (Dc hb a1 [⟨#[]⟩,⟨#[97]⟩,⟨#[65,98]⟩,⟨#[97,98,99,100,101,102,103,104,105,106,107,108]⟩,⟨#[97,98,99,100,101,102,103,104,105,106,107,108,109]⟩,⟨#[97,49]⟩] (by simp)) fun v c2 a2 ⟨m2,e,hm⟩ => ?_
  subst e
  simp (disch := first | omega | (simp only [lnA,lnC,lnN,lnM,yO,wY]; omega)) only [↓yo,↓yb,↓ye,↓yi,↓yh,↓yf]
  refine yV a2 ⟨⟨x.kind,x.n,m2,x.a,x.b⟩,rfl,?_⟩
  show m2.size <= 100
  simp only [List.mem_cons,List.not_mem_nil,or_false] at hm
  rcases hm with rfl | rfl | rfl | rfl | rfl | rfl <;> decide
theorem Sj (hb : b.length < 4611686018427387904) (h : zJ b c) {N : Nat} (hN : N <= 3001) : ∀ (k i : Nat) (q : List Nd),i + k = N -> q.length = N -> Rl q -> (∀ (j : Nat) (x : Nd),j < i -> q[j]? = some x -> x.kind = 1) -> CN b Rk (zO (i : Int) (b.map eB) c.1 c.2 (q.map eN))
 | 0,i,q,hi,hq,hs,hk => by
  rw [D0]
  simp (disch := first | omega | (simp only [lnA,lnC,lnN,lnM,yO,wY]; omega)) only [↓xJ,yI,lnM,wY]
  refine yV h ⟨q,rfl,hs,.inr ⟨by omega,fun x hx => ?_⟩⟩
  obtain ⟨j,hj⟩ := List.getElem?_of_mem hx
  exact hk j x (by have := aQ hj; omega) hj
 | k + 1,i,q,hi,hq,hs,hk => by
  obtain ⟨x,hx⟩ := xx (l := q) (i := i) (by omega)
  have e : (D.agg (List.take 0 [iN x.kind,iN x.n,.str x.s,iN x.a,iN x.b] ++ [iN 1] ++ List.drop 1 [iN x.kind,iN x.n,.str x.s,iN x.a,iN x.b])) = eN ⟨1,x.n,x.s,x.a,x.b⟩ := rfl
  rw [D0,xK (decide_eq_true (by rw [lnM]; simp only [ni]; omega)),yu (by rw [lnM]; exact yx (by omega)),Int.toNat_natCast,xW hx,xu,yA,yM (by omega),e,<- List.map_set]
  refine Sj hb h hN k (i + 1) _ (by omega) (by simp; omega) ?_ ?_
  ·intro y hy
   rcases List.mem_or_eq_of_mem_set hy with hy | hy
   ·exact hs y hy
   ·rw [hy]; exact hs x (List.mem_of_getElem? hx)
  ·intro j y hj hy
   by_cases e : i = j
   ·subst e
    rw [List.getElem?_set_self (by omega)] at hy
    cases hy; rfl
   ·rw [List.getElem?_set_ne e] at hy
    exact hk j y (by omega) hy
theorem Vx (hb : b.length < 4611686018427387904) (h : zJ b c) : CN b Rk (V 90 [eC b c]) := by
 have fin : ∀ {c : Int × Int} {k : Nat},zJ b c -> k < 2 -> CN b Rk (grd (decide (0 <= w6 (3000 + (k : Int))) && decide (w6 (3000 + (k : Int)) <= LIM)) (zO 0 (b.map eB) c.1 c.2 (List.replicate (Int.toNat (w6 (3000 + (k : Int)))) (D.agg [iN 0,iN 0,D.str ⟨#[]⟩,iN 0,iN 0])))) := by
  intro c k h hk
  rw [w64 (by omega) (by omega),yu (by rw [pE]; simp only [Bool.and_eq_true,decide_eq_true_eq]; omega)]
  have e2 : (3000 + (k : Int)).toNat = 3000 + k := by omega
  have e3 : List.replicate (3000 + k) (D.agg [iN 0,iN 0,D.str ⟨#[]⟩,iN 0,iN 0]) = (List.replicate (3000 + k) (⟨0,0,⟨#[]⟩,0,0⟩ : Nd)).map eN := by rw [List.map_replicate]
  rw [e2,e3]
  refine Sj hb h (N := 3000 + k) (by omega) (3000 + k) 0 _ (by omega) (by simp) ?_ (fun j x h _ => by omega)
  intro x hx
  rw [(List.mem_replicate.1 hx).2]
  exact DB
 rw [O8]
 refine yQ (Uo hb h) fun v c1 a1 ⟨p,e,hp,hl⟩ => ?_
 subst e
 simp (disch := first | omega | (simp only [lnA,lnC,lnN,lnM,yO,wY]; omega)) only [↓yo,↓yb,↓ye,↓yg,↓yh,↓xu,↓yf,↓yA]
 refine zg (fun h0 => ?_) fun _ => ?_
 ·have h0 := of_decide_eq_true h0
  rw [lnM] at h0
  refine yQ (GQ hb a1 12) fun v c2 a2 ⟨o,e⟩ => ?_
  subst e
  simp (disch := first | omega | (simp only [lnA,lnC,lnN,lnM,yO,wY]; omega)) only [↓yo,↓yb,↓ye,↓xI,↓yh,↓yf]
  refine zg (fun _ => ?_) fun _ => ?_
  ·refine yQ (y9 hb a2 _) fun v c3 a3 ⟨m,e,m0,m1⟩ => ?_
   subst e
   have hm := m1 (by rw [lnM]; exact h0)
   rw [lnM] at hm
   obtain ⟨k,hk⟩ := Int.eq_ofNat_of_zero_le m0
   subst hk
   obtain ⟨x,hx⟩ := xx (l := p) (i := k) (by simp only [ni] at hm; omega)
   simp (disch := first | omega | (simp only [lnA,lnC,lnN,lnM,yO,wY]; omega)) only [↓yo,↓yb,↓ye,↓yh,↓yf]
   rw [yu (by rw [lnM]; exact yx (by simp only [ni] at hm; omega)),Int.toNat_natCast,xW hx,xu,yb,ye,yb,ye,yb,yi,yb,ye,yb,ye,yo]
   refine yQ (Uq hb a3 (hp x (List.mem_of_getElem? hx))) fun v c4 a4 ⟨y,e,hy⟩ => ?_
   subst e
   simp (disch := first | omega | (simp only [lnA,lnC,lnN,lnM,yO,wY]; omega)) only [↓yo,↓yb,↓ye,↓yi,↓yh,↓xu,↓yf]
   rw [yu (by rw [lnM]; exact yx (by simp only [ni] at hm; omega)),xW hx]
   have e : List.set (p.map eN) k (D.agg [iN y.kind,iN y.n,.str y.s,iN y.a,iN y.b]) = (p.set k y).map eN := by rw [List.map_set]
   rw [e]
   refine yQ (GQ hb a4 60) fun v c5 a5 ⟨o,e⟩ => ?_
   subst e
   simp (disch := first | omega | (simp only [lnA,lnC,lnN,lnM,yO,wY]; omega)) only [↓yo,↓yb,↓ye,↓xI,↓yh,↓yf]
   refine zg (fun _ => ?_) fun _ => yV a5 ⟨p.set k y,rfl,?_,.inl (by simpa using hl)⟩
   ·refine yQ (y9 hb a5 _) fun v c6 a6 ⟨m,e,m0,m1⟩ => ?_
    subst e
    have := m1 (by omega)
    obtain ⟨k,hk⟩ := Int.eq_ofNat_of_zero_le m0
    subst hk
    simp (disch := first | omega | (simp only [lnA,lnC,lnN,lnM,yO,wY]; omega)) only [↓yo,↓yb,↓ye,↓yh,↓yf]
    exact fin a6 (by omega)
   ·intro z hz
    rcases List.mem_or_eq_of_mem_set hz with hz | hz
    ·exact hp z hz
    ·rw [hz]; exact hy
  ·refine yQ (GQ hb a2 60) fun v c5 a5 ⟨o,e⟩ => ?_
   subst e
   simp (disch := first | omega | (simp only [lnA,lnC,lnN,lnM,yO,wY]; omega)) only [↓yo,↓yb,↓ye,↓xI,↓yh,↓yf]
   refine zg (fun _ => ?_) fun _ => yV a5 ⟨p,rfl,hp,.inl hl⟩
   refine yQ (y9 hb a5 _) fun v c6 a6 ⟨m,e,m0,m1⟩ => ?_
   subst e
   have := m1 (by omega)
   obtain ⟨k,hk⟩ := Int.eq_ofNat_of_zero_le m0
   subst hk
   simp (disch := first | omega | (simp only [lnA,lnC,lnN,lnM,yO,wY]; omega)) only [↓yo,↓yb,↓ye,↓yh,↓yf]
   exact fin a6 (by omega)
 ·refine yQ (GQ hb a1 60) fun v c5 a5 ⟨o,e⟩ => ?_
  subst e
  simp (disch := first | omega | (simp only [lnA,lnC,lnN,lnM,yO,wY]; omega)) only [↓yo,↓yb,↓ye,↓xI,↓yh,↓yf]
  refine zg (fun _ => ?_) fun _ => yV a5 ⟨p,rfl,hp,.inl hl⟩
  refine yQ (y9 hb a5 _) fun v c6 a6 ⟨m,e,m0,m1⟩ => ?_
  subst e
  have := m1 (by omega)
  obtain ⟨k,hk⟩ := Int.eq_ofNat_of_zero_le m0
  subst hk
  simp (disch := first | omega | (simp only [lnA,lnC,lnN,lnM,yO,wY]; omega)) only [↓yo,↓yb,↓ye,↓yh,↓yf]
  exact fin a6 (by omega)
end
theorem UM {p : List Nd} (h : p.length <= 15 \/ (p.length <= 3001 /\ ∀ x ∈ p,x.kind = 1)) : p.length <= 3001 := by omega
end
end Go.Eng
/-! draws of programs: their texts -/
namespace Go.Eng
noncomputable section
open Go.Proofs Go.Proofs.Tryz
set_option maxHeartbeats 4000000
set_option maxRecDepth 10000

theorem zf (a b : ByteArray) : (a ++ b).size = a.size + b.size := ByteArray.size_append
theorem AK (a : Array UInt8) : ByteArray.size ⟨a⟩ = a.size := rfl
def Hd (s : ByteArray) : Prop := ∃ (x : UInt8) (r : List UInt8),s.data.toList = x :: r /\ x ≠ 32
theorem Gn {a : ByteArray} (h : Hd a) (b : ByteArray) : Hd (a ++ b) := by
 obtain ⟨x,r,h1,h2⟩ := h
 exact ⟨x,r ++ b.data.toList,by simp [h1],h2⟩
theorem DA (x : UInt8) (r : List UInt8) (h : x ≠ 32) : Hd ⟨(x :: r).toArray⟩ := ⟨x,r,by simp,h⟩
def Uf (n : Nat) (v : D) : Prop := ∃ s : ByteArray,v = .str s /\ s.size <= n /\ Hd s
def SzE : Nat -> Nat
 | 0 => 9
 | d + 1 => 3 * SzE d + 30
section
variable {b : List Int}
theorem WB (hb : b.length < 4611686018427387904) {c : Int × Int} (h : zJ b c) : CN b (Uf 9) (V 75 [eC b c,.rs (1,0) [(.str ({ data := #[49] })),(.str ({ data := #[120] })),(.str ({ data := #[121] })),(.str ({ data := #[45,50] })),(.str ({ data := #[35,116] })),(.str ({ data := #[40,41] })),(.str ({ data := #[102] })),(.str ({ data := #[40,113,117,111,116,101,32,97,41] })),(.str ({ data := #[48] }))]]) := by
 refine JX (Dc hb h [⟨#[49]⟩,⟨#[120]⟩,⟨#[121]⟩,⟨#[45,50]⟩,⟨#[35,116]⟩,⟨#[40,41]⟩,⟨#[102]⟩,⟨#[40,113,117,111,116,101,32,97,41]⟩,⟨#[48]⟩] (by simp)) ?_
 rintro v ⟨m,rfl,hm⟩
 refine ⟨m,rfl,?_⟩
 simp only [List.mem_cons,List.not_mem_nil,or_false] at hm
 rcases hm with rfl | rfl | rfl | rfl | rfl | rfl | rfl | rfl | rfl <;> exact ⟨by decide,DA _ _ (by decide)⟩
theorem WC (hb : b.length < 4611686018427387904) {c : Int × Int} (h : zJ b c) : CN b (Uf 4) (V 75 [eC b c,.rs (1,0) [(.str ({ data := #[43] })),(.str ({ data := #[45] })),(.str ({ data := #[42] })),(.str ({ data := #[60] })),(.str ({ data := #[61] })),(.str ({ data := #[99,111,110,115] })),(.str ({ data := #[101,113,63] }))]]) := by
 refine JX (Dc hb h [⟨#[43]⟩,⟨#[45]⟩,⟨#[42]⟩,⟨#[60]⟩,⟨#[61]⟩,⟨#[99,111,110,115]⟩,⟨#[101,113,63]⟩] (by simp)) ?_
 rintro v ⟨m,rfl,hm⟩
 refine ⟨m,rfl,?_⟩
 simp only [List.mem_cons,List.not_mem_nil,or_false] at hm
 rcases hm with rfl | rfl | rfl | rfl | rfl | rfl | rfl <;> exact ⟨by decide,DA _ _ (by decide)⟩
theorem WD (hb : b.length < 4611686018427387904) {c : Int × Int} (h : zJ b c) : CN b (Uf 6) (V 75 [eC b c,.rs (1,0) [(.str ({ data := #[99,97,114] })),(.str ({ data := #[99,100,114] })),(.str ({ data := #[110,117,108,108,63] })),(.str ({ data := #[112,97,105,114,63] })),(.str ({ data := #[110,111,116] })),(.str ({ data := #[99,97,108,108,99,99] }))]]) := by
 refine JX (Dc hb h [⟨#[99,97,114]⟩,⟨#[99,100,114]⟩,⟨#[110,117,108,108,63]⟩,⟨#[112,97,105,114,63]⟩,⟨#[110,111,116]⟩,⟨#[99,97,108,108,99,99]⟩] (by simp)) ?_
 rintro v ⟨m,rfl,hm⟩
 refine ⟨m,rfl,?_⟩
 simp only [List.mem_cons,List.not_mem_nil,or_false] at hm
 rcases hm with rfl | rfl | rfl | rfl | rfl | rfl <;> exact ⟨by decide,DA _ _ (by decide)⟩
theorem Wg : ∀ d,d <= 3 -> SzE d <= 633 := by decide
theorem VW : ∀ d,9 <= SzE d
 | 0 => Nat.le_refl _
 | d + 1 => by have := VW d; unfold SzE; omega
theorem Ui : ∀ d,SzE (d - 1) <= SzE d
 | 0 => Nat.le_refl _
 | d + 1 => by simp only [Nat.add_sub_cancel]; rw [show SzE (d + 1) = 3 * SzE d + 30 from rfl]; omega
theorem Oq (hb : b.length < 4611686018427387904) : ∀ (k : Nat) (n : Int),n <= k -> -5 <= n -> k <= 3 -> ∀ c,zJ b c -> CN b (Uf (SzE n.toNat)) (V 214 [eC b c,iN n])
 | k,n,hk,hn,h3,c,hc => by
  rw [J9]
  by_cases h0 : n <= 0
  ·rw [xK (decide_eq_true h0)]
   refine yQ (WB hb hc) fun v c1 a1 ⟨s,e,hs,hh⟩ => ?_
   subst e
   simp (disch := first | omega | (simp only [lnA,lnC,lnN,lnM,yO,wY]; omega)) only [↓yo,↓yb,↓ye,↓yi,↓yh,↓yf]
   exact yV a1 ⟨s,rfl,by have := VW n.toNat; omega,hh⟩
  ·rw [xb (decide_eq_false h0)]
   obtain ⟨k,rfl⟩ : ∃ j,k = j + 1 := ⟨k - 1,by omega⟩
   have w1 : w6 (n - 1) = n - 1 := w64 (by omega) (by omega)
   have w2 : w6 (n - 2) = n - 2 := w64 (by omega) (by omega)
   obtain ⟨d,hd⟩ : ∃ d,n.toNat = d + 1 := ⟨n.toNat - 1,by omega⟩
   have e1 : (n - 1).toNat = d := by omega
   have e2 : (n - 2).toNat = d - 1 := by omega
   have hz : SzE n.toNat = 3 * SzE d + 30 := by rw [hd]; rfl
   have hp := Ui d
   have hm := Wg d (by omega)
   have i1 := fun c a => Oq hb k (n - 1) (by omega) (by omega) (by omega) c a
   have i2 := fun c a => Oq hb k (n - 2) (by omega) (by omega) (by omega) c a
   rw [e1] at i1
   rw [e2] at i2
   rw [w1,w2,hz]
   refine yQ (i1 c hc) fun v c1 a1 ⟨s,e,hs,hh⟩ => ?_
   subst e
   simp (disch := first | omega | (simp only [lnA,lnC,lnN,lnM,yO,wY]; omega)) only [↓yo,↓yb,↓ye,↓yi,↓yh,↓yf]
   refine yQ (i1 c1 a1) fun v c2 a2 ⟨t,e,ht,hh2⟩ => ?_
   subst e
   simp (disch := first | omega | (simp only [lnA,lnC,lnN,lnM,yO,wY]; omega)) only [↓yo,↓yb,↓ye,↓yi,↓yh,↓yf]
   refine yQ (y9 hb a2 _) fun v c3 a3 ⟨m,e,m0,m1⟩ => ?_
   subst e
   simp (disch := first | omega | (simp only [lnA,lnC,lnN,lnM,yO,wY]; omega)) only [↓yo,↓yb,↓ye,↓yh,↓yf]
   refine zg (fun _ => ?_) fun _ => zg (fun _ => ?_) fun _ => zg (fun _ => ?_) fun _ => zg (fun _ => ?_) fun _ => zg (fun _ => ?_) fun _ => zg (fun _ => ?_) fun _ => zg (fun _ => ?_) fun _ => zg (fun _ => ?_) fun _ => ?_
   ·repeat refine Ay (decide_eq_true (by rw [pE]; simp only [ni,zf,AK,List.size_toArray,lnC,lnN]; omega)) ?_
    refine yQ (i2 c3 a3) fun v c4 a4 ⟨u,e,hu,hh3⟩ => ?_
    subst e
    simp (disch := first | omega | (simp only [lnA,lnC,lnN,lnM,yO,wY]; omega)) only [↓yo,↓yb,↓ye,↓yi,↓yh,↓yf]
    repeat refine Ay (decide_eq_true (by rw [pE]; simp only [ni,zf,AK,List.size_toArray,lnC,lnN]; omega)) ?_
    exact yV a4 ⟨_,rfl,by simp only [zf,AK,List.size_toArray,lnC,lnN]; omega,by repeat (first | exact DA _ _ (by decide) | refine Gn ?_ _)⟩
   ·repeat refine Ay (decide_eq_true (by rw [pE]; simp only [ni,zf,AK,List.size_toArray,lnC,lnN]; omega)) ?_
    exact yV a3 ⟨_,rfl,by simp only [zf,AK,List.size_toArray,lnC,lnN]; omega,by repeat (first | exact DA _ _ (by decide) | refine Gn ?_ _)⟩
   ·repeat refine Ay (decide_eq_true (by rw [pE]; simp only [ni,zf,AK,List.size_toArray,lnC,lnN]; omega)) ?_
    exact yV a3 ⟨_,rfl,by simp only [zf,AK,List.size_toArray,lnC,lnN]; omega,by repeat (first | exact DA _ _ (by decide) | refine Gn ?_ _)⟩
   ·repeat refine Ay (decide_eq_true (by rw [pE]; simp only [ni,zf,AK,List.size_toArray,lnC,lnN]; omega)) ?_
    exact yV a3 ⟨_,rfl,by simp only [zf,AK,List.size_toArray,lnC,lnN]; omega,by repeat (first | exact DA _ _ (by decide) | refine Gn ?_ _)⟩
   ·repeat refine Ay (decide_eq_true (by rw [pE]; simp only [ni,zf,AK,List.size_toArray,lnC,lnN]; omega)) ?_
    exact yV a3 ⟨_,rfl,by simp only [zf,AK,List.size_toArray,lnC,lnN]; omega,by repeat (first | exact DA _ _ (by decide) | refine Gn ?_ _)⟩
   ·repeat refine Ay (decide_eq_true (by rw [pE]; simp only [ni,zf,AK,List.size_toArray,lnC,lnN]; omega)) ?_
    exact yV a3 ⟨_,rfl,by simp only [zf,AK,List.size_toArray,lnC,lnN]; omega,by repeat (first | exact DA _ _ (by decide) | refine Gn ?_ _)⟩
   ·refine yQ (WC hb a3) fun v c4 a4 ⟨u,e,hu,hh3⟩ => ?_
    subst e
    simp (disch := first | omega | (simp only [lnA,lnC,lnN,lnM,yO,wY]; omega)) only [↓yo,↓yb,↓ye,↓yi,↓yh,↓yf]
    repeat refine Ay (decide_eq_true (by rw [pE]; simp only [ni,zf,AK,List.size_toArray,lnC,lnN]; omega)) ?_
    exact yV a4 ⟨_,rfl,by simp only [zf,AK,List.size_toArray,lnC,lnN]; omega,by repeat (first | exact DA _ _ (by decide) | refine Gn ?_ _)⟩
   ·refine yQ (WD hb a3) fun v c4 a4 ⟨u,e,hu,hh3⟩ => ?_
    subst e
    simp (disch := first | omega | (simp only [lnA,lnC,lnN,lnM,yO,wY]; omega)) only [↓yo,↓yb,↓ye,↓yi,↓yh,↓yf]
    repeat refine Ay (decide_eq_true (by rw [pE]; simp only [ni,zf,AK,List.size_toArray,lnC,lnN]; omega)) ?_
    exact yV a4 ⟨_,rfl,by simp only [zf,AK,List.size_toArray,lnC,lnN]; omega,by repeat (first | exact DA _ _ (by decide) | refine Gn ?_ _)⟩
   ·exact yV a3 ⟨s,rfl,by omega,hh⟩
def texts : List ByteArray := [(⟨#[40,100,101,102,105,110,101,32,40,102,32,110,41,32,40,105,102,32,40,60,32,110,32,50,41,32,110,32,40,43,32,40,102,32,40,45,32,110,32,49,41,41,32,40,102,32,40,45,32,110,32,50,41,41,41,41,41,32,40,102,32,54,41]⟩ : ByteArray),(⟨List.toArray (List.append [40,100,101,102,105,110,101,32,40,117,112,32,110,41,32,40,105,102,32,40,60,32,110,32,51,41,32,40,100,111,32,40] [112,114,105,110,116,32,110,41,32,40,117,112,32,40,43,32,110,32,49,41,41,41,32,110,41,41,32,40,117,112,32,48,41])⟩ : ByteArray),(⟨#[40,108,101,116,32,120,32,53,32,40,108,101,116,32,102,32,40,102,110,32,40,121,41,32,40,43,32,120,32,121,41,41,32,40,112,114,105,110,116,32,40,102,32,52,41,41,41,41]⟩ : ByteArray),(⟨#[40,112,114,105,110,116,32,40,99,97,108,108,99,99,32,40,102,110,32,40,107,41,32,40,100,111,32,40,107,32,55,41,32,56,41,41,41,41]⟩ : ByteArray),(⟨List.toArray (List.append [40,100,101,102,105,110,101,32,40,109,97,112,32,102,32,108,41,32,40,105,102,32,40,110,117,108,108,63,32,108,41,32,40,41,32,40,99,111,110,115,32,40,102,32,40,99,97,114,32,108,41,41,32,40,109,97,112,32,102] [32,40,99,100,114,32,108,41,41,41,41,41,32,40,112,114,105,110,116,32,40,109,97,112,32,40,102,110,32,40,120,41,32,40,42,32,120,32,120,41,41,32,40,113,117,111,116,101,32,40,49,32,50,32,51,41,41,41,41])⟩ : ByteArray),(⟨#[40,100,111,32,40,115,112,97,119,110,32,40,102,110,32,40,41,32,40,100,111,32,40,112,114,105,110,116,32,49,41,32,40,112,114,105,110,116,32,50,41,41,41,41,32,40,112,114,105,110,116,32,51,41,41]⟩ : ByteArray),(⟨List.toArray (List.append [40,108,101,116,32,112,32,40,115,112,97,119,110,32,40,102,110,32,40,41,32,40,112,114,105,110,116,32,40,114,101,99,118,41] [41,41,41,32,40,100,111,32,40,115,101,110,100,32,112,32,40,113,117,111,116,101,32,40,97,32,98,41,41,41,32,48,41,41])⟩ : ByteArray),(⟨List.toArray (List.append [40,108,101,116,32,112,32,40,115,112,97,119,110,32,40,102,110,32,40,41,32,40,108,101,116,32,102,32,40,114,101,99,118,41,32,40,112,114,105,110,116,32,40,102] [32,53,41,41,41,41,41,32,40,108,101,116,32,122,32,57,32,40,115,101,110,100,32,112,32,40,102,110,32,40,120,41,32,40,43,32,120,32,122,41,41,41,41,41])⟩ : ByteArray),(⟨#[40,100,111,32,40,112,114,105,110,116,32,49,41,32,40,103,111,32,49,41,32,40,112,114,105,110,116,32,50,41,32,40,103,111,32,48,41,32,40,112,114,105,110,116,32,51,41,41]⟩ : ByteArray),(⟨List.toArray (List.append [40,108,101,116,32,109,101,32,40,115,101,108,102,41,32,40,100,111,32,40,115,112,97,119,110,32,40,102,110,32,40,41,32,40,100,111,32,40] [103,111,32,49,41,32,40,115,101,110,100,32,109,101,32,52,50,41,41,41,41,32,40,112,114,105,110,116,32,40,114,101,99,118,41,41,41,41])⟩ : ByteArray),(⟨List.toArray (List.append [40,100,101,102,105,110,101,32,40,108,111,111,112,32,110,41,32,40,105,102,32,40,61,32,110,32,48,41,32,40,112,114,105,110,116,32,40] [113,117,111,116,101,32,101,110,100,41,41,32,40,108,111,111,112,32,40,45,32,110,32,49,41,41,41,41,32,40,108,111,111,112,32,57,41])⟩ : ByteArray),(⟨#[40,112,114,105,110,116,32,40,99,97,114,32,40,113,117,111,116,101,32,40,41,41,41,41]⟩ : ByteArray),(⟨#[40,112,114,105,110,116,32,40,102,32,49,41,41]⟩ : ByteArray),(⟨#[40,43,32,49,32,35,116,41]⟩ : ByteArray),(⟨#[40,112,114,105,110,116,32,40,99,111,110,115,32,49,32,40,99,111,110,115,32,50,32,40,41,41,41,41]⟩ : ByteArray),(⟨List.toArray (List.append (List.append [40,100,101,102,105,110,101,32,40,112,105,110,103,32,112,32,110,41,32,40,105,102,32,40,60,32,110,32,49,41,32,48,32,40,100,111,32,40,115,101,110,100,32,112,32] [110,41,32,40,112,114,105,110,116,32,40,114,101,99,118,41,41,32,40,112,105,110,103,32,112,32,40,45,32,110,32,49,41,41,41,41,41,32,40,108,101,116,32,109,101,32]) (List.append [40,115,101,108,102,41,32,40,112,105,110,103,32,40,115,112,97,119,110,32,40,102,110,32,40,41,32,40,100,111,32,40,103,111,32,49,41,32,40,115,101,110,100,32,109,101] [32,40,43,32,49,48,32,40,114,101,99,118,41,41,41,32,40,115,101,110,100,32,109,101,32,40,43,32,49,48,32,40,114,101,99,118,41,41,41,41,41,41,32,50,41,41]))⟩ : ByteArray),(⟨List.toArray (List.append [40,108,101,116,32,107,32,40,99,97,108,108,99,99,32,40,102,110,32,40,99,41,32,99,41,41,32,40,105,102,32,40,112,97,105,114,63] [32,107,41,32,40,112,114,105,110,116,32,40,99,97,114,32,107,41,41,32,40,107,32,40,113,117,111,116,101,32,40,53,41,41,41,41,41])⟩ : ByteArray),(⟨List.toArray (List.append [40,108,101,116,32,112,32,40,115,112,97,119,110,32,40,102,110,32,40,41,32,40,100,111,32,40,103,111,32,49,41,32,40,108,101,116,32,107,32,40,114,101,99,118,41,32,40,107,32,56] [41,41,41,41,41,32,40,112,114,105,110,116,32,40,99,97,108,108,99,99,32,40,102,110,32,40,107,41,32,40,100,111,32,40,115,101,110,100,32,112,32,107,41,32,51,41,41,41,41,41])⟩ : ByteArray)]
theorem UX : ∀ s ∈ texts,s.size <= 633 /\ Hd s := by
 intro s hs
 simp only [texts,List.mem_cons,List.not_mem_nil,or_false] at hs
 rcases hs with rfl | rfl | rfl | rfl | rfl | rfl | rfl | rfl | rfl | rfl | rfl | rfl | rfl | rfl | rfl | rfl | rfl | rfl <;> exact ⟨by decide,⟨40,_,rfl,by decide⟩⟩
theorem Vy (hb : b.length < 4611686018427387904) {c : Int × Int} (h : zJ b c) : CN b (Uf 633) (V 192 [eC b c]) := by
 have ht : V 213 [] = some (.os (1,0) (texts.map D.str),[]) := Nf
 rw [Ib]
 refine yQ (GQ hb h 4) fun v c1 a1 ⟨o,e⟩ => ?_
 subst e
 simp (disch := first | omega | (simp only [lnA,lnC,lnN,lnM,yO,wY]; omega)) only [↓yo,↓yb,↓ye,↓xI,↓yh,↓yf]
 refine zg (fun _ => ?_) fun _ => ?_
 ·refine Lg ht ?_
  simp (disch := first | omega | (simp only [lnA,lnC,lnN,lnM,yO,wY]; omega)) only [↓yo,↓yg]
  refine yQ (Dc hb a1 texts (by decide)) fun v c2 a2 ⟨m,e,hm⟩ => ?_
  subst e
  simp (disch := first | omega | (simp only [lnA,lnC,lnN,lnM,yO,wY]; omega)) only [↓yo,↓yb,↓ye,↓yi,↓yh,↓yf]
  exact yV a2 ⟨m,rfl,UX m hm⟩
 ·refine yQ (Oq hb 3 3 (by omega) (by omega) (by omega) c1 a1) fun v c2 a2 ⟨m,e,hm⟩ => ?_
  subst e
  simp (disch := first | omega | (simp only [lnA,lnC,lnN,lnM,yO,wY]; omega)) only [↓yo,↓yb,↓ye,↓yi,↓yh,↓yf]
  exact yV a2 ⟨m,rfl,hm⟩
end
end
end Go.Eng
/-! draws of code -/
namespace Go.Eng
noncomputable section
open Go.Proofs Go.Proofs.Tryz
set_option maxHeartbeats 4000000
set_option maxRecDepth 10000

theorem Dg {l : List UInt8} : ∀ (k i : Nat) (o : List RwF) (t : RwF) (q q' : List Nd) (row : List Int),(o ≠ [] \/ t.2 ≠ []) -> AV l k i o t q = .ok q' row -> row ≠ []
 | 0,i,o,t,q,q',row,h,e => by rw [AV] at e; cases e
 | k + 1,i,o,t,q,q',row,h,e => by
  rw [FC] at e
  cases hx : l[i]? with
  | none =>
   rw [hx,JH] at e
   split at e
   ·rename_i ho
    cases e
    rcases h with h | h
    ·exact absurd ho h
    ·exact h
   ·cases e
  | some x =>
   rw [hx,GX] at e
   split at e
   ·exact Dg k _ _ _ _ _ _ h e
   split at e
   ·exact Dg k _ _ _ _ _ _ (.inl (by simp)) e
   split at e
   ·split at e
    ·cases e
    ·exact Dg k _ _ _ _ _ _ (.inr (by simp)) e
   split at e
   ·split at e
    ·cases e
    ·exact Dg k _ _ _ _ _ _ (.inr (by simp)) e
   ·cases e
theorem DD {l : List UInt8} : ∀ (k i : Nat) (o : List RwF) (t : RwF) (q : List Nd) (c a : Int),AV l k i o t q = .err c a -> c ≠ 0
 | 0,i,o,t,q,c,a,e => by rw [AV] at e; cases e; decide
 | k + 1,i,o,t,q,c,a,e => by
  rw [FC] at e
  cases hx : l[i]? with
  | none =>
   rw [hx,JH] at e
   split at e
   ·cases e
   ·cases e; decide
  | some x =>
   rw [hx,GX] at e
   split at e
   ·exact DD k _ _ _ _ _ _ e
   split at e
   ·exact DD k _ _ _ _ _ _ e
   split at e
   ·split at e
    ·cases e; decide
    ·exact DD k _ _ _ _ _ _ e
   split at e
   ·split at e
    ·cases e; decide
    ·exact DD k _ _ _ _ _ _ e
   ·cases e; decide
theorem DE {l : List UInt8} : ∀ (k i : Nat) (o : List RwF) (t : RwF) (q : List Nd),i <= l.length -> ∀ q' row,AV l k i o t q = .ok q' row -> q'.length + row.length <= phi o t q + 2 * (l.length - i)
 | 0,i,o,t,q,_,q',row,h => by rw [AV] at h; cases h
 | k + 1,i,o,t,q,h2,q',row,h => by
  have hph : phi o t q = q.length + t.2.length + (o.map fun x => x.2.length).sum := rfl
  rw [FC] at h
  by_cases hi : i = l.length
  ·have hx : l[i]? = none := List.getElem?_eq_none (by omega)
   rw [hx,JH] at h
   by_cases ho : o = []
   ·rw [if_pos ho] at h
    cases h
    omega
   ·rw [if_neg ho] at h; cases h
  obtain ⟨x,hx⟩ := xx (l := l) (i := i) (by omega)
  rw [hx,GX] at h
  by_cases h32 : x = 32
  ·rw [if_pos h32] at h
   have := DE k (i + 1) o t q (by omega) q' row h
   omega
  rw [if_neg h32] at h
  by_cases h40 : x = 40
  ·rw [if_pos h40] at h
   have := DE k (i + 1) (t :: o) ((i : Int),[]) q (by omega) q' row h
   simp only [phi,List.map_cons,List.sum_cons,lnN] at this
   omega
  rw [if_neg h40] at h
  by_cases h41 : x = 41
  ·rw [if_pos h41] at h
   cases o with
   | nil => cases h
   | cons u o =>
    simp only [List.map_cons,List.sum_cons] at hph
    have := DE k (i + 1) o (u.1,u.2 ++ [((Cj q t.2).2 : Int)]) (Cj q t.2).1 (by omega) q' row h
    simp only [phi,Kf,lnA,lnC,lnN] at this
    omega
  rw [if_neg h41] at h
  by_cases hw : Gg x = true
  ·rw [if_pos hw] at h
   have hwe := GN hx hw
   have hwl := PX (l := l) (j := i + 1) (by omega)
   cases hwd : C9 ((l.drop i).take (CM l i - i)) with
   | none => rw [hwd] at h; cases h
   | some nd =>
    rw [hwd] at h
    have := DE k (CM l i) o (t.1,t.2 ++ [(q.length : Int)]) (q ++ [nd]) (by omega) q' row h
    simp only [phi,lnA,lnC,lnN] at this
    omega
  ·rw [if_neg hw] at h; cases h
theorem Q9 {p : List Nd} {s : ByteArray} (hs : Hd s) (h : (Bg p s.data.toList).2.2.1 = 0) : (Bg p s.data.toList).2.1 ≠ [] := by
 obtain ⟨x,r,hl,hx⟩ := hs
 unfold Bg at h ⊢
 split at h
 ·simp at h
 split at h
 ·simp at h
 rename_i h1 h2
 rw [if_neg h1,if_neg h2]
 generalize hg : AV s.data.toList (s.data.toList.length + 1) 0 [] (0,[]) p = g at h ⊢
 cases g with
 | err c a =>
  simp only [TN] at h
  exact absurd h (DD _ _ _ _ _ _ _ hg)
 | ok q row =>
  simp only [TN] at h ⊢
  split at h
  ·rename_i hq
   rw [if_pos hq]
   rw [FC,hl] at hg
   simp only [List.getElem?_cons_zero] at hg
   rw [GX,if_neg hx] at hg
   split at hg
   ·exact Dg _ _ _ _ _ _ _ (.inl (by simp)) hg
   split at hg
   ·cases hg
   split at hg
   ·split at hg
    ·cases hg
    ·exact Dg _ _ _ _ _ _ _ (.inr (by simp)) hg
   ·cases hg
  ·simp at h
structure RightC (x : Cd) : Prop where
 ok : AU x = true
 ne : 0 < x.list.length
 fits : FitsC x
theorem NC {p : List Nd} (hf : Aw p) {n : Int} : ∀ (xs : List Int) (i : Int) (m : Ms) {x : Cd} {j : Int},Dv p n xs i m = (x,0,j) -> m.list.length <= 400 -> Rm m -> m.how = 0 -> (0 < m.list.length \/ xs ≠ []) -> RightC x
 | [],i,m,x,j,e,hm,hs,h0,hne => by
  unfold Dv at e
  split at e
  ·rename_i hok
   cases e
   obtain ⟨c1,c2,c3⟩ := FM hok
   have := yX c1
   exact ⟨hok,by rcases hne with h | h; exact h; exact absurd rfl h,⟨hf,by omega,hs.1,by omega,hs.2,by omega⟩⟩
  ·cases e
 | y :: r,i,m,x,j,e,hm,hs,h0,hne => by
  unfold Dv at e
  simp only at e
  have le := UZ (p := p) (v := y) hm
  split at e
  ·cases e
  split at e
  ·rename_i h; have := congrArg (fun r => r.2.1) e; exact absurd this h
  ·rename_i h
   have h : (Mq p y m).how = 0 := by omega
   exact NC hf r (i + 1) _ e le.four (S6 hf hm hs) h (.inl (by have := le.grew h; omega))
theorem Qa {p : List Nd} (hf : Aw p) {xs : List Int} (hne : xs ≠ []) (h : (Jl p xs).2.1 = 0) : RightC (Jl p xs).1 := by
 unfold Jl at h ⊢
 split at h
 ·rename_i hh
  rw [if_pos hh]
  generalize hg : Dv p xs.length xs 0 ⟨[],[],0⟩ = g at h ⊢
  obtain ⟨x,a,j⟩ := g
  simp only at h
  subst h
  exact NC hf xs 0 ⟨[],[],0⟩ hg (by simp) ⟨fun x h => by simp at h,fun x h => by simp at h⟩ rfl (.inr hne)
 ·simp at h
def lastS : ByteArray := ⟨#[40,112,114,105,110,116,32,49,41]⟩
theorem VG : (Bg [] lastS.data.toList).2.2.1 = 0 /\ (Jl (Bg [] lastS.data.toList).1 (Bg [] lastS.data.toList).2.1).2.1 = 0 := by decide +kernel
theorem Fq : Aw [] := fun x h => by simp at h
theorem NY (l : List UInt8) : Aw (Bg [] l).1 /\ (Bg [] l).1.length <= 800 /\ (Bg [] l).2.1.length <= 800 := by
 unfold Bg
 rw [if_neg (by decide)]
 by_cases h4 : 400 < l.length
 ·rw [if_pos h4]; exact ⟨Fq,by simp,by simp⟩
 rw [if_neg h4]
 unfold TN
 cases hr : AV l (l.length + 1) 0 [] (0,[]) [] with
 | err c a => exact ⟨Fq,by simp,by simp⟩
 | ok q row =>
  have h1 := FE (l := l) (by omega) (l.length + 1) 0 [] (0,[]) [] (by omega) (by simp only [phi,List.map_nil,List.sum_nil,lnN]; omega) Fq q row hr
  have h2 := DE (l := l) (l.length + 1) 0 [] (0,[]) [] (by omega) q row hr
  simp only [phi,List.map_nil,List.sum_nil,lnN] at h2
  simp only
  split
  ·exact ⟨h1.1,by simp only; omega,by simp only; omega⟩
  ·exact ⟨Fq,by simp,by simp⟩
def Wz (v : D) : Prop := ∃ x : Cd,v = oCd x /\ RightC x
section
variable {b : List Int}
theorem TK (s : ByteArray) : ∃ R C,V 191 [.agg [.rs (5,0) []],.str s] = PJ R /\ V 193 [eP R.1,.rs (1,0) (R.2.1.map eI)] = NB C /\ (Hd s -> R.2.2.1 = 0 -> C.2.1 = 0 -> RightC C.1) := by
 have h1 : V 191 [.agg [.rs (5,0) []],.str (mk s.data.toList)] = _ := KH Fq (by simp) s.data.toList
 rw [Jv] at h1
 obtain ⟨r1,r2,r3⟩ := NY s.data.toList
 exact ⟨Bg [] s.data.toList,Jl (Bg [] s.data.toList).1 (Bg [] s.data.toList).2.1,h1,GK r1 (by omega) (by omega),fun hh h h' => Qa r1 (Q9 hh h) h'⟩
theorem VF : ∃ s : ByteArray,s = ⟨#[40,112,114,105,110,116,32,49,41]⟩ /\ Hd s /\ (Bg [] s.data.toList).2.2.1 = 0 /\ (Jl (Bg [] s.data.toList).1 (Bg [] s.data.toList).2.1).2.1 = 0 := ⟨lastS,rfl,⟨40,_,rfl,by decide⟩,VG⟩
theorem TM : ∃ R C,V 191 [.agg [.rs (5,0) []],.str ⟨#[40,112,114,105,110,116,32,49,41]⟩] = PJ R /\ V 193 [eP R.1,.rs (1,0) (R.2.1.map eI)] = NB C /\ RightC C.1 := by
 obtain ⟨s,hs,hh,l1,l2⟩ := VF
 rw [<- hs]
 have h1 : V 191 [.agg [.rs (5,0) []],.str (mk s.data.toList)] = _ := KH Fq (by simp) s.data.toList
 rw [Jv] at h1
 obtain ⟨r1,r2,r3⟩ := NY s.data.toList
 exact ⟨Bg [] s.data.toList,Jl (Bg [] s.data.toList).1 (Bg [] s.data.toList).2.1,h1,GK r1 (by omega) (by omega),Qa r1 (Q9 hh l1) l2⟩
theorem Ik (hb : b.length < 4611686018427387904) : ∀ (k i : Nat) (c : Int × Int),i + k = 4 -> zJ b c -> CN b Wz (zK (i : Int) (b.map eB) c.1 c.2)
 | 0,i,c,hi,hc => by
  obtain ⟨R,C,h1,h2,hok⟩ := TM
  rw [B9,xb (decide_eq_false (by omega)),NT h1,JB h2]
  exact yV hc ⟨C.1,rfl,hok⟩
 | k + 1,i,c,hi,hc => by
  rw [B9,xK (decide_eq_true (by omega))]
  refine yQ (Vy hb hc) fun v c1 a1 ⟨s,e,hs,hh⟩ => ?_
  subst e
  obtain ⟨R,C,h1,h2,hok⟩ := TK s
  have ih := Ik hb k (i + 1) c1 (by omega) a1
  rw [yi,yb,yf,yb,yh,yb,ye,yb,ye,yo,yo]
  rw [NT h1,JB h2]
  by_cases hr : R.2.2.1 = 0
  ·rw [xK (yF hr)]
   by_cases hc0 : C.2.1 = 0
   ·rw [xK (yF hc0)]
    exact yV a1 ⟨C.1,rfl,hok hh hr hc0⟩
   ·rw [xb (yE hc0),yM (by omega)]
    exact ih
  ·rw [xb (yE hr),yM (by omega)]
   exact ih
theorem Ru (hb : b.length < 4611686018427387904) {c : Int × Int} (h : zJ b c) : CN b Wz (V 142 [eC b c]) := by
 rw [Js]
 exact Ik hb 4 0 c (by omega) h
structure SomeC (x : Cd) : Prop where
 fits : FitsC x
 pool : x.pool.length <= 3001
 list : x.list.length <= 400
 defs : x.defs.length <= 21
def WT (v : D) : Prop := ∃ x : Cd,v = oCd x /\ SomeC x
theorem R9 {x : Cd} (h : RightC x) : SomeC x := by
 obtain ⟨c1,c2,c3⟩ := FM h.ok
 have := yX c1
 exact ⟨h.fits,by omega,c2,by omega⟩
theorem JL {x : Cd} (h : SomeC x) (k : Nat) {y : In} (hy : y.s.size < 4611686018427387904) : SomeC ⟨x.pool,x.list.set k y,x.defs⟩ := by
 obtain ⟨f,p,l,d⟩ := h
 refine ⟨⟨f.pool,f.plen,?_,by simpa using f.llen,f.defs,f.dlen⟩,p,by simpa using l,d⟩
 intro z hz
 rcases List.mem_or_eq_of_mem_set hz with hz | rfl
 ·exact f.list z hz
 ·exact hy
end
end
end Go.Eng
/-! draws of code,mostly right -/
namespace Go.Eng
open Go.Proofs Go.Proofs.Tryz
set_option maxHeartbeats 4000000

section
variable {b : List Int}
theorem Tm (hb : b.length < 4611686018427387904) {c : Int × Int} (h : zJ b c) : CN b WT (V 74 [eC b c]) := by
 rw [Pd]
 refine yQ (Ru hb h) fun v c1 a1 ⟨x,e,hx⟩ => ?_
 subst e
 have hs := R9 hx
 have hne := hx.ne
 have hll := hs.list
 rw [xu,yb,yg,yb,yg,yb,yg,yo,yb,yf,yb,yh,yb,ye,yb,ye,yo,yo]
 rw [lnM]
 refine yQ (y9 hb a1 _) fun v c2 a2 ⟨m,e,m0,m1⟩ => ?_
 subst e
 have m1 := m1 (by simp only [ni]; omega)
 obtain ⟨y,hy⟩ := xx (l := x.list) (i := m.toNat) (by simp only [ni] at m1; omega)
 have hg : (decide (0 <= m) && decide (m < ni x.list.length)) = true := by simp only [Bool.and_eq_true,decide_eq_true_eq]; exact ⟨m0,m1⟩
 have hys := hx.fits.list y (List.mem_of_getElem? hy)
 have st : ∀ (z : In) ,List.set (x.list.map eIn) m.toNat (eIn z) = (x.list.set m.toNat z).map eIn := fun z => by rw [List.map_set]
 rw [ye,yb,yf,yb,yh,yb,ye,yb,ye,yo,yo]
 refine yQ (y9 hb a2 _) fun v c3 a3 ⟨n,e,n0,n1⟩ => ?_
 subst e
 rw [ye,yb,yf,yb,yh,yb,ye,yb,ye,yo,yo]
 refine zg (fun _ => ?_) fun _ => zg (fun _ => ?_) fun _ => zg (fun _ => ?_) fun _ => zg (fun _ => ?_) fun _ => zg (fun _ => ?_) fun _ => zg (fun _ => ?_) fun _ => ?_
 ·refine yQ (y9 hb a3 _) fun v c4 a4 ⟨u,e,u0,u1⟩ => ?_
  subst e
  rw [ye,yb,yf,yb,yh,yb,ye,yb,ye,yo,yo]
  refine Ay hg ?_
  rw [xW hy,xu,yA]
  exact yV a4 ⟨⟨x.pool,x.list.set m.toNat ⟨u,y.n,y.i,y.s⟩,x.defs⟩,congrArg (fun l => D.agg [.os (5,0) (x.pool.map eN),.os (4,0) l,.os (3,0) (x.defs.map eDf)]) (st ⟨u,y.n,y.i,y.s⟩),JL hs _ hys⟩
 ·refine yQ (Lv hb a3 [-1,0,m,w6 (m + 1),ni x.list.length,w6 (ni x.list.length + 1)] (by simp)) fun v c4 a4 ⟨u,e,hu⟩ => ?_
  subst e
  rw [ye,yb,yf,yb,yh,yb,ye,yb,ye,yo,yo]
  refine Ay hg ?_
  rw [xW hy,xu,yA]
  exact yV a4 ⟨⟨x.pool,x.list.set m.toNat ⟨y.op,u,y.i,y.s⟩,x.defs⟩,congrArg (fun l => D.agg [.os (5,0) (x.pool.map eN),.os (4,0) l,.os (3,0) (x.defs.map eDf)]) (st ⟨y.op,u,y.i,y.s⟩),JL hs _ hys⟩
 ·refine yQ (y9 hb a3 _) fun v c4 a4 ⟨u,e,u0,u1⟩ => ?_
  subst e
  rw [ye,yb,yf,yb,yh,yb,ye,yb,ye,yo,yo]
  refine Ay hg ?_
  rw [xW hy,xu,yA]
  exact yV a4 ⟨⟨x.pool,x.list.set m.toNat ⟨y.op,y.n,w6 (u - 1),y.s⟩,x.defs⟩,congrArg (fun l => D.agg [.os (5,0) (x.pool.map eN),.os (4,0) l,.os (3,0) (x.defs.map eDf)]) (st ⟨y.op,y.n,w6 (u - 1),y.s⟩),JL hs _ hys⟩
 ·refine yQ (Dc hb a3 [⟨#[]⟩,⟨#[97]⟩,⟨#[65]⟩] (by simp)) fun v c4 a4 ⟨u,e,hu⟩ => ?_
  subst e
  rw [yi,yb,yf,yb,yh,yb,ye,yb,ye,yo,yo]
  refine Ay hg ?_
  rw [xW hy,xu,yA]
  have hz : u.size < 4611686018427387904 := by
   simp only [List.mem_cons,List.not_mem_nil,or_false] at hu
   rcases hu with rfl | rfl | rfl <;> decide
  exact yV a4 ⟨⟨x.pool,x.list.set m.toNat ⟨y.op,y.n,y.i,u⟩,x.defs⟩,congrArg (fun l => D.agg [.os (5,0) (x.pool.map eN),.os (4,0) l,.os (3,0) (x.defs.map eDf)]) (st ⟨y.op,y.n,y.i,u⟩),JL hs _ hz⟩
 ·refine yQ (Dc hb a3 [⟨#[102]⟩,⟨#[109,97,105,110]⟩,⟨#[122,122]⟩,⟨#[65]⟩] (by simp)) fun v c4 a4 ⟨u,e,hu⟩ => ?_
  subst e
  rw [yi,yb,yf,yb,yh,yb,ye,yb,ye,yo,yo]
  refine yQ (y9 hb a4 _) fun v c5 a5 ⟨w,e,w0,w1⟩ => ?_
  subst e
  rw [ye,yb,yf,yb,yh,yb,ye,yb,ye,yo,yo]
  refine yQ (y9 hb a5 _) fun v c6 a6 ⟨z,e,z0,z1⟩ => ?_
  subst e
  rw [ye,yb,yf,yb,yh,yb,ye,yb,ye,yo,yo]
  have hz : u.size < 4611686018427387904 := by
   simp only [List.mem_cons,List.not_mem_nil,or_false] at hu
   rcases hu with rfl | rfl | rfl | rfl <;> decide
  have ea : x.defs.map eDf ++ [D.agg [D.str u,iN w,iN z]] = (x.defs ++ [(⟨u,w,z⟩ : Df)]).map eDf := by simp
  obtain ⟨c1,c2,c3⟩ := FM hx.ok
  rw [ea]
  refine Ay (decide_eq_true (by rw [pE,lnM]; simp only [ni,lnA,lnC,lnN]; omega)) ?_
  obtain ⟨f,p,l,d⟩ := hs
  refine yV a6 ⟨⟨x.pool,x.list,x.defs ++ [⟨u,w,z⟩]⟩,rfl,⟨⟨f.pool,f.plen,f.list,f.llen,?_,by simp only [lnA,lnC,lnN]; omega⟩,p,l,by simp only [lnA,lnC,lnN]; omega⟩⟩
  intro q hq
  rcases List.mem_append.1 hq with hq | hq
  ·exact f.defs q hq
  ·rw [List.mem_singleton.1 hq]; exact hz
 ·refine yQ (Vx hb a3) fun v c4 a4 ⟨p,e,hp,hl⟩ => ?_
  subst e
  rw [xu,yb,yg,yo,yb,yf,yb,yh,yb,ye,yb,ye,yo,yo]
  obtain ⟨f,p',l,d⟩ := hs
  have hl := UM hl
  exact yV a4 ⟨⟨p,x.list,x.defs⟩,rfl,⟨⟨TT hp,by show p.length < _; omega,f.list,f.llen,f.defs,f.dlen⟩,hl,l,d⟩⟩
 ·exact yV a3 ⟨x,rfl,hs⟩
end
end Go.Eng
/-! marks,equality,sizes and copies of nodes and numbers -/
namespace Go.Eng
open Go.Proofs Go.Proofs.Tryz
set_option maxHeartbeats 4000000

end Go.Eng
/-! sizes,copies and equality of what a law's arguments hold -/
namespace Go.Eng
open Go.Proofs Go.Proofs.Tryz
set_option maxHeartbeats 4000000

end Go.Eng
/-! a law's arguments: pools,code,machines,processes -/
namespace Go.Eng
open Go.Proofs Go.Proofs.Tryz
set_option maxHeartbeats 4000000
set_option maxRecDepth 100000

end Go.Eng
/-! machines as bytes,on both sides -/
namespace Go.Eng
open Go.Proofs Go.Proofs.Tryz
set_option maxHeartbeats 4000000

end Go.Eng
