/- the program and the reference on plain data, part 3 -/
import Derived.Test.YtkndfhaehnfnmaaPart1
import Derived.Test.YtkndfhaehnfnmaaPart2
import Derived.Test.YtkndfhaehnfnmaaEngC
/-! sizes told: printed by mkz.py -/
namespace Go.Eng
open Go.Proofs Go.Proofs.Try
set_option maxHeartbeats 4000000
set_option maxRecDepth 100000

theorem sz3 : TypeInfo.size (Tables.types (Program.toTables Try.prog))[3] = 1 := by kernel_rfl
theorem fl3 : qh Try.prog (3) = true := by kernel_rfl

theorem zU (p0 : ByteArray) (p1 : Int) (p2 : List D) (p3 : List D) (p4 : List D) : xR p0 p1 p2 p3 p4 =
 br (decide (p1 < ni (ByteArray.size p0)))
  (
  grd (decide (0 <= p1) && decide (p1 < ni (ByteArray.size p0))) (br (bt p0 p1 == 32)
  (xR p0 (w6 (p1 + 1)) p2 p3 p4)
  (
   br (bt p0 p1 == 40)
   (grd (decide
 (ni
   (List.length
    (p3 ++
     [D.os
       (1,0)
       []])) <=
  LIM)) (nam (p3 ++
 [D.os
   (1,0)
   []]) fun a =>
   grd (decide (ni (List.length (p4 ++ [iN p1])) <= LIM)) (nam (p4 ++ [iN p1]) fun b =>
    xR p0 (w6 (p1 + 1)) p2 a b)))
   (
   br (bt p0 p1 == 41)
   (
    iy V 33 [(.op [(.os (5,0) p2),(.os (1,2) p3),(.os (1,0) p4)])] fun a b =>
    asB a fun c => unc b fun d e => JW d fun f g h => (unn e (br (!c)
         (some ((.tup [(iN (5)),(iN p1)]),[(.op [(.os (5,0) f),(.os (1,2) g),(.os (1,0) h)])]))
         (xR p0 (w6 (p1 + 1)) f g h))))
   (
    iy V 34 [(.int .u8 (bt p0 p1))] fun a b =>
    asB a fun c => unn b (br (!c)
     (some ((.tup [(iN (2)),(iN p1)]),[(.op [(.os (5,0) p2),(.os (1,2) p3),(.os (1,0) p4)])]))
     (yI p0 p1 p1 p2 p3 p4)))))))
  (
  br (decide (ni p4.length > 0))
  (
   grd (decide (0 <= w6 (ni p4.length - 1)) && decide (w6 (ni p4.length - 1) < ni p4.length)) (cz p4 (Int.toNat (w6 (ni p4.length - 1))) fun a =>
   asI .i64 a fun b => some ((.tup [(iN (4)),(iN b)]),[(.op [(.os (5,0) p2),(.os (1,2) p3),(.os (1,0) p4)])])))
  (some ((.tup [(iN (0)),(iN (ni (ByteArray.size p0)))]),[(.op [(.os (5,0) p2),(.os (1,2) p3),(.os (1,0) p4)])]))) := by
 have h := CK p0 p1 p2 p3 p4
 simp only [sz3,fl3] at h
 exact h
theorem Gd (p : List D) (o : List D) (t : List D) (v : Int) : V 36 [.op [.os (5,0) p,.os (1,2) o,.os (1,0) t],iN v] =
 grd (decide (0 <= w6 (ni o.length - 1)) && decide (w6 (ni o.length - 1) < ni o.length)) (cz o (Int.toNat (w6 (ni o.length - 1))) fun a =>
  iK (1,0) a fun b => grd (decide (ni (List.length (b ++ [iN v])) <= LIM)) (nam (b ++ [iN v]) fun c =>
   grd (decide (0 <= w6 (ni o.length - 1)) && decide (w6 (ni o.length - 1) < ni (List.length (List.set o (Int.toNat (w6 (ni o.length - 1))) D.dead)))) (cz (List.set o (Int.toNat (w6 (ni o.length - 1))) D.dead) (Int.toNat (w6 (ni o.length - 1))) fun _ =>
   nam (List.set (List.set o (Int.toNat (w6 (ni o.length - 1))) D.dead) (Int.toNat (w6 (ni o.length - 1)))
 (D.os
  (1,0)
  c)) fun d =>
    some ((.tup []),[(.op [(.os (5,0) p),(.os (1,2) d),(.os (1,0) t)])])))) := by
 have h := Gn p o t v
 simp only [sz3,fl3] at h
 exact h

end Go.Eng
/-! reading a text,on both sides -/
namespace Go.Eng
noncomputable section
open Go.Proofs Go.Proofs.Try
set_option maxHeartbeats 4000000

def zA : List Int -> List Nd -> Nat -> List Nd × Nat
 | [],q,c => (q,c)
 | x :: r,q,c => zA r (q ++ [⟨5,0,⟨#[]⟩,x,(c : Int)⟩]) q.length
def xU (q : List Nd) (row : List Int) : List Nd × Nat := zA row.reverse (q ++ [⟨1,0,⟨#[]⟩,0,0⟩]) q.length
theorem Jm : ∀ (r : List Int) (q : List Nd) (c : Nat),(zA r q c).1.length = q.length + r.length
 | [],q,c => rfl
 | x :: r,q,c => by rw [zA,Jm r]; simp only [lnA,lnC,lnN]; omega
theorem CX (q : List Nd) (row : List Int) : (xU q row).1.length = q.length + row.length + 1 := by
 rw [xU,Jm]; simp only [lnA,lnC,lnN,List.length_reverse]; omega
theorem GU {q : List Nd} (h : Bv q) {x : Nd} (hx : x.s.size < 4611686018427387904) : Bv (q ++ [x]) := by
 intro y hy
 rcases List.mem_append.1 hy with h1 | h1
 ·exact h y h1
 ·rw [List.mem_singleton.1 h1]; exact hx
theorem Il : ∀ (r : List Int) (q : List Nd) (c : Nat),Bv q -> Bv (zA r q c).1
 | [],q,c,h => h
 | x :: r,q,c,h => Il r _ _ (GU h (x := ⟨5,0,⟨#[]⟩,x,(c : Int)⟩) (by show (0 : Nat) < _; omega))
theorem Oc {q : List Nd} (h : Bv q) (row : List Int) : Bv (xU q row).1 := Il _ _ _ (GU h (x := ⟨1,0,⟨#[]⟩,0,0⟩) (by show (0 : Nat) < _; omega))
theorem Rx {row : List Int} {k : Nat} {x : Int} (hx : row[k]? = some x) : (row.take (k + 1)).reverse = x :: (row.take k).reverse := by
 rw [List.take_add_one,hx]; simp
theorem LV {q : List Nd} (h : q.length < 4294967296) (a b : Int) : V 75 [rP q,iN a,iN b] = some (iN q.length,[rP (q ++ [⟨5,0,⟨#[]⟩,a,b⟩])]) := by
 have := Bd h ⟨5,0,⟨#[]⟩,a,b⟩
 rw [IC,yg this]
theorem Jj {row : List Int} (hr : row.length < 4294967296) : ∀ (k : Nat) (q : List Nd) (c : Nat),k <= row.length -> q.length + k < 4294967296 ->
  zp (row.map eI) (c : Int) ((k : Int) - 1) (q.map eN) = some (iN (zA (row.take k).reverse q c).2,[rP (zA (row.take k).reverse q c).1])
 | 0,q,c,_,_ => by rw [AF,vQ (decide_eq_false (by omega))]; rfl
 | k + 1,q,c,hk,hq => by
  obtain ⟨x,hx⟩ := wt (l := row) (i := k) (by omega)
  have hp := LV (q := q) (by omega) x c
  have ih := Jj hr k (q ++ [⟨5,0,⟨#[]⟩,x,(c : Int)⟩]) q.length (by omega) (by simp only [lnA,lnC,lnN]; omega)
  have e : ((k + 1 : Nat) : Int) - 1 = (k : Int) := by omega
  rw [AF,e,wK (decide_eq_true (by omega)),xu (by rw [lnM]; exact xz (by omega)),Int.toNat_natCast,w8 hx,xf,Bj hp,w64 (by omega) (by omega),ih,Rx hx,zA]
theorem J6 {q : List Nd} {row : List Int} (h : q.length + row.length < 4294967290) : V 57 [rP q,.rs (1,0) (row.map eI)] = some (iN (xU q row).2,[rP (xU q row).1]) := by
 have ha := Bd (p := q) (by omega) ⟨1,0,⟨#[]⟩,0,0⟩
 have hl := Jj (row := row) (by omega) row.length (q ++ [⟨1,0,⟨#[]⟩,0,0⟩]) q.length (Nat.le_refl _) (by simp only [lnA,lnC,lnN]; omega)
 rw [List.take_length] at hl
 rw [IB,yg ha,lnM,w64 (by simp only [ni]; omega) (by simp only [ni]; omega)]
 exact hl
abbrev RwF := Int × List Int
inductive RdR where
 | err (c a : Int)
 | ok (q : List Nd) (row : List Int)
def AZ (l : List UInt8) (j : Nat) : Nat := j + ((l.drop j).takeWhile zD).length
def Pd (l : List UInt8) (G : Nat -> List RwF -> RwF -> List Nd -> RdR) (i : Nat) (o : List RwF) (t : RwF) (q : List Nd) : Option UInt8 -> RdR
 | none => if o = [] then .ok q t.2 else .err 4 t.1
 | some x =>
   if x = 32 then G (i + 1) o t q
   else if x = 40 then G (i + 1) (t :: o) ((i : Int),[]) q
   else if x = 41 then match o with
    | [] => .err 5 (i : Int)
    | u :: o => G (i + 1) o (u.1,u.2 ++ [((xU q t.2).2 : Int)]) (xU q t.2).1
   else if zD x = true then match Bf ((l.drop i).take (AZ l i - i)) with
    | none => .err 3 (i : Int)
    | some nd => G (AZ l i) o (t.1,t.2 ++ [(q.length : Int)]) (q ++ [nd])
   else .err 2 (i : Int)
def CE (l : List UInt8) : Nat -> Nat -> List RwF -> RwF -> List Nd -> RdR
 | 0,_,_,_,_ => .err 1 0
 | k + 1,i,o,t,q => Pd l (CE l k) i o t q l[i]?
theorem IW (l : List UInt8) (G : Nat -> List RwF -> RwF -> List Nd -> RdR) (i : Nat) (o : List RwF) (t : RwF) (q : List Nd) : Pd l G i o t q none = if o = [] then .ok q t.2 else .err 4 t.1 := rfl
theorem EU (l : List UInt8) (G : Nat -> List RwF -> RwF -> List Nd -> RdR) (i : Nat) (o : List RwF) (t : RwF) (q : List Nd) (x : UInt8) : Pd l G i o t q (some x) = (if x = 32 then G (i + 1) o t q
   else if x = 40 then G (i + 1) (t :: o) ((i : Int),[]) q
   else if x = 41 then match o with
    | [] => .err 5 (i : Int)
    | u :: o => G (i + 1) o (u.1,u.2 ++ [((xU q t.2).2 : Int)]) (xU q t.2).1
   else if zD x = true then match Bf ((l.drop i).take (AZ l i - i)) with
    | none => .err 3 (i : Int)
    | some nd => G (AZ l i) o (t.1,t.2 ++ [(q.length : Int)]) (q ++ [nd])
   else .err 2 (i : Int)) := rfl
theorem GD (l : List UInt8) (k i : Nat) (o : List RwF) (t : RwF) (q : List Nd) : CE l (k + 1) i o t q = Pd l (CE l k) i o t q l[i]? := rfl
theorem J8 {l : List UInt8} {j : Nat} {x : UInt8} (hx : l[j]? = some x) (h : zD x = true) : AZ l j = AZ l (j + 1) := by
 unfold AZ; rw [sy hx,List.takeWhile_cons,if_pos h]; simp only [lnC]; omega
theorem Qp {l : List UInt8} {j : Nat} {x : UInt8} (hx : l[j]? = some x) (h : zD x = false) : AZ l j = j := by
 unfold AZ; rw [sy hx,List.takeWhile_cons,if_neg (by rw [h]; simp)]; rfl
theorem RM {l : List UInt8} {j : Nat} (h : l.length <= j) : AZ l j = j := by
 unfold AZ; rw [List.drop_of_length_le h]; rfl
theorem Md {l : List UInt8} {j : Nat} (h : j <= l.length) : j <= AZ l j /\ AZ l j <= l.length := by
 unfold AZ
 have := (List.takeWhile_sublist (p := zD) (l := l.drop j)).length_le
 rw [List.length_drop] at this
 omega
def phi (o : List RwF) (t : RwF) (q : List Nd) : Nat := q.length + t.2.length + (o.map fun x => x.2.length).sum
theorem OL {l : List UInt8} {x : Nd} (h : Bf l = some x) : x.s.size <= l.length := by
 unfold Bf Fx at h
 split at h
 ·cases h; exact Nat.zero_le _
 split at h
 ·cases h; exact Nat.zero_le _
 split at h
 ·cases h; exact Nat.zero_le _
 split at h
 ·cases h; exact Nat.le_of_eq (xP _)
 ·cases h
abbrev eR (x : RwF) : D := .os (1,0) (x.2.map eI)
abbrev rRd (q : List Nd) (o : List D) (a : List D) : D := .op [.os (5,0) (q.map eN),.os (1,2) o,.os (1,0) a]
theorem IU {A B : List D} {x : D} (K : D -> Option Ret) : cz (A ++ x :: B) A.length K = K x := by simp [cz]
theorem LJ {A B : List D} {x v : D} : (A ++ x :: B).set A.length v = A ++ v :: B := by simp
theorem R4 {A : List D} {x : D} (h : A.length < 4611686018427387904) : w6 (ni (A ++ [x]).length - 1) = (A.length : Int) := by
 rw [w64 (by simp only [ni]; omega) (by simp only [ni,lnA,lnC,lnN]; omega)]
 simp [ni]
theorem in1 {A : List D} {x : D} : (decide (0 <= (A.length : Int)) && decide ((A.length : Int) < ni (A ++ [x]).length)) = true := xz (by simp)
theorem QF {l : List D} (h : l.length <= 4294967296) : decide (ni l.length <= LIM) = true := decide_eq_true (by rw [oQ]; simp only [ni]; omega)
theorem Tm {q : List Nd} {A a : List D} {r : List Int} (hA : A.length < 4294967296) (hr : r.length < 4294967290) (v : Int) : V 36 [rRd q (A ++ [.os (1,0) (r.map eI)]) a,iN v] = some (.tup [],[rRd q (A ++ [.os (1,0) ((r ++ [v]).map eI)]) a]) := by
 rw [Gd,R4 (by omega),xu in1,Int.toNat_natCast,IU,LJ]
 have e : ∀ K : List D -> Option Ret,iK (1,0) (.os (1,0) (r.map eI)) K = K (r.map eI) := fun K => rfl
 rw [e,xu (QF (by simp; omega)),xB,xu in1,IU,LJ,xB]
 simp
theorem SM {q : List Nd} {A a : List D} {r s : List Int} {b : D} (hA : A.length < 4294967290) (ha : a.length < 4294967290) (hr : r.length < 4294967290) (hs : q.length + s.length < 4294967290) :
  V 33 [rRd q ((A ++ [.os (1,0) (r.map eI)]) ++ [.os (1,0) (s.map eI)]) (a ++ [b])] = some (.bool true,[rRd (xU q s).1 (A ++ [.os (1,0) ((r ++ [((xU q s).2 : Int)]).map eI)]) a]) := by
 have hl := J6 (q := q) (row := s) hs
 have hp := Tm (q := (xU q s).1) (A := A) (a := a) (r := r) (by omega) hr ((xU q s).2 : Int)
 have e : ∀ K : List D -> Option Ret,iK (1,0) (.os (1,0) (s.map eI)) K = K (s.map eI) := fun K => rfl
 have hA1 : (A ++ [D.os (1,0) (r.map eI)]).length = A.length + 1 := by simp
 have e1 : w6 (ni ((A ++ [D.os (1,0) (r.map eI)]) ++ [D.os (1,0) (s.map eI)]).length - 1) = ((A ++ [D.os (1,0) (r.map eI)]).length : Int) := R4 (by rw [hA1]; omega)
 have e2 : w6 (ni (a ++ [b]).length - 1) = (a.length : Int) := R4 (by omega)
 have p1 : ∀ (X : List D) (y : D),part (X ++ [y]) (some (0,X.length)) = X := fun X y => by simp [part]
 rw [A9,e1,e2,vQ (by rw [hA1]; simp only [beq_eq_false_iff_ne,ne_eq]; omega),xu in1,Int.toNat_natCast,Int.toNat_natCast,IU,LJ,e,Ak hl,xu (by unfold cG; simp; try omega),xu (by unfold cG; simp; try omega),p1,p1,BI hp]
def Uf (r : Option Nd) (l : List UInt8) (i j : Nat) (q : List Nd) (A a : List D) (t : List Int) : Option Ret := match r with
 | none => some (.tup [iN 3,iN (i : Int)],[rRd q (A ++ [.os (1,0) (t.map eI)]) a])
 | some nd => xR (mk l) (j : Int) ((q ++ [nd]).map eN) (A ++ [.os (1,0) ((t ++ [(q.length : Int)]).map eI)]) a
theorem Tg {l : List UInt8} (hl : l.length < 1000000000) {i : Nat} {q : List Nd} {A a : List D} {t : List Int} (hq : q.length < 4294967290) (hA : A.length < 4294967290) (ht : t.length < 4294967290) : ∀ (m j : Nat),j + m = l.length -> i <= j ->
  yI (mk l) (i : Int) (j : Int) (q.map eN) (A ++ [.os (1,0) (t.map eI)]) a = Uf (Bf ((l.drop i).take (AZ l j - i))) l i (AZ l j) q A a t
 | m,j,hm,hij => by
  have hcut : cG l.length (some (i : Int)) (some (j : Int)) = true := by unfold cG; simp; omega
  obtain ⟨x,b,h1,h2⟩ := OI (l := (l.drop i).take (j - i)) (by simp only [List.length_take,List.length_drop]; omega)
  have ha := Bd (p := q) (by omega) x
  have hp := Tm (q := q ++ [x]) (A := A) (a := a) (r := t) (by omega) ht (q.length : Int)
  match m with
  | 0 =>
   rw [z9,xP,vQ (xt (by omega)),xu hcut,Int.toNat_natCast,Int.toNat_natCast,FW,FA h1,RM (by omega)]
   cases hw : Bf ((l.drop i).take (j - i)) with
   | none =>
    rw [hw] at h2
    have h2 : b = false := h2
    rw [h2,Bool.not_false,xl]; rfl
   | some nd =>
    rw [hw] at h2
    obtain ⟨rfl,rfl⟩ : x = nd /\ b = true := h2
    rw [Bool.not_true,wJ,yg ha,BI hp]; rfl
  | m + 1 =>
   obtain ⟨y,hy⟩ := wt (l := l) (i := j) (by omega)
   have hb := Ig hy
   have hwb := GK y
   rw [z9,xP,wK (xA (by omega)),xu (xz (by omega)),hb,DC hwb]
   cases hwu : zD y with
   | true =>
    have ih := Tg hl hq hA ht (A := A) (a := a) (i := i) m (j + 1) (by omega) (by omega)
    rw [xl,xN (by omega),ih,J8 hy hwu]
   | false =>
    rw [wJ,xu hcut,Int.toNat_natCast,Int.toNat_natCast,FW,FA h1,Qp hy hwu]
    cases hw : Bf ((l.drop i).take (j - i)) with
    | none =>
     rw [hw] at h2
     have h2 : b = false := h2
     rw [h2,Bool.not_false,xl]; rfl
    | some nd =>
     rw [hw] at h2
     obtain ⟨rfl,rfl⟩ : x = nd /\ b = true := h2
     rw [Bool.not_true,wJ,yg ha,BI hp]; rfl
def atO : List RwF -> RwF -> List D
 | [],_ => []
 | u :: o,t => atO o u ++ [iN t.1]
theorem Gf : ∀ (o : List RwF) (t : RwF),(atO o t).length = o.length
 | [],_ => rfl
 | u :: o,t => by rw [atO,lnA,Gf o u]; rfl
theorem OT (o : List RwF) (t : RwF) (r : List Int) : atO o (t.1,r) = atO o t := by cases o <;> rfl
def IR (n : Nat) (r : RdR) (X : Option Ret) : Prop := match r with
 | .err c a => c ≠ 0 /\ ∃ A B C,X = some (.tup [iN c,iN a],[.op [.os (5,0) A,.os (1,2) B,.os (1,0) C]])
 | .ok q row => X = some (.tup [iN 0,iN (n : Int)],[rRd q [.os (1,0) (row.map eI)] []])
theorem KZ (o : List RwF) (t : RwF) : (t :: o).reverse.map eR = o.reverse.map eR ++ [eR t] := by simp
theorem Od {x : UInt8} (c : UInt8) (n : Int) (hn : (c.toNat : Int) = n) (h : ¬ x = c) : ((x.toNat : Int) == n) = false := by
 subst hn
 simp only [beq_eq_false_iff_ne,ne_eq]
 intro e
 exact h (UInt8.toNat_inj.1 (by omega))
theorem MD {l : List UInt8} (hl : l.length < 1000000000) : ∀ (k i : Nat) (o : List RwF) (t : RwF) (q : List Nd),l.length < i + k -> i <= l.length -> phi o t q + 2 * (l.length - i) < 4000000000 -> o.length + (l.length - i) < 4000000000 ->
  IR l.length (CE l k i o t q) (xR (mk l) (i : Int) (q.map eN) (o.reverse.map eR ++ [eR t]) (atO o t))
 | 0,i,o,t,q,h1,h2,_,_ => by omega
 | k + 1,i,o,t,q,h1,h2,h3,h4 => by
  have hph : phi o t q = q.length + t.2.length + (o.map fun x => x.2.length).sum := rfl
  rw [GD]
  by_cases hi : i = l.length
  ·have hx : l[i]? = none := List.getElem?_eq_none (by omega)
   rw [hx,zU,xP,vQ (xt (by omega))]
   cases o with
   | nil =>
    have e0 : decide (ni (atO ([] : List RwF) t).length > 0) = false := by rw [atO]; rfl
    rw [vQ e0,IW,if_pos rfl]; rfl
   | cons u o =>
    rw [IW,if_neg (by simp),wK (decide_eq_true (by rw [Gf]; simp only [ni,lnC]; omega)),atO,R4 (by rw [Gf]; simp only [lnC] at h4; omega),xu in1,Int.toNat_natCast,IU,xf]
    exact ⟨by decide,_,_,_,rfl⟩
  obtain ⟨x,hx⟩ := wt (l := l) (i := i) (by omega)
  have hb := Ig hx
  rw [hx,zU,xP,wK (xA (by omega)),xu (xz (by omega)),hb]
  rw [EU]
  by_cases h32 : x = 32
  ·subst h32
   rw [if_pos rfl,wK (by rfl),xN (by omega)]
   exact MD hl k (i + 1) o t q (by omega) (by omega) (by omega) (by omega)
  rw [if_neg h32,vQ (Od 32 32 rfl h32)]
  by_cases h40 : x = 40
  ·subst h40
   have hlo : decide (ni (o.reverse.map eR ++ [eR t] ++ [D.os (1,0) []]).length <= LIM) = true := QF (by simp only [lnA,lnM,List.length_reverse,lnC,lnN]; omega)
   rw [if_pos rfl,wK (by rfl),xu hlo,xB,xu (QF (by rw [lnA,Gf]; simp only [lnC,lnN]; omega)),xB,xN (by omega)]
   have ih := MD hl k (i + 1) (t :: o) ((i : Int),[]) q (by omega) (by omega) (by simp only [phi,List.map_cons,List.sum_cons,lnN]; omega) (by simp only [lnC]; omega)
   rw [KZ] at ih
   exact ih
  rw [if_neg h40,vQ (Od 40 40 rfl h40)]
  by_cases h41 : x = 41
  ·subst h41
   rw [if_pos rfl,wK (by rfl)]
   cases o with
   | nil =>
    have hc : V 33 [rRd q [eR t] []] = some (.bool false,[rRd q [eR t] []]) := by
     rw [A9]; rfl
    rw [show ([] : List RwF).reverse.map eR ++ [eR t] = [eR t] from rfl,show atO [] t = [] from rfl,C5 hc,Bool.not_false,xl]
    exact ⟨by decide,_,_,_,rfl⟩
   | cons u o =>
    simp only [List.map_cons,List.sum_cons] at hph
    simp only [lnC] at h4
    have hc := SM (q := q) (A := o.reverse.map eR) (a := atO o u) (r := u.2) (s := t.2) (b := iN t.1) (by rw [lnM,List.length_reverse]; omega) (by rw [Gf]; omega) (by omega) (by omega)
    rw [KZ,atO,C5 hc,Bool.not_true,wJ,xN (by omega)]
    have ih := MD hl k (i + 1) o (u.1,u.2 ++ [((xU q t.2).2 : Int)]) (xU q t.2).1 (by omega) (by omega) (by simp only [phi,CX,lnA,lnC,lnN]; omega) (by omega)
    rw [OT] at ih
    exact ih
  rw [if_neg h41,vQ (Od 41 41 rfl h41),DC (GK x)]
  cases hw : zD x with
  | false =>
   rw [Bool.not_false,xl,if_neg (by simp)]
   exact ⟨by decide,_,_,_,rfl⟩
  | true =>
   have hs := Tg hl (i := i) (q := q) (A := o.reverse.map eR) (a := atO o t) (t := t.2) (by omega) (by rw [lnM,List.length_reverse]; omega) (by omega) (l.length - i) i (by omega) (by omega)
   have hwe := J8 hx hw
   have hwl := Md (l := l) (j := i + 1) (by omega)
   rw [Bool.not_true,wJ,if_pos rfl,hs]
   cases hwd : Bf ((l.drop i).take (AZ l i - i)) with
   | none => exact ⟨by decide,_,_,_,rfl⟩
   | some nd =>
    have ih := MD hl k (AZ l i) o (t.1,t.2 ++ [(q.length : Int)]) (q ++ [nd]) (by omega) (by omega) (by simp only [phi,lnA,lnC,lnN]; omega) (by omega)
    rw [OT] at ih
    exact ih
end
end Go.Eng
/-! reading a text: the spec -/
namespace Go.Eng
open Go.Proofs Go.Proofs.Try
set_option maxHeartbeats 4000000

theorem RB {p : List Nd} (hl : p.length <= 4294967296) : V 16 [eP p] = some (oP p,[]) := by
 have h : V 32 [.rs (5,0) (p.map eN)] = some (.os (5,0) (p.map eN),[]) := by
  rw [yZ,List.nil_append,xu (decide_eq_true (by rw [oQ,lnM]; simp only [ni]; omega)),xB]
  exact vX _ _
 rw [DW]
 simp (disch := first | omega | (simp only [lnA,lnC,lnN,lnM,xP,vJ]; omega)) only [↓vK,vZ,↓xp,↓xh,h]
end Go.Eng
/-! reading a text: both sides agree -/
namespace Go.Eng
noncomputable section
open Go.Proofs Go.Proofs.Try
set_option maxHeartbeats 4000000

theorem C8 {l : List UInt8} (hl : l.length < 1000000000) : ∀ (k i : Nat) (o : List RwF) (t : RwF) (q : List Nd),i <= l.length -> phi o t q + 2 * (l.length - i) < 4000000000 -> Bv q -> ∀ q' row,CE l k i o t q = .ok q' row -> Bv q' /\ q'.length < 4000000000 /\ row.length < 4000000000
 | 0,i,o,t,q,_,_,_,q',row,h => by rw [CE] at h; cases h
 | k + 1,i,o,t,q,h2,h3,hf,q',row,h => by
  have hph : phi o t q = q.length + t.2.length + (o.map fun x => x.2.length).sum := rfl
  rw [GD] at h
  by_cases hi : i = l.length
  ·have hx : l[i]? = none := List.getElem?_eq_none (by omega)
   rw [hx,IW] at h
   by_cases ho : o = []
   ·rw [if_pos ho] at h
    cases h
    exact ⟨hf,by omega,by omega⟩
   ·rw [if_neg ho] at h; cases h
  obtain ⟨x,hx⟩ := wt (l := l) (i := i) (by omega)
  rw [hx,EU] at h
  by_cases h32 : x = 32
  ·rw [if_pos h32] at h
   exact C8 hl k (i + 1) o t q (by omega) (by omega) hf q' row h
  rw [if_neg h32] at h
  by_cases h40 : x = 40
  ·rw [if_pos h40] at h
   exact C8 hl k (i + 1) (t :: o) ((i : Int),[]) q (by omega) (by simp only [phi,List.map_cons,List.sum_cons,lnN]; omega) hf q' row h
  rw [if_neg h40] at h
  by_cases h41 : x = 41
  ·rw [if_pos h41] at h
   cases o with
   | nil => cases h
   | cons u o =>
    simp only [List.map_cons,List.sum_cons] at hph
    exact C8 hl k (i + 1) o (u.1,u.2 ++ [((xU q t.2).2 : Int)]) (xU q t.2).1 (by omega) (by simp only [phi,CX,lnA,lnC,lnN]; omega) (Oc hf _) q' row h
  rw [if_neg h41] at h
  by_cases hw : zD x = true
  ·rw [if_pos hw] at h
   have hwe := J8 hx hw
   have hwl := Md (l := l) (j := i + 1) (by omega)
   cases hwd : Bf ((l.drop i).take (AZ l i - i)) with
   | none => rw [hwd] at h; cases h
   | some nd =>
    rw [hwd] at h
    have hz := OL hwd
    exact C8 hl k (AZ l i) o (t.1,t.2 ++ [(q.length : Int)]) (q ++ [nd]) (by omega) (by simp only [phi,lnA,lnC,lnN]; omega) (GU hf (by rw [List.length_take,List.length_drop] at hz; omega)) q' row h
  ·rw [if_neg hw] at h; cases h
def T9 (p : List Nd) (n : Nat) (r : RdR) : List Nd × List Int × Int × Int := match r with
 | .err c a => (p,[],c,a)
 | .ok q row => if xT q = true then (q,row,0,(n : Int)) else (p,[],6,0)
def Pe (p : List Nd) (l : List UInt8) : List Nd × List Int × Int × Int := if xT p = false then ([],[],6,0) else if 400 < l.length then (p,[],1,0) else T9 p l.length (CE l (l.length + 1) 0 [] (0,[]) p)
abbrev TJ (r : List Nd × List Int × Int × Int) : Option Ret := some (.tup [oP r.1,.os (1,0) (r.2.1.map eI),iN r.2.2.1,iN r.2.2.2],[])
theorem Nn {p : List Nd} (hf : Bv p) (hl : p.length < 4611686018427387904) (l : List UInt8) : V 8 [eP p,.str (mk l)] = TJ (Pe p l) := by
 have hok := yo hf hl
 unfold Pe
 rw [NF,AQ hok]
 cases h : xT p with
 | false => rw [Bool.not_false,xl,if_pos rfl]; rfl
 | true =>
  have hp := yq h
  have hc := RB (p := p) (by omega)
  rw [Bool.not_true,wJ,if_neg (by simp),xP]
  by_cases h4 : 400 < l.length
  ·rw [wK (decide_eq_true (by simp only [ni]; omega)),zP hc,if_pos h4]; rfl
  have hs := MD (l := l) (by omega) (l.length + 1) 0 [] (0,[]) p (by omega) (by omega) (by simp only [phi,List.map_nil,List.sum_nil,lnN]; omega) (by simp only [lnN]; omega)
  have hff := C8 (l := l) (by omega) (l.length + 1) 0 [] (0,[]) p (by omega) (by simp only [phi,List.map_nil,List.sum_nil,lnN]; omega) hf
  have ht : V 17 [.op [.os (5,0) (p.map eN),.os (1,2) [.os (1,0) []],.os (1,0) []],.str (mk l)] = xR (mk l) 0 (p.map eN) [.os (1,0) []] [] := by rw [FM]
  have hs : IR l.length (CE l (l.length + 1) 0 [] (0,[]) p) (xR (mk l) 0 (p.map eN) [.os (1,0) []] []) := hs
  rw [<- ht] at hs
  rw [vQ (decide_eq_false (by simp only [ni]; omega)),zP hc,if_neg h4]
  cases hr : CE l (l.length + 1) 0 [] (0,[]) p with
  | err c a =>
   rw [hr] at hs
   obtain ⟨hne,A,B,C,hX⟩ := hs
   rw [DD hX,vQ (by simpa using hne),wK (by simpa using hne),zP hc]; rfl
  | ok q row =>
   rw [hr] at hs
   have hX : V 17 [.op [.os (5,0) (p.map eN),.os (1,2) [.os (1,0) []],.os (1,0) []],.str (mk l)] = some (.tup [iN 0,iN (l.length : Int)],[rRd q [.os (1,0) (row.map eI)] []]) := hs
   obtain ⟨h1,h2,h3⟩ := hff q row hr
   have hok2 := yo h1 (by omega)
   rw [DD hX,wK (by rfl),AQ hok2]
   unfold T9
   cases hq : xT q with
   | false => rw [Bool.not_false,xl,zP hc]; simp only [hq]; rfl
   | true => rw [Bool.not_true,wJ,vQ (by rfl),xu (by rfl)]; simp only [hq]; rfl
end
end Go.Eng
/-! texts by their words: reading them,plain -/
namespace Go.Eng
noncomputable section

inductive Tk where
 | sp
 | op
 | cl
 | wd (w : List UInt8) (n : Nd)
def Tk.text : Tk -> List UInt8
 | .sp => [32]
 | .op => [40]
 | .cl => [41]
 | .wd w _ => w
def yP : List Tk -> List UInt8
 | [] => []
 | t :: r => t.text ++ yP r
def Sc : List Tk -> Bool
 | .wd _ _ :: _ => false
 | _ => true
def OkT : List Tk -> Prop
 | [] => True
 | .wd w n :: r => (w ≠ [] /\ w.all zD = true /\ Bf w = some n) /\ Sc r = true /\ OkT r
 | _ :: r => OkT r
def rdT : List Tk -> List (List Int) -> List Int -> List Nd -> Option (List Nd × List Int)
 | [],[],t,q => some (q,t)
 | [],_ :: _,_,_ => none
 | .sp :: r,o,t,q => rdT r o t q
 | .op :: r,o,t,q => rdT r (t :: o) [] q
 | .cl :: _,[],_,_ => none
 | .cl :: r,u :: o,t,q => rdT r o (u ++ [((xU q t).2 : Int)]) (xU q t).1
 | .wd _ n :: r,o,t,q => rdT r o (t ++ [(q.length : Int)]) (q ++ [n])
theorem Uc {w s : List UInt8} (hw : w.all zD = true) (hs : ∀ x r,s = x :: r -> zD x = false) : (w ++ s).takeWhile zD = w := by
 induction w with
 | nil =>
  cases s with
  | nil => rfl
  | cons x r => simp [hs x r rfl]
 | cons a w ih =>
  simp only [List.all_cons,Bool.and_eq_true] at hw
  simp [hw.1,ih hw.2]
theorem NV {r : List Tk} (h : Sc r = true) (x : UInt8) (s : List UInt8) (e : yP r = x :: s) : zD x = false := by
 cases r with
 | nil => cases e
 | cons t r =>
  cases t with
  | sp => simp only [yP,Tk.text,List.cons_append,List.nil_append] at e; cases e; decide
  | op => simp only [yP,Tk.text,List.cons_append,List.nil_append] at e; cases e; decide
  | cl => simp only [yP,Tk.text,List.cons_append,List.nil_append] at e; cases e; decide
  | wd w n => cases h
theorem SY {x : UInt8} (h : zD x = true) : x ≠ 32 /\ x ≠ 40 /\ x ≠ 41 := by
 refine ⟨?_,?_,?_⟩ <;> (rintro rfl; revert h; decide)
theorem JL {l : List UInt8} : ∀ (ts : List Tk) (k i : Nat) (O : List RwF) (T : RwF) (q q' : List Nd) (row : List Int),OkT ts -> l.drop i = yP ts -> i <= l.length -> ts.length < k -> rdT ts (O.map Prod.snd) T.2 q = some (q',row) -> CE l k i O T q = .ok q' row
 | ts,0,i,O,T,q,q',row,_,_,_,hk,_ => by omega
 | [],k + 1,i,O,T,q,q',row,ho,hd,hi,hk,h => by
  have hx : l[i]? = none := by
   have : l.length <= i := by
    have := congrArg List.length hd
    rw [List.length_drop] at this
    simp only [yP,lnN] at this
    omega
   exact List.getElem?_eq_none this
  rw [GD,hx,IW]
  cases O with
  | nil =>
   simp only [List.map_nil,rdT,Option.some.injEq,Prod.mk.injEq] at h
   rw [if_pos rfl,h.1,h.2]
  | cons u O => simp only [List.map_cons,rdT] at h; cases h
 | t :: r,k + 1,i,O,T,q,q',row,ho,hd,hi,hk,h => by
  have hit : ∀ x s,yP (t :: r) = x :: s -> l[i]? = some x /\ i < l.length /\ l.drop (i + 1) = s := fun x s e => by
   have hd2 : l.drop i = x :: s := hd.trans e
   have hil : i < l.length := by
    have := congrArg List.length hd2
    rw [List.length_drop,lnC] at this
    omega
   refine ⟨?_,hil,?_⟩
   ·have := congrArg (fun z => z[0]?) hd2
    simp only [List.getElem?_drop,Nat.add_zero,List.getElem?_cons_zero] at this
    exact this
   ·rw [<- List.drop_drop,hd2]; rfl
  rw [GD]
  cases t with
  | sp =>
   obtain ⟨h1,h2,h3⟩ := hit 32 (yP r) rfl
   rw [h1,EU,if_pos rfl]
   exact JL r k (i + 1) O T q q' row ho h3 h2 (by simp only [lnC] at hk; omega) h
  | op =>
   obtain ⟨h1,h2,h3⟩ := hit 40 (yP r) rfl
   rw [h1,EU,if_neg (by decide),if_pos rfl]
   exact JL r k (i + 1) (T :: O) ((i : Int),[]) q q' row ho h3 h2 (by simp only [lnC] at hk; omega) h
  | cl =>
   obtain ⟨h1,h2,h3⟩ := hit 41 (yP r) rfl
   rw [h1,EU,if_neg (by decide),if_neg (by decide),if_pos rfl]
   cases O with
   | nil => simp only [List.map_nil,rdT] at h; cases h
   | cons u O => exact JL r k (i + 1) O (u.1,u.2 ++ [((xU q T.2).2 : Int)]) (xU q T.2).1 q' row ho h3 h2 (by simp only [lnC] at hk; omega) h
  | wd w n =>
   obtain ⟨⟨w1,w2,w3⟩,w4,w5⟩ := ho
   obtain ⟨x,w',rfl⟩ : ∃ x w',w = x :: w' := by
    cases w with
    | nil => exact absurd rfl w1
    | cons x w' => exact ⟨x,w',rfl⟩
   obtain ⟨h1,h2,h3⟩ := hit x (w' ++ yP r) rfl
   have hx : zD x = true := by simp only [List.all_cons,Bool.and_eq_true] at w2; exact w2.1
   obtain ⟨n1,n2,n3⟩ := SY hx
   have htk : (l.drop i).takeWhile zD = x :: w' := by
    rw [hd]
    exact Uc w2 (fun y s e => NV w4 y s e)
   have hwe : AZ l i = i + (x :: w').length := by unfold AZ; rw [htk]
   have htx : (l.drop i).take (AZ l i - i) = x :: w' := by
    rw [hwe,Nat.add_sub_cancel_left,hd]
    show ((x :: w') ++ yP r).take (x :: w').length = x :: w'
    rw [List.take_left]
   have hdr : l.drop (AZ l i) = yP r := by
    rw [hwe,<- List.drop_drop,hd]
    show ((x :: w') ++ yP r).drop (x :: w').length = yP r
    rw [List.drop_left]
   have hle : AZ l i <= l.length := (Md hi).2
   rw [h1,EU,if_neg n1,if_neg n2,if_neg n3,if_pos hx,htx,w3]
   exact JL r k (AZ l i) O (T.1,T.2 ++ [(q.length : Int)]) (q ++ [n]) q' row w5 hdr hle (by simp only [lnC] at hk; omega) h
theorem PA {ts : List Tk} (h : OkT ts) : ts.length <= (yP ts).length := by
 induction ts with
 | nil => exact Nat.le_refl _
 | cons t r ih =>
  cases t with
  | sp => have := ih h; simp only [yP,Tk.text,lnA,lnC,lnN]; omega
  | op => have := ih h; simp only [yP,Tk.text,lnA,lnC,lnN]; omega
  | cl => have := ih h; simp only [yP,Tk.text,lnA,lnC,lnN]; omega
  | wd w n =>
   have := ih h.2.2
   have h1 : 0 < w.length := List.length_pos_iff.2 h.1.1
   simp only [yP,Tk.text,lnA,lnC]; omega
theorem PU {p q' : List Nd} {ts : List Tk} {row : List Int} (ho : OkT ts) (hp : xT p = true) (hl : (yP ts).length <= 400) (h : rdT ts [] [] p = some (q',row)) : Pe p (yP ts) = if xT q' = true then (q',row,0,((yP ts).length : Int)) else (p,[],6,0) := by
 have hg := JL (l := yP ts) ts ((yP ts).length + 1) 0 [] (0,[]) p q' row ho rfl (Nat.zero_le _) (by have := PA ho; omega) h
 unfold Pe
 rw [if_neg (by simp [hp]),if_neg (by omega),hg]
 rfl
end
end Go.Eng
/-! digits are a number's word,plain -/
namespace Go.Eng

theorem Ck {n : Nat} (h : n < 256) : (UInt8.ofNat n).toNat = n := by simp [UInt8.toNat_ofNat']; omega
theorem Qu {d : Nat} (h : d < 10) : dU (UInt8.ofNat (48 + d)) = true := by
 unfold dU
 rw [Ck (by omega)]
 simp only [Bool.and_eq_true,decide_eq_true_eq]
 omega
theorem Lj : ∀ n : Nat,(BN n).all dU = true := by
 intro n
 induction n using Nat.strongRecOn with
 | _ n ih =>
  by_cases h : n < 10
  ·rw [za h,List.all_cons,Qu h]; rfl
  ·rw [AJ h,List.all_append,ih (n / 10) (by omega),List.all_cons,Qu (by omega)]; rfl
theorem RK (a b : List UInt8) (x : Nat) : Ky x (a ++ b) = Ky (Ky x a) b := by
 unfold Ky; rw [List.foldl_append]
theorem RL : ∀ n : Nat,Ky 0 (BN n) = n := by
 intro n
 induction n using Nat.strongRecOn with
 | _ n ih =>
  by_cases h : n < 10
  ·rw [za h]
   show 10 * 0 + ((UInt8.ofNat (48 + n)).toNat - 48) = n
   rw [Ck (by omega)]; omega
  ·rw [AJ h,RK,ih (n / 10) (by omega)]
   show 10 * (n / 10) + ((UInt8.ofNat (48 + n % 10)).toNat - 48) = n
   rw [Ck (by omega)]; omega
theorem QI {n : Nat} (h : n < 10000000000) : CY (BN n) = some n := by
 have h1 := Gh 9 n (by omega)
 have h2 := I9 n
 unfold CY
 rw [if_neg,RL]
 rintro (e | e | e | e)
 ·omega
 ·omega
 ·rcases Pw n with q | q
  ·exact q e.1
  ·subst q
   rw [za (by omega)] at e
   simp at e
 ·rw [Lj] at e; cases e
theorem Ja (n : Nat) : ∃ d r,BN n = d :: r /\ dU d = true := by
 have h := I9 n
 have ha := Lj n
 generalize BN n = l at h ha
 cases l with
 | nil => simp at h
 | cons d r => rw [List.all_cons,Bool.and_eq_true] at ha; exact ⟨d,r,rfl,ha.1⟩
theorem RU {x : UInt8} (h : dU x = true) : zD x = true := by unfold zD; rw [h]; simp
theorem Te {x : UInt8} (h : dU x = true) : x ≠ 45 /\ x ≠ 35 := by
 constructor <;> (rintro rfl; revert h; decide)
theorem QO {n : Int} (h : n.natAbs <= 1000000000) : PK (yc n) = some n := by
 have hn := QI (n := n.natAbs) (by omega)
 unfold yc
 by_cases h0 : n < 0
 ·rw [if_pos h0]
  obtain ⟨d,r,hd,hdd⟩ := Ja n.natAbs
  rw [hd] at hn ⊢
  unfold PK
  simp only
  rw [if_pos ⟨trivial,hdd⟩,hn]
  unfold Oe
  simp only
  rw [if_pos ⟨by omega,h⟩,show -(n.natAbs : Int) = n by omega]
 ·rw [if_neg h0]
  obtain ⟨d,r,hd,hdd⟩ := Ja n.natAbs
  have hp : JJ (CY (BN n.natAbs)) = some n := by
   rw [hn]; unfold JJ; simp only; rw [if_pos h,show (n.natAbs : Int) = n by omega]
  rw [hd] at hp ⊢
  cases r with
  | nil => exact hp
  | cons e r =>
   show (if d = 45 /\ dU e = true then Oe (CY (e :: r)) else JJ (CY (d :: e :: r))) = some n
   rw [if_neg (fun q => (Te hdd).1 q.1)]
   exact hp
theorem KG {n : Int} : ∃ d r,yc n = d :: r /\ d ≠ 35 /\ (yc n).all zD = true := by
 obtain ⟨d,r,hd,hdd⟩ := Ja n.natAbs
 have ha : (BN n.natAbs).all zD = true := List.all_eq_true.2 fun x hx => RU (List.all_eq_true.1 (Lj _) x hx)
 unfold yc
 by_cases h0 : n < 0
 ·rw [if_pos h0]
  exact ⟨45,_,rfl,by decide,by rw [List.all_cons,ha]; decide⟩
 ·rw [if_neg h0]
  exact ⟨d,r,hd,(Te hdd).2,ha⟩
theorem RN {n : Int} (h : n.natAbs <= 1000000000) : Bf (yc n) = some ⟨3,n,⟨#[]⟩,0,0⟩ := by
 obtain ⟨d,r,hd,hne,_⟩ := KG (n := n)
 have hk := QO h
 unfold Bf
 rw [if_neg (by rw [hd]; intro e; injection e with e1 e2; exact hne e1),if_neg (by rw [hd]; intro e; injection e with e1 e2; exact hne e1),hk]
 rfl
end Go.Eng
/-! code and machines: when they are right,on both sides -/
namespace Go.Eng
noncomputable section
open Go.Proofs Go.Proofs.Try
set_option maxHeartbeats 4000000

structure In where
 op : Int
 n : Int
 i : Int
 s : ByteArray
structure Df where
 name : ByteArray
 at' : Int
 args : Int
structure Cd where
 pool : List Nd
 list : List In
 defs : List Df
abbrev eIn (x : In) : D := .agg [iN x.op,iN x.n,iN x.i,.str x.s]
abbrev eDf (x : Df) : D := .agg [.str x.name,iN x.at',iN x.args]
abbrev eCd (c : Cd) : D := .agg [.rs (5,0) (c.pool.map eN),.rs (4,0) (c.list.map eIn),.rs (3,0) (c.defs.map eDf)]
abbrev oCd (c : Cd) : D := .agg [.os (5,0) (c.pool.map eN),.os (4,0) (c.list.map eIn),.os (3,0) (c.defs.map eDf)]
structure FitsC (c : Cd) : Prop where
 pool : Bv c.pool
 plen : c.pool.length < 4611686018427387904
 list : ∀ x ∈ c.list,x.s.size < 4611686018427387904
 llen : c.list.length < 4611686018427387904
 defs : ∀ x ∈ c.defs,x.name.size < 4611686018427387904
 dlen : c.defs.length < 4611686018427387904
section
variable {R : Type}
theorem Tw (x : In) (K : Int -> Int -> Int -> ByteArray -> Option R) : Ry (eIn x) (fun n4 n7 n10 s13 => (K n4 n7 n10 s13)) = K x.op x.n x.i x.s := rfl
end
def AI (c : Cd) (s : ByteArray) : Int := xb (fun d : Df => jJ d.name s) c.defs
theorem Ct {l : List Df} (hl : l.length < 4611686018427387904) (s : ByteArray) : ∀ (k i : Nat),i + k = l.length -> zl (l.map eDf) s (ni (l.map eDf).length) (i : Int) = some (iN (dw (fun d : Df => jJ d.name s) l i),[])
 | 0,i,hi => by
  rw [Ar,vN (by omega)]
  simp (disch := first | omega | (simp only [lnA,lnC,lnN,lnM,xP,vJ]; omega)) only [↓wJ,xJ,lnM,vJ]
 | k + 1,i,hi => by
  obtain ⟨x,hx⟩ := wt (l := l) (i := i) (by omega)
  have ih := Ct hl s k (i + 1) (by omega)
  have hd : V 47 [eDf x,.bp [.str s]] = some (.bool (jJ x.name s),[]) := by rw [Qw]
  have hw : w6 ((i : Int) + 1) = ((i + 1 : Nat) : Int) := xN (by omega)
  rw [Ar]
  cases h : jJ x.name s with
  | true => rw [vO hx h]; rw [h] at hd; simp (disch := first | omega | (simp only [lnA,lnC,lnN,lnM,xP,vJ]; omega)) only [↓vK,vZ,↓xl,↓wW,↓xp,↓xc,↓xf,↓wH,↓xj,↓wq,↓w9,xK,Bool.and_true,lnM,vJ,↓w8 hx,hd]
  | false =>
   rw [h] at hd
   rw [vx hx h,<- ih,lnM]; simp (disch := first | omega | (simp only [lnA,lnC,lnN,lnM,xP,vJ]; omega)) only [↓vK,vZ,↓xl,↓wJ,↓wW,↓xp,↓xc,↓xf,↓wH,↓xj,↓wq,↓w9,xK,Bool.and_true,vJ,↓w8 hx,hd,hw]
theorem Dv {c : Cd} (hf : FitsC c) (s : ByteArray) : V 23 [eCd c,.str s] = some (iN (AI c s),[]) := by
 have h := Ct hf.dlen s c.defs.length 0 (Nat.zero_add _)
 rw [vy,Int.natCast_zero] at h
 have h2 : V 46 [.rs (3,0) (c.defs.map eDf),.fn 47 [.bp [.str s]]] = some (iN (AI c s),[]) := by
  rw [CM]; exact h
 rw [Ik]
 simp (disch := first | omega | (simp only [lnA,lnC,lnN,lnM,xP,vJ]; omega)) only [↓vK,vZ,↓xp,↓xf,h2]
def Gz (c : Cd) (x : In) (k : Int) : Bool :=
 if x.op = 1 then wi x.n 0 ((c.pool.length : Int) - 1) && (x.i == 0 && nz x.s)
 else if x.op = 2 then wi x.n 0 20 && (wi x.i 0 3 && nz x.s)
 else if x.op = 3 then x.n == 0 && (x.i == 0 && DP x.s)
 else if x.op = 4 \/ x.op = 5 then wi x.n (k + 1) (c.list.length : Int) && (x.i == 0 && nz x.s)
 else if x.op = 6 then wi x.n (k + 1) ((c.list.length : Int) - 1) && (wi x.i 0 4 && nz x.s)
 else if x.op = 7 then x.n == 0 && (wi x.i 0 4 && nz x.s)
 else if x.op = 8 \/ x.op = 9 then x.n == 0 && (x.i == 0 && nz x.s)
 else false
theorem J0 {c : Cd} (hf : FitsC c) {k : Nat} {x : In} (hx : c.list[k]? = some x) : V 44 [eCd c,iN (k : Int)] = some (.bool (Gz c x k),[]) := by
 have hk := aQ hx
 have hl := hf.llen
 have hp := hf.plen
 have hs := hf.list x (List.mem_of_getElem? hx)
 rw [Kh]
 unfold Gz
 have hnm := AE hs
 have hnode := zk hp x.n
 by_cases h1 : x.op = 1
 ·rw [if_pos h1]; simp (disch := first | omega | (simp only [lnA,lnC,lnN,lnM,xP,vJ]; omega)) only [↓vK,vZ,↓xl,↓wW,↓xp,↓xc,↓xf,↓wH,↓xj,↓wq,↓w9,xK,xG,Bool.and_true,lnM,vJ,↓w8 hx,hnode]; simp only [yV]; rfl
 rw [if_neg h1]
 by_cases h2 : x.op = 2
 ·rw [if_pos h2]; simp (disch := first | omega | (simp only [lnA,lnC,lnN,lnM,xP,vJ]; omega)) only [↓vK,vZ,↓xl,↓wJ,↓wW,↓xp,↓xc,↓xf,↓wH,↓xj,↓wq,↓w9,xK,xG,xF,Bool.and_true,lnM,vJ,↓w8 hx,yj]; simp only [yV]; rfl
 rw [if_neg h2]
 by_cases h3 : x.op = 3
 ·rw [if_pos h3]; simp (disch := first | omega | (simp only [lnA,lnC,lnN,lnM,xP,vJ]; omega)) only [↓vK,vZ,↓xl,↓wJ,↓wW,↓xp,↓xc,↓xf,↓wH,↓xj,↓wq,↓w9,xK,xG,xF,Bool.and_true,lnM,vJ,↓w8 hx,hnm]; simp only [yV]
 rw [if_neg h3]
 by_cases h4 : x.op = 4
 ·rw [if_pos (.inl h4)]; simp (disch := first | omega | (simp only [lnA,lnC,lnN,lnM,xP,vJ]; omega)) only [↓vK,vZ,↓xl,↓wJ,↓wW,↓xp,↓xc,↓xf,↓wH,↓xj,↓wq,↓w9,xK,xG,xF,Bool.and_true,lnM,wS,vJ,↓w8 hx,yj]; simp only [yV]; rfl
 by_cases h5 : x.op = 5
 ·rw [if_pos (.inr h5)]; simp (disch := first | omega | (simp only [lnA,lnC,lnN,lnM,xP,vJ]; omega)) only [↓vK,vZ,↓xl,↓wJ,↓wW,↓xp,↓xc,↓xf,↓wH,↓xj,↓wq,↓w9,xK,xG,xF,Bool.and_true,lnM,wS,vJ,↓w8 hx,yj]; simp only [yV]; rfl
 rw [if_neg (by omega)]
 by_cases h6 : x.op = 6
 ·rw [if_pos h6]; simp (disch := first | omega | (simp only [lnA,lnC,lnN,lnM,xP,vJ]; omega)) only [↓vK,vZ,↓xl,↓wJ,↓wW,↓xp,↓xc,↓xf,↓wH,↓xj,↓wq,↓w9,xK,xG,xF,Bool.and_true,lnM,wS,vJ,↓w8 hx,yj]; simp only [yV]; rfl
 rw [if_neg h6]
 by_cases h7 : x.op = 7
 ·rw [if_pos h7]; simp (disch := first | omega | (simp only [lnA,lnC,lnN,lnM,xP,vJ]; omega)) only [↓vK,vZ,↓xl,↓wJ,↓wW,↓xp,↓xc,↓xf,↓wH,↓xj,↓wq,↓w9,xK,xG,xF,Bool.and_true,lnM,vJ,↓w8 hx,yj]; simp only [yV]; rfl
 rw [if_neg h7]
 by_cases h8 : x.op = 8
 ·rw [if_pos (.inl h8)]; simp (disch := first | omega | (simp only [lnA,lnC,lnN,lnM,xP,vJ]; omega)) only [↓xl,↓wJ,↓wW,↓xp,↓xc,↓xf,↓xj,↓wq,↓w9,xK,xG,xF,Bool.and_true,lnM,vJ,↓w8 hx]; simp only [yV]; rfl
 by_cases h9 : x.op = 9
 ·rw [if_pos (.inr h9)]; simp (disch := first | omega | (simp only [lnA,lnC,lnN,lnM,xP,vJ]; omega)) only [↓xl,↓wJ,↓wW,↓xp,↓xc,↓xf,↓xj,↓wq,↓w9,xK,xG,xF,Bool.and_true,lnM,vJ,↓w8 hx]; simp only [yV]; rfl
 rw [if_neg (by omega)]
 simp (disch := first | omega | (simp only [lnA,lnC,lnN,lnM,xP,vJ]; omega)) only [↓wJ,↓wW,↓xp,↓xc,↓xf,↓xj,↓wq,↓w9,xK,xF,Bool.and_true,lnM,vJ,↓w8 hx]
def BL (c : Cd) : Nat -> Nat -> Bool
 | _,0 => true
 | i,k + 1 => (match c.list[i]? with | some x => Gz c x i | none => true) && BL c (i + 1) k
def PQ (c : Cd) (d : Df) (i : Int) : Bool := DP d.name && (AI c d.name == i && (wi d.at' 0 ((c.list.length : Int) - 1) && wi d.args 0 4))
def AV (c : Cd) : Nat -> Nat -> Bool
 | _,0 => true
 | i,k + 1 => (match c.defs[i]? with | some d => PQ c d i | none => true) && AV c (i + 1) k
def yv (c : Cd) : Bool := xT c.pool && (decide (c.list.length <= 400) && (decide (c.defs.length <= 20) && (BL c 0 c.list.length && AV c 0 c.defs.length)))
theorem D5 {c : Cd} (hf : FitsC c) : ∀ (k i : Nat),i + k = c.defs.length -> zW (c.defs.map eDf) (ni (c.defs.map eDf).length) (i : Int) (c.pool.map eN) (c.list.map eIn) (c.defs.map eDf) = some (.bool (AV c i k),[])
 | 0,i,hi => by
  have hd := hf.dlen
  rw [Bw]
  simp (disch := first | omega | (simp only [lnA,lnC,lnN,lnM,xP,vJ]; omega)) only [↓wJ,xJ,lnM,vJ]
  rfl
 | k + 1,i,hi => by
  have hd := hf.dlen
  have hll := hf.llen
  obtain ⟨x,hx⟩ := wt (l := c.defs) (i := i) (by omega)
  have ih := D5 hf k (i + 1) (by omega)
  rw [lnM] at ih
  have hw : w6 ((i : Int) + 1) = ((i + 1 : Nat) : Int) := xN (by omega)
  have hdf := Dv hf x.name
  have hnm := AE (hf.defs x (List.mem_of_getElem? hx))
  rw [Bw]
  simp only [AV,hx,PQ]
  cases e1 : DP x.name with
  | false => rw [e1] at hnm; simp (disch := first | omega | (simp only [lnA,lnC,lnN,lnM,xP,vJ]; omega)) only [↓vK,vZ,↓xl,↓wW,↓xp,↓xc,↓xf,↓wH,↓xj,↓wq,↓w9,xK,Bool.and_true,Bool.false_and,Bool.not_false,lnM,vJ,↓w8 hx,hnm]
  | true =>
   rw [e1] at hnm
   by_cases e2 : AI c x.name = (i : Int)
   ·rw [e2] at hdf
    simp (disch := first | omega | (simp only [lnA,lnC,lnN,lnM,xP,vJ]; omega)) only [↓vK,vZ,↓xl,↓wJ,↓wW,↓xp,↓xc,↓xf,↓wH,↓xj,↓wq,↓w9,xK,xG,xH,Bool.true_and,Bool.and_true,Bool.not_true,lnM,wS,vJ,↓w8 hx,hnm,hdf,e2,yj,hw,ih]
    cases wi x.at' 0 ((c.list.length : Int) - 1) <;> cases wi x.args 0 4 <;> rfl
   ·simp (disch := first | omega | (simp only [lnA,lnC,lnN,lnM,xP,vJ]; omega)) only [↓vK,vZ,↓xl,↓wJ,↓wW,↓xp,↓xc,↓xf,↓wH,↓xj,↓wq,↓w9,xK,xF,xI,Bool.and_true,Bool.false_and,Bool.and_false,Bool.not_true,lnM,vJ,↓w8 hx,hnm,hdf]
theorem Fu {c : Cd} (hf : FitsC c) : ∀ (k i : Nat),i + k = c.list.length -> Ac (ni (c.list.map eIn).length) (i : Int) (c.pool.map eN) (c.list.map eIn) (c.defs.map eDf) = some (.bool (BL c i k && AV c 0 c.defs.length),[])
 | 0,i,hi => by
  have hll := hf.llen
  have h := D5 hf c.defs.length 0 (Nat.zero_add _)
  rw [Int.natCast_zero,lnM] at h
  rw [BX]
  simp (disch := first | omega | (simp only [lnA,lnC,lnN,lnM,xP,vJ]; omega)) only [↓wJ,xJ,lnM,vJ,h]
  rfl
 | k + 1,i,hi => by
  have hll := hf.llen
  obtain ⟨x,hx⟩ := wt (l := c.list) (i := i) (by omega)
  have ih := Fu hf k (i + 1) (by omega)
  rw [lnM] at ih
  have hw : w6 ((i : Int) + 1) = ((i + 1 : Nat) : Int) := xN (by omega)
  have hi := J0 hf hx
  rw [BX]
  simp only [BL,hx]
  cases e1 : Gz c x i with
  | false => rw [e1] at hi; simp (disch := first | omega | (simp only [lnA,lnC,lnN,lnM,xP,vJ]; omega)) only [↓vK,vZ,↓xl,↓xp,↓wH,xK,Bool.false_and,Bool.not_false,lnM,vJ,hi]
  | true => rw [e1] at hi; simp (disch := first | omega | (simp only [lnA,lnC,lnN,lnM,xP,vJ]; omega)) only [↓vK,vZ,↓xl,↓wJ,↓xp,↓wH,xK,Bool.true_and,Bool.not_true,lnM,vJ,hi,hw,ih]
theorem CH {c : Cd} (hf : FitsC c) : V 22 [eCd c] = some (.bool (yv c),[]) := by
 have hp := yo hf.pool hf.plen
 have h := Fu hf c.list.length 0 (Nat.zero_add _)
 rw [Int.natCast_zero,lnM] at h
 rw [Lk]
 unfold yv
 cases e1 : xT c.pool with
 | false => rw [e1] at hp; simp (disch := first | omega | (simp only [lnA,lnC,lnN,lnM,xP,vJ]; omega)) only [↓vK,vZ,↓xl,↓xp,↓wH,Bool.false_and,Bool.not_false,hp]
 | true =>
  rw [e1] at hp
  by_cases e2 : c.list.length <= 400
  ·by_cases e3 : c.defs.length <= 20
   ·simp (disch := first | omega | (simp only [lnA,lnC,lnN,lnM,xP,vJ]; omega)) only [↓vK,vZ,↓wJ,↓xp,↓wH,xK,xJ,Bool.true_and,Bool.not_true,lnM,vJ,hp,h]
   ·simp (disch := first | omega | (simp only [lnA,lnC,lnN,lnM,xP,vJ]; omega)) only [↓vK,vZ,↓xl,↓wJ,↓xp,↓wH,xK,xJ,Bool.false_and,Bool.and_false,Bool.not_true,lnM,vJ,hp]
  ·simp (disch := first | omega | (simp only [lnA,lnC,lnN,lnM,xP,vJ]; omega)) only [↓vK,vZ,↓xl,↓wJ,↓xp,↓wH,xK,xJ,Bool.false_and,Bool.and_false,Bool.not_true,lnM,vJ,hp]
structure Mc where
 pool : List Nd
 at' : Int
 s : Int
 e : Int
 d : Int
 state : Int
 ask : Int
 arg : Int
abbrev eMc (m : Mc) : D := .agg [.rs (5,0) (m.pool.map eN),iN m.at',iN m.s,iN m.e,iN m.d,iN m.state,iN m.ask,iN m.arg]
abbrev oMc (m : Mc) : D := .agg [.os (5,0) (m.pool.map eN),iN m.at',iN m.s,iN m.e,iN m.d,iN m.state,iN m.ask,iN m.arg]
def Bi (p : List Nd) (v : Int) : Bool := wi v 0 ((p.length : Int) - 1)
def Gb (c : Cd) (m : Mc) : Bool :=
 if m.state = 0 then wi m.at' 0 ((c.list.length : Int) - 1) && (m.ask == 0 && m.arg == 0)
 else if m.state = 1 then wi m.at' 0 ((c.list.length : Int) - 1) && (wi m.ask 13 19 && ((m.ask != 18) && Bi m.pool m.arg))
 else if m.state = 2 then m.at' == 0 && (m.ask == 0 && Bi m.pool m.arg)
 else if m.state = 3 then m.at' == 0 && (wi m.ask 1 7 && m.arg == 0)
 else false
def z4 (c : Cd) (m : Mc) : Bool := yv c && (xT m.pool && (Bi m.pool m.s && (Bi m.pool m.e && (Bi m.pool m.d && Gb c m))))
theorem K7 {c : Cd} (hl : c.list.length < 4611686018427387904) (n : Int) : V 48 [eCd c,iN n] = some (.bool (wi n 0 ((c.list.length : Int) - 1)),[]) := by
 rw [Kj]
 simp (disch := first | omega | (simp only [lnA,lnC,lnN,lnM,xP,vJ]; omega)) only [↓vK,vZ,↓xp,↓wH,lnM,wS,vJ,yj]
theorem Dc {c : Cd} (hf : FitsC c) {m : Mc} (hm : Bv m.pool) (hl : m.pool.length < 4611686018427387904) : V 24 [eCd c,eMc m] = some (.bool (z4 c m),[]) := by
 have hc := CH hf
 have hp := yo hm hl
 have h1 := zk hl m.s
 have h2 := zk hl m.e
 have h3 := zk hl m.d
 have h4 := zk hl m.arg
 have h5 := K7 hf.llen m.at'
 rw [IA]
 unfold z4 Bi
 cases e1 : yv c with
 | false => rw [e1] at hc; simp (disch := first | omega | (simp only [lnA,lnC,lnN,lnM,xP,vJ]; omega)) only [↓vK,vZ,↓xl,↓xp,↓wH,Bool.false_and,Bool.not_false,hc]
 | true =>
 rw [e1] at hc
 cases e2 : xT m.pool with
 | false => rw [e2] at hp; simp (disch := first | omega | (simp only [lnA,lnC,lnN,lnM,xP,vJ]; omega)) only [↓vK,vZ,↓xl,↓wJ,↓xp,↓wH,Bool.false_and,Bool.and_false,Bool.not_true,Bool.not_false,hc,hp]
 | true =>
 rw [e2] at hp
 cases e3 : wi m.s 0 ((m.pool.length : Int) - 1) with
 | false => rw [e3] at h1; simp (disch := first | omega | (simp only [lnA,lnC,lnN,lnM,xP,vJ]; omega)) only [↓vK,vZ,↓xl,↓wJ,↓xp,↓wH,Bool.false_and,Bool.and_false,Bool.not_true,Bool.not_false,hc,hp,h1]
 | true =>
 rw [e3] at h1
 cases e4 : wi m.e 0 ((m.pool.length : Int) - 1) with
 | false => rw [e4] at h2; simp (disch := first | omega | (simp only [lnA,lnC,lnN,lnM,xP,vJ]; omega)) only [↓vK,vZ,↓xl,↓wJ,↓xp,↓wH,Bool.false_and,Bool.and_false,Bool.not_true,Bool.not_false,hc,hp,h1,h2]
 | true =>
 rw [e4] at h2
 cases e5 : wi m.d 0 ((m.pool.length : Int) - 1) with
 | false => rw [e5] at h3; simp (disch := first | omega | (simp only [lnA,lnC,lnN,lnM,xP,vJ]; omega)) only [↓vK,vZ,↓xl,↓wJ,↓xp,↓wH,Bool.false_and,Bool.and_false,Bool.not_true,Bool.not_false,hc,hp,h1,h2,h3]
 | true =>
 rw [e5] at h3
 unfold Gb Bi
 by_cases s0 : m.state = 0
 ·rw [if_pos s0]; simp (disch := first | omega | (simp only [lnA,lnC,lnN,lnM,xP,vJ]; omega)) only [↓vK,vZ,↓xl,↓wJ,↓xp,↓wH,xG,Bool.true_and,Bool.not_true,hc,hp,h1,h2,h3,h5]; simp only [yV]
 rw [if_neg s0]
 by_cases s1 : m.state = 1
 ·rw [if_pos s1]; simp (disch := first | omega | (simp only [lnA,lnC,lnN,lnM,xP,vJ]; omega)) only [↓vK,vZ,↓xl,↓wJ,↓xp,↓wH,xG,xF,Bool.true_and,Bool.not_true,hc,hp,h1,h2,h3,h4,h5,yj]; simp only [yV]
 rw [if_neg s1]
 by_cases s2 : m.state = 2
 ·rw [if_pos s2]; simp (disch := first | omega | (simp only [lnA,lnC,lnN,lnM,xP,vJ]; omega)) only [↓vK,vZ,↓xl,↓wJ,↓xp,↓wH,xG,xF,Bool.true_and,Bool.not_true,hc,hp,h1,h2,h3,h4]; simp only [yV]
 rw [if_neg s2]
 by_cases s3 : m.state = 3
 ·rw [if_pos s3]; simp (disch := first | omega | (simp only [lnA,lnC,lnN,lnM,xP,vJ]; omega)) only [↓vK,vZ,↓xl,↓wJ,↓xp,↓wH,xG,xF,Bool.true_and,Bool.not_true,hc,hp,h1,h2,h3,yj]; simp only [yV]
 rw [if_neg s3]
 simp (disch := first | omega | (simp only [lnA,lnC,lnN,lnM,xP,vJ]; omega)) only [↓vK,vZ,↓wJ,↓xp,↓wH,xF,Bool.and_false,Bool.not_true,hc,hp,h1,h2,h3]
end
end Go.Eng
/-! numbers and texts as bytes,on both sides -/
namespace Go.Eng
open Go.Proofs Go.Proofs.Try

end Go.Eng
/-! how great a value is,the program's side -/
namespace Go.Eng
open Go.Proofs Go.Proofs.Try

end Go.Eng
/-! what is moved is as it was: the plain side -/
namespace Go.Eng

noncomputable def ye (p : List Nd) : Prop := ∀ (j : Nat) (x : Nd),p[j]? = some x -> okN x j = true
theorem KV {p : List Nd} (h : ye p) : ∀ (k i : Nat),Ek p i k = true
 | 0,i => rfl
 | k + 1,i => by
  simp only [Ek,KV h k (i + 1),Bool.and_true]
  split
  ·exact h _ _ ‹_›
  ·rfl
theorem okPool_iff {p : List Nd} : xT p = true ↔ ye p /\ p.length <= 3000 := by
 constructor
 ·intro h; exact ⟨fun j x hx => yG h hx,yq h⟩
 ·rintro ⟨h,hl⟩
  simp only [xT,KV h,Bool.true_and,decide_eq_true_eq]; omega
noncomputable def Qr (q q' : List Nd) (m : List Bool) (to : List Int) : Prop := ∀ (i : Nat) (x : Nd),q[i]? = some x -> m[i]? = some true -> ∃ j : Nat,to[i]? = some (j : Int) /\ q'[j]? = some (ym to x)
theorem Js {pre r : List Int} {x : Nd} {i : Nat} (ho : okN x i = true) (hp : i <= pre.length) : ym (pre ++ r) x = ym pre x := by
 have g : ∀ n : Int,0 <= n -> n < i -> (pre ++ r).getD n.toNat 0 = pre.getD n.toNat 0 := by
  intro n h0 h1
  simp only [List.getD_eq_getElem?_getD]
  rw [List.getElem?_append_left (by omega)]
 unfold ym
 split
 ·rename_i h5
  have := yR ho h5
  rw [g _ (by omega) (by omega),g _ (by omega) (by omega)]
 ·split
  ·rename_i h6
   have := zY ho h6
   rw [g _ (by omega) (by omega)]
  ·rfl
theorem PH {pre : List Int} {x : Nd} {i h : Nat} (ho : okN x i = true) (h5 : x.kind = 5 -> ∃ a b : Nat,pre[x.a.toNat]? = some (a : Int) /\ pre[x.b.toNat]? = some (b : Int) /\ a < h /\ b < h)
  (h6 : x.kind = 6 \/ x.kind = 7 -> ∃ a : Nat,pre[x.a.toNat]? = some (a : Int) /\ a < h) : okN (ym pre x) h = true := by
 by_cases k5 : x.kind = 5
 ·obtain ⟨a,b,ha,hb,h1,h2⟩ := h5 k5
  simp only [ym,k5,if_true,List.getD_eq_getElem?_getD,ha,hb,Option.getD_some]
  simp [okN,k5] at ho ⊢
  exact ⟨ho.1,ho.2.1,wi_iff.2 ⟨by omega,by omega⟩,wi_iff.2 ⟨by omega,by omega⟩⟩
 ·by_cases k6 : x.kind = 6 \/ x.kind = 7
  ·obtain ⟨a,ha,h1⟩ := h6 k6
   simp only [ym,k5,k6,if_true,if_false,List.getD_eq_getElem?_getD,ha,Option.getD_some]
   rcases k6 with k6 | k6
   ·simp [okN,k6] at ho ⊢; exact ⟨ho.1,ho.2.1,wi_iff.2 ⟨by omega,by omega⟩,ho.2.2.2⟩
   ·simp [okN,k6] at ho ⊢; exact ⟨ho.1,ho.2.1,wi_iff.2 ⟨by omega,by omega⟩,ho.2.2.2⟩
  ·have k6' : ¬ x.kind = 6 := fun h => k6 (.inl h)
   have k7' : ¬ x.kind = 7 := fun h => k6 (.inr h)
   simp only [ym,k5,k6,if_false]
   simp only [okN,k5,k6',k7',if_false] at ho ⊢
   exact ho
theorem Jq {q : List Nd} (hq : ye q) {m : List Bool} (hm : m.length = q.length) (hc : Qq q m) (d : Int) : ∀ (k : Nat) (pre : List Int) (acc : List Nd),pre.length + k = q.length -> ye acc ->
  (∀ (i : Nat) (x : Nd),i < pre.length -> q[i]? = some x -> m[i]? = some true -> ∃ j : Nat,pre[i]? = some (j : Int) /\ acc[j]? = some (ym pre x)) ->
  ye (Aj d q m k pre acc).2 /\ Qr q (Aj d q m k pre acc).2 m (Aj d q m k pre acc).1
 | 0,pre,acc,hk,ha,hi => by
  simp only [Aj]
  exact ⟨ha,fun i x hx hmi => hi i x (by have := aQ hx; omega) hx hmi⟩
 | k + 1,pre,acc,hk,ha,hi => by
  obtain ⟨x,hx⟩ := wt (l := q) (i := pre.length) (by omega)
  obtain ⟨b,hb⟩ := wt (l := m) (i := pre.length) (by omega)
  simp only [Aj,hx,hb]
  have hox := hq _ _ hx
  have old : ∀ (u : Int) (acc' : List Nd),(∀ (j : Nat) (y : Nd),acc[j]? = some y -> acc'[j]? = some y) -> ∀ (i : Nat) (y : Nd),i < pre.length -> q[i]? = some y -> m[i]? = some true -> ∃ j : Nat,(pre ++ [u])[i]? = some (j : Int) /\ acc'[j]? = some (ym (pre ++ [u]) y) := by
   intro u acc' hacc i y hil hy hmi
   obtain ⟨j,h1,h2⟩ := hi i y hil hy hmi
   refine ⟨j,by rw [List.getElem?_append_left hil]; exact h1,?_⟩
   rw [Js (hq _ _ hy) (by omega)]
   exact hacc _ _ h2
  cases b with
  | false =>
   refine Jq hq hm hc d k (pre ++ [d]) acc (by simp; omega) ha ?_
   intro i y hil hy hmi
   by_cases e : i = pre.length
   ·subst e; rw [hb] at hmi; cases hmi
   ·exact old d acc (fun _ _ h => h) i y (by simp at hil; omega) hy hmi
  | true =>
   have hcx := hc _ _ hx hb
   have kid : ∀ n : Int,On m n -> 0 <= n -> n < pre.length -> ∃ a : Nat,pre[n.toNat]? = some (a : Int) /\ a < acc.length := by
    intro n hn h0 h1
    obtain ⟨y,hy⟩ := wt (l := q) (i := n.toNat) (by omega)
    obtain ⟨j,h2,h3⟩ := hi n.toNat y (by omega) hy hn
    exact ⟨j,h2,aQ h3⟩
   have hok : okN (ym pre x) acc.length = true := PH hox
    (fun h5 => by
     have h := yR hox h5
     obtain ⟨a,ha1,ha2⟩ := kid x.a (hcx.1 h5).1 h.1 h.2.1
     obtain ⟨b,hb1,hb2⟩ := kid x.b (hcx.1 h5).2 h.2.2.1 h.2.2.2
     exact ⟨a,b,ha1,hb1,ha2,hb2⟩)
    (fun h6 => by
     have h := zY hox h6
     exact kid x.a (hcx.2 h6) h.1 h.2)
   have ha' : ye (acc ++ [ym pre x]) := by
    intro j y hy
    by_cases e : j < acc.length
    ·rw [List.getElem?_append_left e] at hy; exact ha j y hy
    ·have hl := aQ hy
     have : j = acc.length := by simp at hl; omega
     subst this
     simp at hy; subst hy; exact hok
   refine Jq hq hm hc d k (pre ++ [(acc.length : Int)]) (acc ++ [ym pre x]) (by simp; omega) ha' ?_
   intro i y hil hy hmi
   by_cases e : i = pre.length
   ·subst e; rw [hx] at hy; cases hy
    refine ⟨acc.length,by simp,?_⟩
    rw [Js hox (Nat.le_refl _)]; simp
   ·exact old _ _ (fun j z h => by rw [List.getElem?_append_left (aQ h)]; exact h) i y (by simp at hil; omega) hy hmi
theorem Jr (d : Int) (q : List Nd) (m : List Bool) : ∀ (k : Nat) (pre : List Int) (acc : List Nd),∃ r,(Aj d q m k pre acc).2 = acc ++ r
 | 0,pre,acc => ⟨[],by simp [Aj]⟩
 | k + 1,pre,acc => by
  simp only [Aj]
  split
  ·obtain ⟨r,h⟩ := Jr d q m k (pre ++ [(acc.length : Int)]) (acc ++ [ym pre ‹Nd›])
   exact ⟨_,by rw [h,List.append_assoc]⟩
  ·exact Jr d q m k _ acc
theorem Jo {q acc : List Nd} (hq : xT q = true) (ha : ye acc) (rs : List Int) (d : Int) : ye (zO d q rs acc).2 /\ Qr q (zO d q rs acc).2 (z5 q rs) (zO d q rs acc).1 :=
 Jq (okPool_iff.1 hq).1 (Cz q rs) (Cy hq rs) d q.length [] acc (Nat.zero_add _) ha (fun i x h => absurd h (by simp))

theorem O6 (to : List Int) (x : Nd) : (ym to x).kind = x.kind /\ (ym to x).n = x.n /\ (ym to x).s = x.s := by
 unfold ym
 split
 ·exact ⟨rfl,rfl,rfl⟩
 ·split <;> exact ⟨rfl,rfl,rfl⟩
end Go.Eng
/-! what is kept is all reached,and as great as it was: the plain side -/
namespace Go.Eng

inductive Rch (q : List Nd) (rs : List Int) : Nat -> Prop
 | root {r : Int} : r ∈ rs -> Rch q rs r.toNat
 | a {i : Nat} {x : Nd} : Rch q rs i -> q[i]? = some x -> (x.kind = 5 \/ x.kind = 6 \/ x.kind = 7) -> Rch q rs x.a.toNat
 | b {i : Nat} {x : Nd} : Rch q rs i -> q[i]? = some x -> x.kind = 5 -> Rch q rs x.b.toNat
theorem GG {m : List Bool} {i j : Nat} (h : (m.set i true)[j]? = some true) : j = i \/ m[j]? = some true := by
 by_cases e : i = j
 ·exact .inl e.symm
 ·rw [List.getElem?_set_ne e] at h; exact .inr h
theorem FC {q : List Nd} {rs : List Int} : ∀ (k : Nat) {m : List Bool},(∀ j : Nat,m[j]? = some true -> Rch q rs j) -> ∀ j : Nat,(yz q k m)[j]? = some true -> Rch q rs j
 | 0,m,h,j,hj => h j hj
 | k + 1,m,h,j,hj => by
  simp only [yz] at hj
  refine FC k ?_ j hj
  intro i hi
  split at hi
  ·rename_i x hx hm
   have hk := h k hm
   unfold yQ at hi
   split at hi
   ·rename_i h5
    rcases GG hi with e | hi
    ·rw [e]; exact .b hk hx h5
    ·rcases GG hi with e | hi
     ·rw [e]; exact .a hk hx (.inl h5)
     ·exact h i hi
   ·split at hi
    ·rename_i h6
     rcases GG hi with e | hi
     ·rw [e]; exact .a hk hx (.inr h6)
     ·exact h i hi
    ·exact h i hi
  ·exact h i hi
theorem GE : ∀ {rs : List Int} {m : List Bool} {j : Nat},(EH rs m)[j]? = some true -> m[j]? = some true \/ ∃ r ∈ rs,r.toNat = j
 | [],m,j,h => .inl h
 | r :: rs,m,j,h => by
  have h' : (EH rs (m.set r.toNat true))[j]? = some true := h
  rcases GE h' with h | ⟨s,hs,e⟩
  ·rcases GG h with e | h
   ·exact .inr ⟨r,by simp,e.symm⟩
   ·exact .inl h
  ·exact .inr ⟨s,by simp [hs],e⟩
theorem M9 {q : List Nd} {rs : List Int} {j : Nat} (h : (z5 q rs)[j]? = some true) : Rch q rs j := by
 refine FC _ ?_ j h
 intro i hi
 rcases GE hi with h | ⟨r,hr,e⟩
 ·rw [List.getElem?_replicate] at h
  split at h <;> cases h
 ·rw [<- e]; exact .root hr
theorem EF {q : List Nd} (hq : xT q = true) {rs : List Int} (hr : yk q rs = true) {j : Nat} (h : Rch q rs j) : (z5 q rs)[j]? = some true := by
 induction h with
 | root hm => exact EE hr _ hm
 | a h hx hk ih =>
  have hc := Cy hq rs _ _ hx ih
  rcases hk with hk | hk
  ·exact (hc.1 hk).1
  ·exact hc.2 hk
 | b h hx hk ih => exact ((Cy hq rs _ _ hx ih).1 hk).2

theorem GV (d : Int) {q : List Nd} {m : List Bool} (hm : m.length = q.length) : ∀ (k : Nat) (pre : List Int) (acc : List Nd),pre.length + k = q.length ->
  (∀ j : Nat,j < acc.length -> ∃ i : Nat,m[i]? = some true /\ pre[i]? = some (j : Int)) -> ∀ j : Nat,j < (Aj d q m k pre acc).2.length -> ∃ i : Nat,m[i]? = some true /\ (Aj d q m k pre acc).1[i]? = some (j : Int)
 | 0,pre,acc,hk,h,j,hj => h j hj
 | k + 1,pre,acc,hk,h,j,hj => by
  obtain ⟨x,hx⟩ := wt (l := q) (i := pre.length) (by omega)
  obtain ⟨b,hb⟩ := wt (l := m) (i := pre.length) (by omega)
  simp only [Aj,hx,hb] at hj ⊢
  have old : ∀ (u : Int) (j : Nat),j < acc.length -> ∃ i : Nat,m[i]? = some true /\ (pre ++ [u])[i]? = some (j : Int) := by
   intro u j hj
   obtain ⟨i,h1,h2⟩ := h j hj
   exact ⟨i,h1,by rw [List.getElem?_append_left (aQ h2)]; exact h2⟩
  cases b with
  | false => exact GV d hm k (pre ++ [d]) acc (by simp; omega) (old d) j hj
  | true =>
   refine GV d hm k (pre ++ [(acc.length : Int)]) (acc ++ [ym pre x]) (by simp; omega) ?_ j hj
   intro i hi
   by_cases e : i < acc.length
   ·exact old _ i e
   ·have : i = acc.length := by simp at hi; omega
    subst this
    exact ⟨pre.length,hb,by simp⟩
theorem PT {q q' : List Nd} (hq : xT q = true) {rs : List Int} (hr : yk q rs = true) {to now : List Int} (hmv : Qr q q' (z5 q rs) to) (hn : ∀ r ∈ rs,to.getD r.toNat 0 ∈ now) {i : Nat} (h : Rch q rs i) : ∀ j : Nat,to[i]? = some (j : Int) -> Rch q' now j := by
 have one : ∀ {i : Nat} {x : Nd},Rch q rs i -> q[i]? = some x -> ∃ j : Nat,to[i]? = some (j : Int) /\ q'[j]? = some (ym to x) := fun h hx => hmv _ _ hx (EF hq hr h)
 induction h with
 | root hm =>
  rename_i r
  intro j hj
  have e : to.getD r.toNat 0 = (j : Int) := by rw [List.getD_eq_getElem?_getD,hj]; rfl
  have := Rch.root (q := q') (hn r hm)
  rw [e] at this
  exact this
 | a h hx hk ih =>
  rename_i i x
  intro j hj
  obtain ⟨ji,e1,e2⟩ := one h hx
  have h' := ih ji e1
  have ea : (ym to x).a.toNat = j := by
   rcases hk with hk | hk
   ·simp only [ym,hk,if_true,List.getD_eq_getElem?_getD,hj,Option.getD_some,Int.toNat_natCast]
   ·have h5 : ¬ x.kind = 5 := by omega
    simp only [ym,h5,hk,if_true,if_false,List.getD_eq_getElem?_getD,hj,Option.getD_some,Int.toNat_natCast]
  rw [<- ea]
  exact .a h' e2 (by rw [(O6 to x).1]; exact hk)
 | b h hx hk ih =>
  rename_i i x
  intro j hj
  obtain ⟨ji,e1,e2⟩ := one h hx
  have h' := ih ji e1
  have ea : (ym to x).b.toNat = j := by
   simp only [ym,hk,if_true,List.getD_eq_getElem?_getD,hj,Option.getD_some,Int.toNat_natCast]
  rw [<- ea]
  exact .b h' e2 (by rw [(O6 to x).1]; exact hk)
noncomputable def ids (n : Nat) : List Int := (List.range n).map fun k : Nat => (k : Int)
theorem KY {n i : Nat} (h : i < n) : (ids (n))[i]? = some (i : Int) := by
 rw [ids,List.getElem?_map,List.getElem?_range h]; rfl
theorem PG {x : Nd} {i : Nat} (ho : okN x i = true) : ym (ids (i)) x = x := by
 have g : ∀ n : Int,0 <= n -> n < i -> (ids (i)).getD n.toNat 0 = n := by
  intro n h0 h1
  rw [List.getD_eq_getElem?_getD,KY (by omega)]
  simp; omega
 unfold ym
 split
 ·rename_i h5
  have := yR ho h5
  rw [g _ (by omega) (by omega),g _ (by omega) (by omega)]
 ·split
  ·rename_i h6
   have := zY ho h6
   rw [g _ (by omega) (by omega)]
  ·rfl
theorem MH (d : Int) {q : List Nd} (hq : ye q) {m : List Bool} (hm : ∀ j : Nat,j < q.length -> m[j]? = some true) : ∀ (k i : Nat),i + k = q.length ->
  Aj d q m k (ids (i)) (q.take i) = (ids (q.length),q)
 | 0,i,h => by
  have : i = q.length := by omega
  subst this
  simp [Aj]
 | k + 1,i,h => by
  obtain ⟨x,hx⟩ := wt (l := q) (i := i) (by omega)
  have hl : (ids (i)).length = i := by simp [ids]
  have ht : (q.take i).length = i := by simp; omega
  have ih := MH d hq hm k (i + 1) (by omega)
  have es : ids (i + 1) = ids i ++ [(i : Int)] := by simp [ids,List.range_succ]
  rw [es,xo hx] at ih
  simp only [Aj,hl,hx,hm i (by omega),ht,PG (hq _ _ hx)]
  exact ih
theorem NW {q : List Nd} (hq : xT q = true) {rs : List Int} (hr : yk q rs = true) (d d' : Int) : xT (yJ d q rs).1 = true /\ yk (yJ d q rs).1 (yJ d q rs).2 = true /\ yJ d' (yJ d q rs).1 (yJ d q rs).2 = yJ d q rs := by
 obtain ⟨h1,h2⟩ := Jo hq (acc := []) (fun j x h => by simp at h) rs d
 have hlen := Gw d q (z5 q rs) q.length [] []
 have hok : xT (zO d q rs []).2 = true := okPool_iff.2 ⟨h1,by have := yq hq; have := hlen; simp [zO] at this ⊢; omega⟩
 have hto : ∀ r ∈ rs,∃ j : Nat,(zO d q rs []).1[r.toNat]? = some (j : Int) /\ j < (zO d q rs []).2.length := by
  intro r hm
  have hl := Dt hr r hm
  obtain ⟨x,hx⟩ := wt (l := q) (i := r.toNat) (by omega)
  obtain ⟨j,e1,e2⟩ := h2 _ x hx (EE hr r hm)
  exact ⟨j,e1,aQ e2⟩
 have hgd : ∀ r ∈ rs,0 <= (zO d q rs []).1.getD r.toNat 0 /\ (zO d q rs []).1.getD r.toNat 0 < ((zO d q rs []).2.length : Int) := by
  intro r hm
  obtain ⟨j,e1,e2⟩ := hto r hm
  rw [List.getD_eq_getElem?_getD,e1]; simp; omega
 have hri : yk (yJ d q rs).1 (yJ d q rs).2 = true := by
  unfold yk yJ
  rw [List.all_map,List.all_eq_true]
  intro r hm
  have := hgd r hm
  exact wi_iff.2 ⟨this.1,by simp only; omega⟩
 refine ⟨hok,hri,?_⟩
 have hall : ∀ j : Nat,j < (yJ d q rs).1.length -> (z5 (yJ d q rs).1 (yJ d q rs).2)[j]? = some true := by
  intro j hj
  obtain ⟨i,hi,ht⟩ := GV d (Cz q rs) q.length [] [] (Nat.zero_add _) (fun j h => by simp at h) j hj
  exact EF hok hri (PT hq hr h2 (fun r hm => List.mem_map.2 ⟨r,hm,rfl⟩) (M9 hi) j ht)
 have hm := MH d' (okPool_iff.1 hok).1 hall (yJ d q rs).1.length 0 (Nat.zero_add _)
 have e : zO d' (yJ d q rs).1 (yJ d q rs).2 [] = (ids ((yJ d q rs).1.length),(yJ d q rs).1) := hm
 have e2 : yJ d' (yJ d q rs).1 (yJ d q rs).2 = ((yJ d q rs).1,(yJ d q rs).2.map fun r => (ids ((yJ d q rs).1.length)).getD r.toNat 0) := by
  show (_,_) = _
  rw [e]
 rw [e2]
 refine Prod.ext rfl ?_
 show List.map _ (yJ d q rs).2 = (yJ d q rs).2
 have : ∀ r ∈ (yJ d q rs).2,(ids ((yJ d q rs).1.length)).getD r.toNat 0 = r := by
  intro r hm
  have := Dt hri r hm
  rw [List.getD_eq_getElem?_getD,KY (by omega)]
  simp; omega
 rw [List.map_congr_left this,List.map_id']
end Go.Eng
/-! nodes as bytes,on both sides -/
namespace Go.Eng
open Go.Proofs Go.Proofs.Try
set_option maxHeartbeats 4000000

structure NdOk (x : Nd) (i : Nat) : Prop where
 k1 : 1 <= x.kind
 k9 : x.kind <= 9
 n3 : -1000000000 <= x.n
 n9 : x.n <= 1000000000
 n0 : x.kind ≠ 3 -> 0 <= x.n
 a0 : 0 <= x.a
 a1 : x.a <= i
 b0 : 0 <= x.b
 b1 : x.b <= i
 s4 : x.s.size <= 12
end Go.Eng
/-! tidying,and machines as bytes,on both sides -/
namespace Go.Eng
noncomputable section
open Go.Proofs Go.Proofs.Try
set_option maxHeartbeats 4000000

theorem JX {p : List Nd} (hl : p.length <= 4294967296) : V 16 [eP p] = some (oP p,[]) := by
 have h : V 32 [.rs (5,0) (p.map eN)] = some (.os (5,0) (p.map eN),[]) := by
  rw [yZ,List.nil_append,xu (decide_eq_true (by rw [oQ,lnM]; simp only [ni]; omega)),xB]
  exact vX _ _
 rw [DW]
 simp (disch := first | omega | (simp only [lnA,lnC,lnN,lnM,xP,vJ]; omega)) only [↓vK,vZ,↓xp,↓xh,h]
theorem zT {m : Mc} (hl : m.pool.length <= 4294967296) : V 26 [eMc m] = some (oMc m,[]) := by
 rw [Gl]
 simp (disch := first | omega | (simp only [lnA,lnC,lnN,lnM,xP,vJ]; omega)) only [↓vK,vZ,↓xp,↓xc,↓xh,↓wq,JX hl]
def holds (m : Mc) : Bool := decide (m.state = 1 \/ m.state = 2)
def yw (m : Mc) : List Int := if holds m = true then [m.s,m.e,m.d,m.arg] else [m.s,m.e,m.d]
def tf (m : Mc) (r : Int) : Int := (zO (-1) m.pool (yw m) []).1.getD r.toNat 0
def Nj (m : Mc) : Mc := if xT m.pool = true /\ yk m.pool (yw m) = true then
  ⟨(yJ (-1) m.pool (yw m)).1,m.at',tf m m.s,tf m m.e,tf m m.d,m.state,m.ask,if holds m = true then tf m m.arg else m.arg⟩ else m
theorem JN (m : Mc) : (yw m).length <= 4 := by unfold yw; split <;> simp
theorem Nt {m : Mc} (hf : Bv m.pool) (hl : m.pool.length <= 4294967296) : V 49 [eMc m] = some (oMc (Nj m),[]) := by
 have hr := Qm hf (by omega) (l := yw m) (by have := JN m; omega)
 have hc := zT hl
 have hk : ∀ h1 : xT m.pool = true,∀ h2 : yk m.pool (yw m) = true,_ := fun h1 h2 => TZ h1 (rs := yw m) (by have := JN m; omega) h2
 rw [NJ]
 unfold Nj
 by_cases h : xT m.pool = true /\ yk m.pool (yw m) = true
 ·rw [if_pos h]
  have hk := hk h.1 h.2
  rw [h.1,h.2] at hr
  unfold yw holds at hr hk
  by_cases s1 : m.state = 1
  ·rw [if_pos (by simp [s1])] at hr hk
   have e : holds m = true := by simp [holds,s1]
   rw [if_pos e]
   have e2 : yw m = [m.s,m.e,m.d,m.arg] := by rw [yw,if_pos e]
   unfold tf
   rw [e2]
   simp only [yJ,List.map_cons,List.map_nil] at hr hk ⊢
   simp (disch := first | omega | (simp only [lnA,lnC,lnN,lnM,xP,vJ]; omega)) only [↓vK,vZ,↓xl,↓wJ,↓wW,↓xp,↓xc,↓xf,↓wH,↓xh,↓wq,↓ws,↓wu,↓ww,↓wx,↓wy,wu,ww,wx,wy,xK,xG,Bool.and_true,Bool.not_true,lnC,lnN,oQ,vJ,hr,hk]
  by_cases s2 : m.state = 2
  ·rw [if_pos (by simp [s2])] at hr hk
   have e : holds m = true := by simp [holds,s2]
   rw [if_pos e]
   have e2 : yw m = [m.s,m.e,m.d,m.arg] := by rw [yw,if_pos e]
   unfold tf
   rw [e2]
   simp only [yJ,List.map_cons,List.map_nil] at hr hk ⊢
   simp (disch := first | omega | (simp only [lnA,lnC,lnN,lnM,xP,vJ]; omega)) only [↓vK,vZ,↓xl,↓wJ,↓wW,↓xp,↓xc,↓xf,↓wH,↓xh,↓wq,↓ws,↓wu,↓ww,↓wx,↓wy,wu,ww,wx,wy,xK,xG,xF,Bool.and_true,Bool.not_true,lnC,lnN,oQ,vJ,hr,hk]
  ·rw [if_neg (by simp [s1,s2])] at hr hk
   have e : ¬ holds m = true := by simp [holds,s1,s2]
   rw [if_neg e]
   have e2 : yw m = [m.s,m.e,m.d] := by rw [yw,if_neg e]
   unfold tf
   rw [e2]
   simp only [yJ,List.map_cons,List.map_nil] at hr hk ⊢
   simp (disch := first | omega | (simp only [lnA,lnC,lnN,lnM,xP,vJ]; omega)) only [↓vK,vZ,↓wJ,↓wW,↓xp,↓xc,↓xf,↓wH,↓xh,↓wq,↓ws,↓wu,↓ww,↓wx,wu,ww,wx,xK,xF,Bool.and_true,Bool.not_true,lnC,lnN,vJ,hr,hk]
 ·rw [if_neg h]
  have e : (xT m.pool && yk m.pool (yw m)) = false := by
   cases h1 : xT m.pool <;> cases h2 : yk m.pool (yw m) <;> first | rfl | exact absurd ⟨h1,h2⟩ h
  rw [e] at hr
  unfold yw holds at hr
  by_cases s1 : m.state = 1
  ·rw [if_pos (by simp [s1])] at hr
   simp only [List.map_cons,List.map_nil] at hr
   simp (disch := first | omega | (simp only [lnA,lnC,lnN,lnM,xP,vJ]; omega)) only [↓vK,vZ,↓xl,↓wW,↓xp,↓xc,↓xf,↓wH,↓xh,↓wq,xK,xG,Bool.not_false,oQ,vJ,hr,hc]
  by_cases s2 : m.state = 2
  ·rw [if_pos (by simp [s2])] at hr
   simp only [List.map_cons,List.map_nil] at hr
   simp (disch := first | omega | (simp only [lnA,lnC,lnN,lnM,xP,vJ]; omega)) only [↓vK,vZ,↓xl,↓wJ,↓wW,↓xp,↓xc,↓xf,↓wH,↓xh,↓wq,xK,xG,xF,Bool.not_false,oQ,vJ,hr,hc]
  ·rw [if_neg (by simp [s1,s2])] at hr
   simp only [List.map_cons,List.map_nil] at hr
   simp (disch := first | omega | (simp only [lnA,lnC,lnN,lnM,xP,vJ]; omega)) only [↓vK,vZ,↓xl,↓wJ,↓xp,↓xc,↓xf,↓wH,↓xh,↓wq,xF,Bool.not_false,hr,hc]
theorem JF {c : Cd} {m : Mc} (h : z4 c m = true) : xT m.pool = true /\ yk m.pool (yw m) = true /\ 0 <= m.at' /\ m.at' <= 400 /\ 0 <= m.state /\ m.state <= 3 /\ 0 <= m.ask /\ m.ask <= 19 /\ 0 <= m.arg /\ m.arg <= 3000 := by
 unfold z4 yv Bi at h
 simp only [Bool.and_eq_true,decide_eq_true_eq] at h
 obtain ⟨⟨_,hlist,_⟩,hp,hs,he,hd,hst⟩ := h
 have hlen := yq hp
 refine ⟨hp,?_,?_⟩
 ·unfold yw holds yk
  unfold Gb Bi at hst
  split
  ·rename_i hh
   have hh := of_decide_eq_true hh
   have ha : wi m.arg 0 ((m.pool.length : Int) - 1) = true := by
    rcases hh with h1 | h1
    ·simp [h1] at hst; exact hst.2.2.2
    ·simp [h1] at hst; exact hst.2.2
   simp [hs,he,hd,ha]
  ·simp [hs,he,hd]
 ·unfold Gb Bi at hst
  repeat' split at hst
  all_goals (try simp only [Bool.and_eq_true,wi,decide_eq_true_eq,beq_iff_eq] at hst)
  all_goals (first | (cases hst; done) | omega)
theorem Pk {c : Cd} {m : Mc} (h : z4 c m = true) : z4 c (Nj m) = true := by
 obtain ⟨hp,hr,_⟩ := JF h
 obtain ⟨a1,a2,_⟩ := NW hp hr (-1) (-1)
 have hroot : ∀ r ∈ yw m,wi (tf m r) 0 (((yJ (-1) m.pool (yw m)).1.length : Int) - 1) = true := by
  intro r hm
  have := List.all_eq_true.1 a2 (tf m r) (List.mem_map.2 ⟨r,hm,rfl⟩)
  exact this
 have h3 : m.s ∈ yw m /\ m.e ∈ yw m /\ m.d ∈ yw m := by unfold yw; split <;> simp
 have h4 : holds m = true -> m.arg ∈ yw m := by intro hh; unfold yw; rw [if_pos hh]; simp
 unfold Nj
 rw [if_pos ⟨hp,hr⟩]
 unfold z4 Gb Bi at h ⊢
 simp only [Bool.and_eq_true] at h ⊢
 refine ⟨h.1,a1,hroot _ h3.1,hroot _ h3.2.1,hroot _ h3.2.2,?_⟩
 have hst := h.2.2.2.2.2
 by_cases s0 : m.state = 0
 ·have e : ¬ holds m = true := by simp [holds,s0]
  rw [if_pos s0] at hst ⊢
  rw [if_neg e]; exact hst
 rw [if_neg s0] at hst ⊢
 by_cases s1 : m.state = 1
 ·have e : holds m = true := by simp [holds,s1]
  rw [if_pos s1] at hst ⊢
  rw [if_pos e]
  simp only [Bool.and_eq_true] at hst ⊢
  exact ⟨hst.1,hst.2.1,hst.2.2.1,hroot _ (h4 e)⟩
 rw [if_neg s1] at hst ⊢
 by_cases s2 : m.state = 2
 ·have e : holds m = true := by simp [holds,s2]
  rw [if_pos s2] at hst ⊢
  rw [if_pos e]
  simp only [Bool.and_eq_true] at hst ⊢
  exact ⟨hst.1,hst.2.1,hroot _ (h4 e)⟩
 rw [if_neg s2] at hst ⊢
 have e : ¬ holds m = true := by simp [holds,s1,s2]
 rw [if_neg e]
 exact hst
end
end Go.Eng
/-! a step of a machine,plain -/
namespace Go.Eng
noncomputable section

abbrev ndN : Nd := ⟨1,0,⟨#[]⟩,0,0⟩
abbrev ndI (n : Int) : Nd := ⟨3,n,⟨#[]⟩,0,0⟩
abbrev ndP (a b : Int) : Nd := ⟨5,0,⟨#[]⟩,a,b⟩
abbrev ndF (n a : Int) : Nd := ⟨6,n,⟨#[]⟩,a,0⟩
abbrev ndK (a : Int) : Nd := ⟨7,0,⟨#[]⟩,a,0⟩
abbrev ndR (n : Int) : Nd := ⟨8,n,⟨#[]⟩,0,0⟩
def ndB (b : Bool) : Nd := match b with | true => ⟨2,1,⟨#[]⟩,0,0⟩ | false => ⟨2,0,⟨#[]⟩,0,0⟩
def nod (p : List Nd) (v : Int) : Nd := p.getD v.toNat ndN
abbrev InP (p : List Nd) (v : Int) : Prop := 0 <= v /\ v < (p.length : Int)

def prNames : List (List UInt8) := [[43],[45],[42],[60],[61],[99,111,110,115],[99,97,114],[99,100,114],[110,117,108,108,63],[112,97,105,114,63],[101,113,63],[110,111,116],[112,114,105,110,116],[115,101,108,102],[115,101,110,100],[114,101,99,118],[115,112,97,119,110],[99,97,108,108,99,99],[103,111]]
def A8 (s : ByteArray) : Int := xb (fun x => jJ s (mk x)) prNames + 1
def prArgs : List Int := [2,2,2,2,2,2,1,1,1,1,2,1,1,0,2,0,1,1,1]
def yi (n : Int) : Int := if wi n 1 19 = true then prArgs.getD (n - 1).toNat 0 else -1

def BC (out : List Int) (x : Nd) : Nd :=
 if x.kind = 5 then ⟨x.kind,x.n,x.s,out.getD x.a.toNat 0,out.getD x.b.toNat 0⟩
 else if x.kind = 6 \/ x.kind = 7 then ⟨x.kind,x.n,x.s,out.getD x.a.toNat 0,x.b⟩ else x
def BU (x y : Nd) : Bool := (x.kind == y.kind) && ((x.n == y.n) && (jJ x.s y.s && ((x.a == y.a) && (x.b == y.b))))
def NB : List Nd -> List Int -> List Nd -> List Int × List Nd
 | [],out,keys => (out,keys)
 | x :: r,out,keys => NB r (out ++ [match keys.findIdx? (fun y => BU y (BC out x)) with | some k => (k : Int) | none => (out.length : Int)]) (keys ++ [BC out x])
def Qt (p : List Nd) : List Int := (NB p [] []).1
def Pi (p : List Nd) (a b : Int) : Bool := (Qt p).getD a.toNat 0 == (Qt p).getD b.toNat 0

def GC (p : List Nd) (n : Int) (l : List Int) : Except Int (List Nd × Int) :=
 let x := nod p (l.getD 0 0); let y := nod p (l.getD 1 0)
 if n <= 5 then
  if x.kind = 3 /\ y.kind = 3 then
   let z := if n = 1 then ndI (x.n + y.n) else if n = 2 then ndI (x.n - y.n) else if n = 3 then ndI (x.n * y.n) else if n = 4 then ndB (decide (x.n < y.n)) else ndB (x.n == y.n)
   if wi z.n (-1000000000) 1000000000 = true then .ok (p ++ [z],p.length) else .error 4
  else .error 3
 else if n = 6 then .ok (p ++ [ndP (l.getD 0 0) (l.getD 1 0)],p.length)
 else if n = 7 \/ n = 8 then
  if x.kind = 5 then .ok (p,if n = 7 then x.a else x.b) else .error 3
 else if n = 9 then .ok (p ++ [ndB (x.kind == 1)],p.length)
 else if n = 10 then .ok (p ++ [ndB (x.kind == 5)],p.length)
 else if n = 11 then .ok (p ++ [ndB (Pi p (l.getD 0 0) (l.getD 1 0))],p.length)
 else .ok (p ++ [ndB (x.kind == 2 && x.n == 0)],p.length)

def JK (m : Mc) (v : Int) : Mc := ⟨m.pool ++ [ndP v m.s],m.at',m.pool.length,m.e,m.d,m.state,m.ask,m.arg⟩
def Da (m : Mc) : Option (Int × Mc) := if (nod m.pool m.s).kind = 5 then some ((nod m.pool m.s).a,⟨m.pool,m.at',(nod m.pool m.s).b,m.e,m.d,m.state,m.ask,m.arg⟩) else none
def Ap : Nat -> Mc -> Option (List Int × Mc)
 | 0,m => some ([],m)
 | k + 1,m => match Da m with
  | none => none
  | some (v,m') => match Ap k m' with
   | none => none
   | some (l,m'') => some (v :: l,m'')
def IJ (p : List Nd) : Nat -> Int -> Option Int
 | 0,v => if (nod p v).kind = 5 then some (nod p v).a else none
 | k + 1,v => if (nod p v).kind = 5 then IJ p k (nod p v).b else none
def Fj (p : List Nd) : Nat -> Int -> List Int × Bool
 | 0,_ => ([],false)
 | k + 1,v => if (nod p v).kind = 5 then ((nod p v).a :: (Fj p k (nod p v).b).1,(Fj p k (nod p v).b).2) else ([],(nod p v).kind == 1)
def Cw (p : List Nd) (v : Int) : List Int × Bool := Fj p (v.toNat + 1) v
def zK (c : Cd) (n : Int) : Bool := wi n 0 ((c.list.length : Int) - 1)
def D4 (c : Cd) (p : List Nd) (v : Int) (many : Nat) : Option (Int × List Int) := match Cw p v with
 | (a :: r,true) => if r.length + 1 = many /\ (nod p a).kind = 3 /\ zK c (nod p a).n = true then some ((nod p a).n,r) else none
 | _ => none

def OJ (m : Mc) (o i : Int) : Except Int Mc := match IJ m.pool o.toNat m.e with
 | none => .error 7
 | some fr => match IJ m.pool i.toNat fr with
  | none => .error 7
  | some v => .ok (JK m v)
def Jh (c : Cd) (m : Mc) (s : ByteArray) : Except Int Mc :=
 if 0 <= AI c s then
  let d := c.defs.getD (AI c s).toNat ⟨⟨#[]⟩,0,0⟩
  .ok (JK ⟨m.pool ++ [ndN] ++ [ndF (8 * d.at' + d.args) m.pool.length],m.at',m.s,m.e,m.d,m.state,m.ask,m.arg⟩ (m.pool.length + 1))
 else if A8 s = 0 then .error 1
 else .ok (JK ⟨m.pool ++ [ndR (A8 s)],m.at',m.s,m.e,m.d,m.state,m.ask,m.arg⟩ m.pool.length)
def D3 (c : Cd) (m : Mc) (f : Nd) (l : List Int) : Except Int Mc :=
 if f.n % 8 ≠ (l.length : Int) then .error 2
 else if zK c (f.n / 8) = false then .error 7
 else
  let b := xU (m.pool ++ [ndI (m.at' + 1)]) [(m.pool.length : Int),m.s,m.e]
  let v := xU (b.1 ++ [ndP b.2 m.d]) l
  .ok ⟨v.1 ++ [ndP v.2 f.a] ++ [ndN],f.n / 8,((v.1.length : Int) + 1),v.1.length,b.1.length,m.state,m.ask,m.arg⟩
def Na (c : Cd) (m : Mc) (st : Int) (l : List Int) : Except Int Mc :=
 if l.length ≠ 1 then .error 2
 else match D4 c m.pool st 4 with
  | some (n,[s,e,d]) => .ok (JK ⟨m.pool,n,s,e,d,m.state,m.ask,m.arg⟩ (l.getD 0 0))
  | _ => .error 7
def Au (c : Cd) : Nat -> Mc -> Int -> List Int -> Except Int Mc
 | 0,_,_,_ => .error 0
 | k + 1,m,f,l =>
  let x := nod m.pool f
  if x.kind = 6 then D3 c m x l
  else if x.kind = 8 then
   if yi x.n ≠ (l.length : Int) then .error 2
   else if x.n = 18 then
    let st := xU (m.pool ++ [ndI (m.at' + 1)]) [(m.pool.length : Int),m.s,m.e,m.d]
    Au c k ⟨st.1 ++ [ndK st.2],m.at',m.s,m.e,m.d,m.state,m.ask,m.arg⟩ (l.getD 0 0) [(st.1.length : Int)]
   else if x.n > 12 then
    let r := xU m.pool l
    .ok ⟨r.1,m.at',m.s,m.e,m.d,1,x.n,r.2⟩
   else match GC m.pool x.n l with
    | .error h => .error (h + 1)
    | .ok (p,v) => .ok ⟨p ++ [ndP v m.s],m.at' + 1,p.length,m.e,m.d,m.state,m.ask,m.arg⟩
  else if x.kind = 7 then Na c m x.a l
  else .error 3
def Ai (c : Cd) (m : Mc) (many : Nat) : Except Int Mc :=
 if zK c (m.at' + 1) = false then .error 7
 else match Ap (many + 1) m with
  | none => .error 7
  | some (l,m') => Au c 3 m' (l.reverse.getD 0 0) (l.reverse.drop 1)
def Ie (c : Cd) (m : Mc) : Except Int Mc := match Da m with
 | none => .error 7
 | some (v,m1) =>
  let d := nod m1.pool m1.d
  if d.kind = 1 then .ok ⟨m1.pool,0,m1.s,m1.e,m1.d,2,m1.ask,v⟩
  else if d.kind ≠ 5 then .error 7
  else match D4 c m1.pool d.a 3 with
   | some (n,[s,e]) => .ok (JK ⟨m1.pool,n,s,e,d.b,m1.state,m1.ask,m1.arg⟩ v)
   | _ => .error 7
def BD (d : Int) (q : List Nd) (v : Int) (acc : List Nd) : List Nd × Int := ((zO d q [v] acc).2,(zO d q [v] acc).1.getD v.toNat 0)
def Uh (c : Cd) (m : Mc) (v : Int) : Mc := JK ⟨(BD (-1) c.pool v m.pool).1,m.at',m.s,m.e,m.d,m.state,m.ask,m.arg⟩ (BD (-1) c.pool v m.pool).2
def goM (c : Cd) (r : Except Int Mc) (next : Int) : Except Int Mc := match r with
 | .error h => .error h
 | .ok m => if zK c next = true then .ok ⟨m.pool,next,m.s,m.e,m.d,m.state,m.ask,m.arg⟩ else .error 7
def Eu (c : Cd) (m : Mc) (x : In) : Except Int Mc :=
 if x.op = 1 then goM c (.ok (Uh c m x.n)) (m.at' + 1)
 else if x.op = 2 then goM c (OJ m x.n x.i) (m.at' + 1)
 else if x.op = 3 then goM c (Jh c m x.s) (m.at' + 1)
 else if x.op = 5 then goM c (.ok m) x.n
 else if x.op = 6 then goM c (.ok (JK ⟨m.pool ++ [ndF (8 * x.n + x.i) m.e],m.at',m.s,m.e,m.d,m.state,m.ask,m.arg⟩ m.pool.length)) (m.at' + 1)
 else match Da m with
  | none => .error 7
  | some (v,m1) => goM c (.ok m1) (if x.op = 4 /\ (nod m1.pool v).kind = 2 /\ (nod m1.pool v).n = 0 then x.n else m.at' + 1)
def Mt (m : Mc) (h : Int) : Mc := ⟨m.pool,0,m.s,m.e,m.d,3,h,0⟩
def doM (c : Cd) (m : Mc) : Except Int Mc :=
 let x := c.list.getD m.at'.toNat ⟨0,0,0,⟨#[]⟩⟩
 if x.op = 7 then Ai c m x.i.toNat else if x.op = 8 then Ie c m else Eu c m x
def Cm (c : Cd) (m : Mc) : Mc := match doM c m with
 | .error h => Mt m h
 | .ok m' => if m'.pool.length <= 3000 then m' else Mt m 6
def Tn : Mc := ⟨[],0,0,0,0,3,7,0⟩
def Q6 (c : Cd) (m : Mc) : Mc := if z4 c m = true then (if m.state = 0 then Cm c m else m) else Tn
def zZ (m : Mc) : Mc := if m.pool.length <= 2000 then m else Nj m
def Bc (c : Cd) : Nat -> Mc -> Mc × Nat
 | 0,m => (m,0)
 | k + 1,m => if m.state = 0 then ((Bc c k (zZ (Cm c m))).1,(Bc c k (zZ (Cm c m))).2 + 1) else (m,0)
def QZ (c : Cd) (m : Mc) (steps : Int) : Mc × Nat := if z4 c m = true then Bc c (mnI steps 2000).toNat m else (Tn,0)
end
end Go.Eng
/-! compiling,plain (the reference's way) -/
namespace Go.Eng
noncomputable section

structure Ms where
 list : List In
 defs : List Df
 how : Int
abbrev inO (op : Int) : In := ⟨op,0,0,⟨#[]⟩⟩
def wrds : List (List UInt8) := [[113,117,111,116,101],[105,102],[102,110],[100,111],[108,101,116],[100,101,102,105,110,101]]
def PZ (s : ByteArray) : Bool := wrds.any fun x => jJ s (mk x)
def toC (m : Ms) (k : Int) : Ms := if m.how = 0 then ⟨m.list.set k.toNat ⟨(m.list.getD k.toNat (inO 0)).op,m.list.length,(m.list.getD k.toNat (inO 0)).i,(m.list.getD k.toNat (inO 0)).s⟩,m.defs,0⟩ else m
def nmC (p : List Nd) (v : Int) : Bool := (nod p v).kind == 4 && !PZ (nod p v).s
section
variable (E : List (List ByteArray) -> Int -> Ms -> Ms)
end
def Gv : ByteArray := mk [109,97,105,110]
end
end Go.Eng
/-! a step of a machine: the program's side: the stack,the frames,lists -/
namespace Go.Eng
noncomputable section
open Go.Proofs Go.Proofs.Try
set_option maxHeartbeats 4000000

abbrev eSt (c : Cd) (m : Mc) : D := .op [.os (5,0) (m.pool.map eN),iN m.at',iN m.s,iN m.e,iN m.d,iN m.state,iN m.ask,iN m.arg,.rs (5,0) (c.pool.map eN),.rs (4,0) (c.list.map eIn),.rs (3,0) (c.defs.map eDf)]
def FG (c : Cd) (X : Option Ret) (r : Except Int Mc) : Prop := match r with
 | .ok m => X = some (iN 0,[eSt c m])
 | .error h => h ≠ 0 /\ ∃ m',X = some (iN h,[eSt c m'])
theorem EJ {p : List Nd} {v : Int} (h : InP p v) : p[v.toNat]? = some (nod p v) := by
 have : v.toNat < p.length := by omega
 simp [nod,List.getD_eq_getElem?_getD,List.getElem?_eq_getElem this]
theorem Ee {p : List Nd} (hp : ye p) {v : Int} (h : InP p v) : okN (nod p v) v = true := by
 have := hp _ _ (EJ h)
 rwa [Int.toNat_of_nonneg h.1] at this
theorem Gx {p : List Nd} (hp : ye p) {v : Int} (h : InP p v) (hk : (nod p v).kind = 5 \/ (nod p v).kind = 6 \/ (nod p v).kind = 7) : InP p (nod p v).a := by
 rcases hk with hk | hk
 ·have := yR (Ee hp h) hk; exact ⟨by omega,by omega⟩
 ·have := zY (Ee hp h) hk; exact ⟨by omega,by omega⟩
theorem Iq {p : List Nd} (hp : ye p) {v : Int} (h : InP p v) (hk : (nod p v).kind = 5) : InP p (nod p v).b := by
 have := yR (Ee hp h) hk; exact ⟨by omega,by omega⟩
theorem Sb {p q : List Nd} {v : Int} (h : InP p v) : nod (p ++ q) v = nod p v := by
 have : v.toNat < p.length := by omega
 simp [nod,List.getD_eq_getElem?_getD,List.getElem?_append_left this]
theorem ya {p : List Nd} (q : List Nd) {v : Int} (h : InP p v) : InP (p ++ q) v := ⟨h.1,by simp only [lnA]; omega⟩
section
variable {R : Type} {p : List Nd} {v : Int}
theorem MC (h : InP p v) : (decide (0 <= v) && decide (v < ni (p.map eN).length)) = true := by
 rw [lnM]; simp only [ni,Bool.and_eq_true,decide_eq_true_eq]; exact ⟨h.1,h.2⟩
theorem DR (h : InP p v) (K : Int -> Int -> ByteArray -> Int -> Int -> Option R) : grd (decide (0 <= v) && decide (v < ni (p.map eN).length)) (cz (p.map eN) v.toNat fun x => tk1 x fun n4 n7 s10 n13 n16 => (K n4 n7 s10 n13 n16)) = K (nod p v).kind (nod p v).n (nod p v).s (nod p v).a (nod p v).b := by
 rw [xu (MC h),w8 (EJ h),Jt]
theorem Lg (h : InP p v) (K : Int -> Option R) : grd (decide (0 <= v) && decide (v < ni (p.map eN).length)) (cz (p.map eN) v.toNat fun x => asAgg x fun l => cz l 0 fun y => asI .i64 y fun n => K n) = K (nod p v).kind := by
 rw [xu (MC h),w8 (EJ h),Ui]
theorem Qs (h : InP p v) (K : Int -> Option R) : grd (decide (0 <= v) && decide (v < ni (p.map eN).length)) (cz (p.map eN) v.toNat fun x => asAgg x fun l => cz l 1 fun y => asI .i64 y fun n => K n) = K (nod p v).n := by
 rw [xu (MC h),w8 (EJ h),Uj]
theorem Tp (h : InP p v) (K : Int -> Option R) : grd (decide (0 <= v) && decide (v < ni (p.map eN).length)) (cz (p.map eN) v.toNat fun x => asAgg x fun l => cz l 3 fun y => asI .i64 y fun n => K n) = K (nod p v).a := by
 rw [xu (MC h),w8 (EJ h),Uk]
theorem Tq (h : InP p v) (K : Int -> Option R) : grd (decide (0 <= v) && decide (v < ni (p.map eN).length)) (cz (p.map eN) v.toNat fun x => asAgg x fun l => cz l 4 fun y => asI .i64 y fun n => K n) = K (nod p v).b := by
 rw [xu (MC h),w8 (EJ h),Ul]
end

theorem AY {c : Cd} {m : Mc} (hl : m.pool.length < 4294967296) (v : Int) : V 71 [eSt c m,iN v] = some (.tup [],[eSt c (JK m v)]) := by
 have h := LV hl v m.s
 rw [Gp,Bj h]
 rfl
theorem Ia {c : Cd} {m : Mc} (hs : InP m.pool m.s) {v : Int} {m' : Mc} (h : Da m = some (v,m')) : V 68 [eSt c m] = some (.tup [iN v,.bool true],[eSt c m']) := by
 unfold Da at h
 rw [BF,DR hs]
 split at h
 ·rename_i h5
  cases h
  rw [vQ (xH h5)]
 ·cases h
theorem Dw {c : Cd} {m : Mc} (hs : InP m.pool m.s) (h : Da m = none) : V 68 [eSt c m] = some (.tup [iN 0,.bool false],[eSt c m]) := by
 unfold Da at h
 rw [BF,DR hs]
 split at h
 ·cases h
 ·rename_i h5
  rw [wK (xI h5)]
theorem Nh {m : Mc} (hp : ye m.pool) (hs : InP m.pool m.s) {v : Int} {m' : Mc} (h : Da m = some (v,m')) : InP m.pool v /\ m'.pool = m.pool /\ InP m.pool m'.s /\ m'.e = m.e /\ m'.d = m.d /\ m'.at' = m.at' /\ m'.state = m.state /\ m'.ask = m.ask /\ m'.arg = m.arg := by
 unfold Da at h
 split at h
 ·rename_i h5
  cases h
  exact ⟨Gx hp hs (.inl h5),rfl,Iq hp hs h5,rfl,rfl,rfl,rfl,rfl,rfl⟩
 ·cases h
def alD (r : Option Int) : D := match r with | some v => .tup [iN v,.bool true] | none => .tup [iN 0,.bool false]
theorem FE {c : Cd} {m : Mc} (hp : ye m.pool) : ∀ (k : Nat) (v : Int),InP m.pool v -> k < 4611686018427387904 ->
  yX v (k : Int) m.at' m.s m.e m.d m.state m.ask m.arg (c.pool.map eN) (c.list.map eIn) (c.defs.map eDf) (m.pool.map eN) = some (alD (IJ m.pool k v),[eSt c m])
 | 0,v,hv,hk => by
  rw [zN,vQ (decide_eq_false (by omega)),Lg hv]
  unfold IJ
  by_cases h5 : (nod m.pool v).kind = 5
  ·rw [if_pos h5,vQ (xH h5),Tp hv]; rfl
  ·rw [if_neg h5,wK (xI h5)]; rfl
 | k + 1,v,hv,hk => by
  have hw : w6 (((k + 1 : Nat) : Int) - 1) = (k : Int) := by rw [w64 (by omega) (by omega)]; omega
  rw [zN,wK (decide_eq_true (by omega)),Lg hv]
  unfold IJ
  by_cases h5 : (nod m.pool v).kind = 5
  ·have ih := FE (c := c) hp k (nod m.pool v).b (Iq hp hv h5) (by omega)
   rw [if_pos h5,vQ (xH h5),Tq hv,hw,ih]
  ·rw [if_neg h5,wK (xI h5)]; rfl
theorem J7 {c : Cd} {m : Mc} (hp : ye m.pool) {v : Int} (hv : InP m.pool v) {n : Int} (h0 : 0 <= n) (h1 : n < 4611686018427387904) : V 84 [eSt c m,iN v,iN n] = some (alD (IJ m.pool n.toNat v),[eSt c m]) := by
 have := FE (c := c) hp n.toNat v hv (by omega)
 rw [Int.toNat_of_nonneg h0] at this
 rw [Ff]
 exact this
theorem IV {p : List Nd} (hp : ye p) : ∀ (k : Nat) (v a : Int),InP p v -> IJ p k v = some a -> InP p a
 | 0,v,a,hv,h => by
  unfold IJ at h
  split at h
  ·cases h; exact Gx hp hv (.inl ‹_›)
  ·cases h
 | k + 1,v,a,hv,h => by
  unfold IJ at h
  split at h
  ·exact IV hp k _ a (Iq hp hv ‹_›) h
  ·cases h
theorem Kx {c : Cd} {m : Mc} (hp : ye m.pool) (hl : m.pool.length < 4294967296) (he : InP m.pool m.e) {o i : Int} (o0 : 0 <= o) (o1 : o < 4611686018427387904) (i0 : 0 <= i) (i1 : i < 4611686018427387904) :
  FG c (V 73 [eSt c m,iN o,iN i]) (OJ m o i) := by
 have h1 := J7 (c := c) hp he o0 o1
 rw [Dh]
 unfold OJ
 cases e1 : IJ m.pool o.toNat m.e with
 | none =>
  rw [e1] at h1; simp only [alD] at h1
  exact ⟨by decide,m,by rw [zG h1]; rfl⟩
 | some fr =>
  rw [e1] at h1; simp only [alD] at h1
  have h2 := J7 (c := c) hp (IV hp _ _ _ he e1) i0 i1
  rw [zG h1,Bool.not_true,wJ]
  cases e2 : IJ m.pool i.toNat fr with
  | none =>
   rw [e2] at h2; simp only [alD] at h2
   simp only [e2]
   exact ⟨by decide,m,by rw [zG h2]; rfl⟩
  | some v =>
   rw [e2] at h2; simp only [alD] at h2
   simp only [e2]
   have h3 := AY (c := c) hl v
   show _ = _
   rw [zG h2,Bool.not_true,wJ,yL h3]

theorem OZ {p : List Nd} (hp : ye p) : ∀ (k : Nat) (v : Int),InP p v -> ∀ x ∈ (Fj p k v).1,InP p x
 | 0,v,hv,x,hx => by simp [Fj] at hx
 | k + 1,v,hv,x,hx => by
  unfold Fj at hx
  split at hx
  ·rename_i h5
   rcases List.mem_cons.1 hx with rfl | hx
   ·exact Gx hp hv (.inl h5)
   ·exact OZ hp k _ (Iq hp hv h5) x hx
  ·simp at hx
theorem MF {p : List Nd} : ∀ (k : Nat) (v : Int),(Fj p k v).1.length <= k
 | 0,v => by simp [Fj]
 | k + 1,v => by
  unfold Fj
  split
  ·have := MF (p := p) k (nod p v).b; simp only [lnC]; omega
  ·simp
theorem Ip {p : List Nd} (hp : ye p) (hl : p.length < 4294967290) : ∀ (k : Nat) (v : Int) (acc : List Int),InP p v -> v < k -> acc.length + k < 4294967296 ->
  zd v (acc.map eI) (p.map eN) = some (.tup [.os (1,0) ((acc ++ (Fj p k v).1).map eI),.bool (Fj p k v).2],[rP p])
 | 0,v,acc,hv,hk,ha => by omega
 | k + 1,v,acc,hv,hk,ha => by
  rw [Dg,Lg hv]
  unfold Fj
  by_cases h5 : (nod p v).kind = 5
  ·have hb := yR (Ee hp hv) h5
   have ih := Ip hp hl k (nod p v).b (acc ++ [(nod p v).a]) (Iq hp hv h5) (by omega) (by simp only [lnA,lnC,lnN]; omega)
   have ea : acc.map eI ++ [iN (nod p v).a] = (acc ++ [(nod p v).a]).map eI := by simp
   have hlim : decide (ni ((acc ++ [(nod p v).a]).map eI).length <= LIM) = true := decide_eq_true (by rw [oQ]; simp only [ni,lnM,lnA,lnC,lnN]; omega)
   rw [if_pos h5,wK (xG h5),Tp hv,ea,xu hlim,xB,Tq hv,ih]
   simp
  ·rw [if_neg h5,vQ (xF h5),Lg hv]
   simp
theorem Dd {p : List Nd} (hp : ye p) (hl : p.length < 2147483648) {v : Int} (hv : InP p v) : V 40 [rP p,iN v] = some (.tup [.os (1,0) ((Cw p v).1.map eI),.bool (Cw p v).2],[rP p]) := by
 have := Ip hp (by omega) (v.toNat + 1) v [] hv (by omega) (by simp only [lnN]; omega)
 rw [Gj]
 exact this
end
end Go.Eng
/-! which nodes are alike: both sides -/
namespace Go.Eng
noncomputable section
open Go.Proofs Go.Proofs.Try
set_option maxHeartbeats 4000000

theorem ndEq_iff {x y : Nd} : BU x y = true ↔ x = y := by
 unfold BU
 rw [AX]
 constructor
 ·intro h
  simp only [Bool.and_eq_true,beq_iff_eq,decide_eq_true_eq] at h
  obtain ⟨h1,h2,h3,h4,h5⟩ := h
  cases x; cases y
  simp only at h1 h2 h3 h4 h5
  subst h1; subst h2; subst h3; subst h4; subst h5
  rfl
 ·rintro rfl
  simp
abbrev kC (y : Nd) : List D := [iN y.kind,iN y.n,.str y.s,iN y.a,iN y.b]
theorem QD (x y : Nd) : js (kC x) (kC y) = BU y x := by
 have e : ∀ a b : Int,(a == b) = (b == a) := fun a b => by
  by_cases h : a = b
  ·subst h; rfl
  ·rw [xF h,xF (fun e => h e.symm)]
 have e2 : jJ x.s y.s = jJ y.s x.s := by
  rw [AX,AX]
  exact decide_eq_decide.2 ⟨Eq.symm,Eq.symm⟩
 simp only [js,pa,BU,Bool.and_true]
 rw [e x.kind,e x.n,e x.a,e x.b,e2]
def KI (x : D) (q : List D) : Option Int := match x with
 | .tup [.agg ks,.int _ v] => if js q ks = true then some v else none
 | _ => none
theorem Ed (x : D) (r q : List D) : cr (x :: r) q = match KI x q with | some v => some v | none => cr r q := by
 by_cases hx : ∃ ks k v,x = .tup [.agg ks,.int k v]
 ·obtain ⟨ks,k,v,rfl⟩ := hx
  simp only [cr,KI]
  cases js q ks <;> rfl
 ·have e1 : KI x q = none := by
   unfold KI
   split
   ·exact absurd ⟨_,_,_,rfl⟩ hx
   ·rfl
  rw [e1,cr]
  intro ks k v h
  exact hx ⟨ks,k,v,h⟩
theorem Jp (key q : List D) (v : Int) : ∀ xs : List D,cr (uH xs key v) q = match cr xs q with | some u => some u | none => if js q key = true then some v else none
 | [] => by
  show cr [_] q = _
  rw [Ed]
  simp only [KI,cr]
  cases js q key <;> rfl
 | x :: xs => by
  have ih := Jp key q v xs
  show cr (x :: uH xs key v) q = _
  rw [Ed,Ed,ih]
  cases KI x q <;> rfl
def De (ents : List D) (keys : List Nd) : Prop := ∀ x : Nd,cr ents (kC x) = (keys.findIdx? (fun y => BU y x)).map (fun k => (k : Int))
theorem NT : De [] [] := fun x => by simp [cr]
theorem KJ (keys : List Nd) (y x : Nd) : (keys ++ [y]).findIdx? (fun z => BU z x) = match keys.findIdx? (fun z => BU z x) with | some k => some k | none => if BU y x = true then some keys.length else none := by
 rw [List.findIdx?_append]
 cases h : keys.findIdx? (fun z => BU z x) with
 | some k => simp
 | none =>
  simp only [Option.none_or,List.findIdx?_cons,List.findIdx?_nil]
  cases BU y x <;> simp
theorem NU {ents : List D} {keys : List Nd} (h : De ents keys) {y : Nd} {k : Nat} (hk : keys.findIdx? (fun z => BU z y) = some k) : De ents (keys ++ [y]) := by
 intro x
 rw [h x,KJ]
 cases hx : keys.findIdx? (fun z => BU z x) with
 | some j => rfl
 | none =>
  simp only
  cases hyx : BU y x with
  | false => simp
  | true =>
   rw [ndEq_iff.1 hyx,hx] at hk
   cases hk
theorem NR {ents : List D} {keys : List Nd} (h : De ents keys) {y : Nd} (_ : keys.findIdx? (fun z => BU z y) = none) : De (uH ents (kC y) keys.length) (keys ++ [y]) := by
 intro x
 rw [Jp,h x,KJ]
 cases hx : keys.findIdx? (fun z => BU z x) with
 | some j => rfl
 | none =>
  simp only [QD]
  cases hyx : BU y x <;> simp
def clV (keys : List Nd) (y : Nd) (i : Nat) : Int := match keys.findIdx? (fun z => BU z y) with | some k => (k : Int) | none => (i : Int)
theorem QE {l : List Int} (h : l.length < 4294967290) (x : Int) : decide (ni (l.map eI ++ [iN x]).length <= LIM) = true :=
 decide_eq_true (by rw [oQ]; simp only [ni,lnA,lnM,lnC,lnN]; omega)
theorem Gg {ents : List D} {keys : List Nd} {out : List Int} {i : Nat} (h : De ents keys) (ho : out.length = i) (hk : keys.length = i) (hl : i < 4294967290) (a b : Int) (s : ByteArray) (c d : Int) (F : List D -> List D -> Option Ret) :
  ∃ ents',De ents' (keys ++ [⟨a,b,s,c,d⟩]) /\ br (!iw ents [iN a,iN b,.str s,iN c,iN d])
   (grd (!iw ents [iN a,iN b,.str s,iN c,iN d]) (nam (uH ents [iN a,iN b,.str s,iN c,iN d] (i : Int)) fun l21 => grd (decide (ni (out.map eI ++ [iN (i : Int)]).length <= LIM)) (nam (out.map eI ++ [iN (i : Int)]) fun l22 => F l21 l22)))
   (grd (decide (ni (out.map eI ++ [iN (me ents [iN a,iN b,.str s,iN c,iN d])]).length <= LIM)) (nam (out.map eI ++ [iN (me ents [iN a,iN b,.str s,iN c,iN d])]) fun l23 => F ents l23)) =
   F ents' ((out ++ [clV keys ⟨a,b,s,c,d⟩ i]).map eI) := by
 have hx := h ⟨a,b,s,c,d⟩
 have el : ∀ v : Int,out.map eI ++ [iN v] = (out ++ [v]).map eI := fun v => by simp
 unfold clV
 cases hf : keys.findIdx? (fun z => BU z ⟨a,b,s,c,d⟩) with
 | some k =>
  rw [hf] at hx
  obtain ⟨e1,e2⟩ := uG (xs := ents) (ks := [iN a,iN b,.str s,iN c,iN d]) hx
  refine ⟨ents,NU h hf,?_⟩
  rw [e2,e1,Bool.not_true,wJ,xu (QE (by omega) _),xB,el]
 | none =>
  rw [hf] at hx
  obtain ⟨e1,e2⟩ := uF (xs := ents) (ks := [iN a,iN b,.str s,iN c,iN d]) hx
  refine ⟨_,NR h hf,?_⟩
  rw [e2,Bool.not_false,xl,wW,xB,xu (QE (by omega) _),xB,el,hk]
theorem Ce {R : Type} {l : List Int} {v : Int} (h0 : 0 <= v) (h1 : v < (l.length : Int)) (K : Int -> Option R) : grd (decide (0 <= v) && decide (v < ni (l.map eI).length)) (cz (l.map eI) v.toNat fun x => asI .i64 x fun n => K n) = K (l.getD v.toNat 0) := by
 obtain ⟨x,hx⟩ := wt (l := l) (i := v.toNat) (by omega)
 rw [xu (by rw [lnM]; simp only [ni,Bool.and_eq_true,decide_eq_true_eq]; exact ⟨h0,h1⟩),w8 hx,xf,List.getD_eq_getElem?_getD,hx]; rfl
theorem KC (x : Nd) (r : List Nd) (out : List Int) (keys : List Nd) : NB (x :: r) out keys = NB r (out ++ [clV keys (BC out x) out.length]) (keys ++ [BC out x]) := rfl
theorem Ft {p : List Nd} (hp : ye p) (hl : p.length < 4294967290) : ∀ (k i : Nat) (ents : List D) (keys : List Nd) (out : List Int),i + k = p.length -> out.length = i -> keys.length = i -> De ents keys ->
  xW (p.map eN) (ni (p.map eN).length) (i : Int) ents (out.map eI) = some (.os (1,0) ((NB (p.drop i) out keys).1.map eI),[])
 | 0,i,ents,keys,out,hi,ho,hk,h => by
  rw [Bx,vQ (by rw [lnM]; exact xt (by omega)),List.drop_of_length_le (by omega)]
  rfl
 | k + 1,i,ents,keys,out,hi,ho,hk,h => by
  obtain ⟨x,hx⟩ := wt (l := p) (i := i) (by omega)
  have hxo := hp i x hx
  have ih := fun ents keys out ho hk h => Ft hp hl k (i + 1) ents keys out (by omega) ho hk h
  rw [Bx,wK (by rw [lnM]; exact xA (by omega)),xu (by rw [lnM]; exact xz (by omega)),Int.toNat_natCast,w8 hx,Jt,sy hx,KC,xN (by omega),ho]
  have fin : ∀ (y : Nd) (X : Option Ret),y = BC out x -> (∃ ents',De ents' (keys ++ [y]) /\ X = xW (p.map eN) (ni (p.map eN).length) ((i + 1 : Nat) : Int) ents' ((out ++ [clV keys y i]).map eI)) ->
    X = some (.os (1,0) ((NB (p.drop (i + 1)) (out ++ [clV keys (BC out x) i]) (keys ++ [BC out x])).1.map eI),[]) := by
   rintro y X rfl ⟨ents',h1,rfl⟩
   exact ih ents' _ _ (by simp [ho]) (by simp [hk]) h1
  by_cases h5 : x.kind = 5
  ·have hb := yR hxo h5
   rw [wK (xG h5),Ce hb.1 (by omega),Ce hb.2.2.1 (by omega)]
   exact fin ⟨x.kind,x.n,x.s,out.getD x.a.toNat 0,out.getD x.b.toNat 0⟩ _ (by simp only [BC,h5,if_true]) (Gg h ho hk (by omega) x.kind x.n x.s _ _ fun e o => xW (p.map eN) (ni (p.map eN).length) ((i + 1 : Nat) : Int) e o)
  ·rw [vQ (xF h5)]
   by_cases h6 : x.kind = 6
   ·have hb := zY hxo (.inl h6)
    rw [wK (xG h6),wK (xG h6),Ce hb.1 (by omega)]
    exact fin ⟨x.kind,x.n,x.s,out.getD x.a.toNat 0,x.b⟩ _ (by simp only [BC,h6,true_or,if_true]; simp) (Gg h ho hk (by omega) x.kind x.n x.s _ x.b fun e o => xW (p.map eN) (ni (p.map eN).length) ((i + 1 : Nat) : Int) e o)
   ·rw [vQ (xF h6)]
    by_cases h7 : x.kind = 7
    ·have hb := zY hxo (.inr h7)
     rw [wK (xG h7),Ce hb.1 (by omega)]
     exact fin ⟨x.kind,x.n,x.s,out.getD x.a.toNat 0,x.b⟩ _ (by simp only [BC,h7]; simp) (Gg h ho hk (by omega) x.kind x.n x.s _ x.b fun e o => xW (p.map eN) (ni (p.map eN).length) ((i + 1 : Nat) : Int) e o)
    ·rw [vQ (xF h7)]
     exact fin x _ (by simp only [BC,h5,h6,h7,if_false,or_self]) (Gg h ho hk (by omega) x.kind x.n x.s x.a x.b fun e o => xW (p.map eN) (ni (p.map eN).length) ((i + 1 : Nat) : Int) e o)
theorem Qi {p : List Nd} (hp : ye p) (hl : p.length < 4294967290) : V 102 [eP p] = some (.os (1,0) ((Qt p).map eI),[]) := by
 rw [Kg]
 exact Ft hp hl p.length 0 [] [] [] (Nat.zero_add _) rfl rfl NT
theorem Mg : ∀ (r : List Nd) (out : List Int) (keys : List Nd),(NB r out keys).1.length = out.length + r.length
 | [],out,keys => rfl
 | x :: r,out,keys => by
  rw [KC,Mg r]; simp only [lnA,lnC,lnN]; omega
theorem Mh (p : List Nd) : (Qt p).length = p.length := by
 unfold Qt; rw [Mg]; simp
def Ph (p : List Nd) (a b : Int) : Bool := xT p && (Bi p a && (Bi p b && Pi p a b))
theorem Nq {p : List Nd} (hf : Bv p) (hl : p.length < 4611686018427387904) (a b : Int) : V 100 [eP p,iN a,iN b] = some (.bool (Ph p a b),[]) := by
 have h1 := yo hf hl
 have h2 := zk hl a
 have h3 := zk hl b
 rw [NG,AQ h1]
 unfold Ph Bi
 cases e1 : xT p with
 | false => rfl
 | true =>
  have hlen := yq e1
  have h4 := Qi (okPool_iff.1 e1).1 (by omega)
  rw [Bool.not_true,wJ,Ch h2]
  cases e2 : wi a 0 ((p.length : Int) - 1) with
  | false => rfl
  | true =>
   rw [Bool.not_true,wJ,Ch h3]
   cases e3 : wi b 0 ((p.length : Int) - 1) with
   | false => rfl
   | true =>
    have b2 := wi_iff.1 e2
    have b3 := wi_iff.1 e3
    rw [Bool.not_true,wJ,LN h4,Ce b2.1 (by rw [Mh]; omega),Ce b3.1 (by rw [Mh]; omega)]
    rfl

end
end Go.Eng
/-! what is built in: both sides -/
namespace Go.Eng
noncomputable section
open Go.Proofs Go.Proofs.Try
set_option maxHeartbeats 4000000

theorem AL {R : Type} {l : List Int} {v x : Int} (h0 : 0 <= v) (h : l[v.toNat]? = some x) (K : Int -> Option R) : grd (decide (0 <= v) && decide (v < ni (l.map eI).length)) (cz (l.map eI) v.toNat fun x => asI .i64 x fun n => K n) = K x := by
 have := aQ h
 rw [Ce h0 (by omega),List.getD_eq_getElem?_getD,h]; rfl
theorem zz {R : Type} {a : Int} {r : List Int} (K : Int -> Option R) : grd (decide ((0 : Nat) <= 0) && decide ((0 : Int) < ni ((a :: r).map eI).length)) (cz ((a :: r).map eI) 0 fun x => asI .i64 x fun n => K n) = K a := AL (l := a :: r) (v := 0) (by omega) rfl K
theorem Dk {R : Type} {a b : Int} {r : List Int} (K : Int -> Option R) : grd (decide ((0 : Nat) <= 1) && decide ((1 : Int) < ni ((a :: b :: r).map eI).length)) (cz ((a :: b :: r).map eI) 1 fun x => asI .i64 x fun n => K n) = K b := AL (l := a :: b :: r) (v := 1) (by omega) rfl K
theorem LI {R : Type} {a b c : Int} {r : List Int} (K : Int -> Option R) : grd (decide ((0 : Nat) <= 2) && decide ((2 : Int) < ni ((a :: b :: c :: r).map eI).length)) (cz ((a :: b :: c :: r).map eI) 2 fun x => asI .i64 x fun n => K n) = K c := AL (l := a :: b :: c :: r) (v := 2) (by omega) rfl K
theorem QB {R : Type} {a b c d : Int} {r : List Int} (K : Int -> Option R) : grd (decide ((0 : Nat) <= 3) && decide ((3 : Int) < ni ((a :: b :: c :: d :: r).map eI).length)) (cz ((a :: b :: c :: d :: r).map eI) 3 fun x => asI .i64 x fun n => K n) = K d := AL (l := a :: b :: c :: d :: r) (v := 3) (by omega) rfl K
theorem Cx : nz ⟨#[]⟩ = true := by unfold nz; rw [AX]; simp
theorem IP {n : Int} : V 91 [iN n] = some (iN (yi n),[]) := by
 rw [Jd,yh (yj _ _ _)]
 unfold yi
 cases h : wi n 1 19 with
 | false => rfl
 | true =>
  have hb := wi_iff.1 h
  rw [Bool.not_true,wJ,w64 (n := n - 1) (by omega) (by omega)]
  exact Ce (l := prArgs) (by omega) (by show n - 1 < 19; omega) _
theorem Q8 {R : Type} {l : List (List UInt8)} {i : Nat} {x : List UInt8} (h : l[i]? = some x) (K : ByteArray -> Option R) : grd (decide (0 <= (i : Int)) && decide ((i : Int) < ni (l.map fun x => D.str (mk x)).length)) (cz (l.map fun x => D.str (mk x)) (i : Int).toNat fun x => asS x fun n => K n) = K (mk x) := by
 have := aQ h
 rw [xu (by rw [lnM]; exact xz this),Int.toNat_natCast,w8 h,xj]
theorem FX {l : List (List UInt8)} (hl : l.length < 4611686018427387904) (s : ByteArray) : ∀ (k i : Nat),i + k = l.length -> yr (l.map fun x => D.str (mk x)) s (ni l.length) (i : Int) = some (iN (dw (fun x => jJ s (mk x)) l i),[])
 | 0,i,hi => by
  rw [y5,vQ (xt (by omega)),vN (by omega)]
 | k + 1,i,hi => by
  obtain ⟨x,hx⟩ := wt (l := l) (i := i) (by omega)
  have ih := FX hl s k (i + 1) (by omega)
  rw [y5,wK (xA (by omega)),Q8 hx]
  cases h : jJ s (mk x) with
  | true => rw [xl,vO hx h]
  | false => rw [wJ,xN (by omega),ih,vx hx h]
theorem Gc (s : ByteArray) : 0 <= A8 s /\ A8 s <= 19 := by
 unfold A8 xb
 cases h : prNames.findIdx? fun x => jJ s (mk x) with
 | none => simp
 | some k =>
  rw [List.findIdx?_eq_some_iff_getElem] at h
  obtain ⟨hk,_⟩ := h
  have : prNames.length = 19 := rfl
  simp only; omega
theorem Ku (s : ByteArray) : V 85 [.str s] = some (iN (A8 s),[]) := by
 have h1 : V 87 [.rs (1,0) (prNames.map fun x => D.str (mk x)),.str s] = some (iN (xb (fun x => jJ s (mk x)) prNames),[]) := by
  have h := FX (l := prNames) (by decide) s prNames.length 0 (Nat.zero_add _)
  rw [vy,Int.natCast_zero] at h
  rw [zr]
  exact h
 have hb := Gc s
 have h2 : V 93 [] = some (.os (1,0) (prNames.map fun x => D.str (mk x)),[]) := IG
 unfold A8 at hb ⊢
 rw [Lp,JB h2,yK h1,w64 (by omega) (by omega)]
theorem z6 (b : Bool) : V 99 [.bool b] = some (eN (ndB b),[]) := by
 rw [Je]; cases b <;> rfl
def QQ (n a b : Int) : Nd := if n = 1 then ndI (a + b) else if n = 2 then ndI (a - b) else if n = 3 then ndI (a * b) else if n = 4 then ndB (decide (a < b)) else ndB (a == b)
theorem PF {a b : Int} (ha : -1000000000 <= a /\ a <= 1000000000) (hb : -1000000000 <= b /\ b <= 1000000000) : -1000000000000000000 <= a * b /\ a * b <= 1000000000000000000 := by
 have h1 : a.natAbs <= 1000000000 := by omega
 have h2 : b.natAbs <= 1000000000 := by omega
 have h3 : (a * b).natAbs <= 1000000000 * 1000000000 := by rw [Int.natAbs_mul]; exact Nat.mul_le_mul h1 h2
 omega
theorem Qk {n a b : Int} (ha : -1000000000 <= a /\ a <= 1000000000) (hb : -1000000000 <= b /\ b <= 1000000000) : V 101 [iN n,iN a,iN b] = some (eN (QQ n a b),[]) := by
 have hm := PF ha hb
 rw [Kn]
 unfold QQ
 by_cases h1 : n = 1
 ·rw [wK (xG h1),if_pos h1,w64 (by omega) (by omega)]
 rw [vQ (xF h1),if_neg h1]
 by_cases h2 : n = 2
 ·rw [wK (xG h2),if_pos h2,w64 (by omega) (by omega)]
 rw [vQ (xF h2),if_neg h2]
 by_cases h3 : n = 3
 ·rw [wK (xG h3),if_pos h3,w64 (by omega) (by omega)]
 rw [vQ (xF h3),if_neg h3]
 by_cases h4 : n = 4
 ·rw [wK (xG h4),if_pos h4,zb (z6 _)]
 rw [vQ (xF h4),if_neg h4,zb (z6 _)]
theorem Sf {x : Nd} {h : Int} (ho : okN x h = true) : x.s.size <= 12 := by
 have nz0 : nz x.s = true -> x.s.size <= 12 := by
  intro e
  unfold nz at e
  rw [AX] at e
  rw [of_decide_eq_true e]; decide
 have nm : DP x.s = true -> x.s.size <= 12 := by
  intro e
  unfold DP at e
  simp only [Bool.and_eq_true] at e
  have := wi_iff.1 e.1
  omega
 unfold okN at ho
 repeat' split at ho
 all_goals first | cases ho | skip
 all_goals (simp only [Bool.and_eq_true] at ho; first | exact nz0 ho.2.1 | exact nm ho.2.1)
theorem z3 {p : List Nd} (hp : ye p) : Bv p := fun x hx => by
 obtain ⟨j,hj⟩ := List.getElem?_of_mem hx
 have := Sf (hp j x hj)
 omega
theorem O9 {x : Nd} {h : Int} (ho : okN x h = true) (hk : x.kind = 3) : -1000000000 <= x.n /\ x.n <= 1000000000 := by
 simp [okN,hk] at ho
 exact wi_iff.1 ho.1
def Cr (p : List Nd) (n : Int) (v : Int) : Bool := if n <= 5 then (nod p v).kind == 3 else if n = 7 \/ n = 8 then (nod p v).kind == 5 else true
theorem KX {p : List Nd} {n : Int} {l : List Int} (hl : l.length < 4294967290) (hv : ∀ v ∈ l,InP p v) : ∀ (k i : Nat),i + k = l.length ->
  yf n (l.map eI) (l.map eI) (ni l.length) (i : Int) (p.map eN) = if (l.drop i).all (Cr p n) = true then yf n (l.map eI) (l.map eI) (ni l.length) (l.length : Int) (p.map eN) else some (.tup [iN (-1),iN 3],[rP p])
 | 0,i,hi => by
  have : i = l.length := by omega
  subst this
  simp
 | k + 1,i,hi => by
  obtain ⟨v,hx⟩ := wt (l := l) (i := i) (by omega)
  have hvi := hv v (List.mem_of_getElem? hx)
  have ih := KX (n := n) hl hv k (i + 1) (by omega)
  rw [AH n (l.map eI) (l.map eI) (ni l.length) (i : Int),wK (xA (by omega)),AL (x := v) (by omega) (by rw [Int.toNat_natCast]; exact hx),xN (by omega),ih,sy hx,List.all_cons]
  by_cases h5 : n <= 5
  ·have ec : Cr p n v = ((nod p v).kind == 3) := by unfold Cr; rw [if_pos h5]
   rw [wK (decide_eq_true h5),Lg hvi,ec]
   by_cases hk : (nod p v).kind = 3
   ·rw [vQ (xH hk),vQ (xF (by omega)),vQ (xF (by omega)),xG hk,Bool.true_and]
   ·rw [wK (xI hk),xF hk,Bool.false_and]; rfl
  ·rw [vQ (decide_eq_false h5)]
   by_cases h7 : n = 7
   ·have ec : Cr p n v = ((nod p v).kind == 5) := by unfold Cr; rw [if_neg h5,if_pos (.inl h7)]
    rw [wK (xG h7),Lg hvi,ec]
    by_cases hk : (nod p v).kind = 5
    ·rw [vQ (xH hk),xG hk,Bool.true_and]
    ·rw [wK (xI hk),xF hk,Bool.false_and]; rfl
   ·rw [vQ (xF h7)]
    by_cases h8 : n = 8
    ·have ec : Cr p n v = ((nod p v).kind == 5) := by unfold Cr; rw [if_neg h5,if_pos (.inr h8)]
     rw [wK (xG h8),Lg hvi,ec]
     by_cases hk : (nod p v).kind = 5
     ·rw [vQ (xH hk),xG hk,Bool.true_and]
     ·rw [wK (xI hk),xF hk,Bool.false_and]; rfl
    ·have ec : Cr p n v = true := by unfold Cr; rw [if_neg h5,if_neg (by omega)]
     rw [vQ (xF h8),ec,Bool.true_and]
def Un (p : List Nd) (r : Except Int (List Nd × Int)) : Option Ret := match r with
 | .ok (q,v) => some (.tup [iN v,iN 0],[rP q])
 | .error h => some (.tup [iN (-1),iN h],[rP p])
def Ay (p : List Nd) (n : Int) (l : List Int) : Nd :=
 let x := nod p (l.getD 0 0); let y := nod p (l.getD 1 0)
 if n = 6 then ndP (l.getD 0 0) (l.getD 1 0)
 else if n = 9 then ndB (x.kind == 1)
 else if n = 10 then ndB (x.kind == 5)
 else if n = 11 then ndB (Pi p (l.getD 0 0) (l.getD 1 0))
 else if n = 12 then ndB (x.kind == 2 && x.n == 0)
 else QQ n x.n y.n
theorem OC {p : List Nd} (hp : ye p) (hl : p.length < 4294967290) {n : Int} {l : List Int} (hv : ∀ v ∈ l,InP p v) (h12 : 1 <= n /\ n <= 12) (h78 : n ≠ 7 /\ n ≠ 8) (hlen : (l.length : Int) = yi n) (h11 : n = 11 -> xT p = true)
  (hk : n <= 5 -> ∀ v ∈ l,(nod p v).kind = 3) : V 96 [eP p,iN n,.rs (1,0) (l.map eI)] = some (eN (Ay p n l),[]) := by
 have hpos : l ≠ [] := by
  rintro rfl
  simp only [yi,lnN] at hlen
  have : n = 1 \/ n = 2 \/ n = 3 \/ n = 4 \/ n = 5 \/ n = 6 \/ n = 7 \/ n = 8 \/ n = 9 \/ n = 10 \/ n = 11 \/ n = 12 := by omega
  rcases this with rfl | rfl | rfl | rfl | rfl | rfl | rfl | rfl | rfl | rfl | rfl | rfl <;> cases hlen
 obtain ⟨a,r,rfl⟩ : ∃ a r,l = a :: r := by cases l with | nil => exact absurd rfl hpos | cons a r => exact ⟨a,r,rfl⟩
 have ha := hv a (by simp)
 have two : (n <= 6 \/ n = 11) -> ∃ b,r = [b] := by
  intro h
  have h2 : yi n = 2 := by
   have : n = 1 \/ n = 2 \/ n = 3 \/ n = 4 \/ n = 5 \/ n = 6 \/ n = 11 := by omega
   rcases this with rfl | rfl | rfl | rfl | rfl | rfl | rfl <;> rfl
  rw [h2] at hlen
  simp only [lnC] at hlen
  match r,hlen with
  | [b],_ => exact ⟨b,rfl⟩
  | [],h => simp at h
  | _ :: _ :: _,h => simp at h; omega
 rw [Jf,zz,DR ha]
 unfold Ay
 simp only [List.getD_cons_zero]
 by_cases h6 : n = 6
 ·obtain ⟨b,rfl⟩ := two (by omega)
  rw [wK (xG h6),if_pos h6,zz,Dk]
  rfl
 rw [vQ (xF h6),if_neg h6]
 by_cases h9 : n = 9
 ·rw [wK (xG h9),if_pos h9,zb (z6 _)]
 rw [vQ (xF h9),if_neg h9]
 by_cases h10 : n = 10
 ·rw [wK (xG h10),if_pos h10,zb (z6 _)]
 rw [vQ (xF h10),if_neg h10]
 by_cases hn11 : n = 11
 ·obtain ⟨b,rfl⟩ := two (by omega)
  have hok := h11 hn11
  have hb := hv b (by simp)
  have hs := Nq (p := p) (z3 hp) (by omega) a b
  have hsf : Ph p a b = Pi p a b := by
   have h1 : Bi p a = true := wi_iff.2 ⟨ha.1,by omega⟩
   have h2 : Bi p b = true := wi_iff.2 ⟨hb.1,by omega⟩
   simp [Ph,hok,h1,h2]
  rw [hsf] at hs
  rw [wK (xG hn11),if_pos hn11,zz,Dk,PN hs,zb (z6 _)]
  rfl
 rw [vQ (xF hn11),if_neg hn11]
 by_cases hn12 : n = 12
 ·rw [wK (xG hn12),if_pos hn12]
  cases hk2 : (nod p a).kind == 2 with
  | true => rw [xl,zb (z6 _),Bool.true_and]
  | false => rw [wJ,zb (z6 _),Bool.false_and]
 rw [vQ (xF hn12),if_neg hn12]
 obtain ⟨b,rfl⟩ := two (by omega)
 have hb := hv b (by simp)
 have k1 := hk (by omega) a (by simp)
 have k2 := hk (by omega) b (by simp)
 have hn := Qk (n := n) (O9 (Ee hp ha) k1) (O9 (Ee hp hb) k2)
 rw [Dk,Qs hb,LP hn]
 rfl
theorem I4 {n : Int} {l : List Int} (hlen : (l.length : Int) = yi n) (h : 1 <= n /\ n <= 6 \/ n = 11) : ∃ a b,l = [a,b] := by
 have h2 : yi n = 2 := by
  have : n = 1 \/ n = 2 \/ n = 3 \/ n = 4 \/ n = 5 \/ n = 6 \/ n = 11 := by omega
  rcases this with rfl | rfl | rfl | rfl | rfl | rfl | rfl <;> rfl
 rw [h2] at hlen
 match l,hlen with
 | [a,b],_ => exact ⟨a,b,rfl⟩
 | [],h => simp at h
 | [_],h => simp at h
 | _ :: _ :: _ :: _,h => simp at h; omega
theorem DQ {n : Int} {l : List Int} (hlen : (l.length : Int) = yi n) (h : 7 <= n /\ n <= 10 \/ n = 12) : ∃ a,l = [a] := by
 have h2 : yi n = 1 := by
  have : n = 7 \/ n = 8 \/ n = 9 \/ n = 10 \/ n = 12 := by omega
  rcases this with rfl | rfl | rfl | rfl | rfl <;> rfl
 rw [h2] at hlen
 match l,hlen with
 | [a],_ => exact ⟨a,rfl⟩
 | [],h => simp at h
 | _ :: _ :: _,h => simp at h; omega
theorem Oh {p : List Nd} (_ : ye p) {n : Int} {l : List Int} (hv : ∀ v ∈ l,InP p v) (hlen : (l.length : Int) = yi n) (_ : 1 <= n /\ n <= 12) (_ : n ≠ 7 /\ n ≠ 8) (hw : wi (Ay p n l).n (-1000000000) 1000000000 = true) : okN (Ay p n l) p.length = true := by
 have hB : ∀ b,okN (ndB b) p.length = true := by intro b; cases b <;> simp [ndB,okN,wi,Cx]
 unfold Ay at hw ⊢
 simp only at hw ⊢
 by_cases h6 : n = 6
 ·rw [if_pos h6]
  obtain ⟨a,b,rfl⟩ := I4 hlen (by omega)
  have ha := hv a (by simp)
  have hb := hv b (by simp)
  show (wi 0 0 0 && (nz ⟨#[]⟩ && (wi a 0 _ && wi b 0 _))) = true
  rw [wi_iff.2 ⟨ha.1,by omega⟩,wi_iff.2 ⟨hb.1,by omega⟩,Cx]
  rfl
 rw [if_neg h6] at hw ⊢
 by_cases h9 : n = 9
 ·rw [if_pos h9]; exact hB _
 rw [if_neg h9] at hw ⊢
 by_cases h10 : n = 10
 ·rw [if_pos h10]; exact hB _
 rw [if_neg h10] at hw ⊢
 by_cases h11 : n = 11
 ·rw [if_pos h11]; exact hB _
 rw [if_neg h11] at hw ⊢
 by_cases hn12 : n = 12
 ·rw [if_pos hn12]; exact hB _
 rw [if_neg hn12] at hw ⊢
 unfold QQ at hw ⊢
 have hI : ∀ x,wi x (-1000000000) 1000000000 = true -> okN (ndI x) p.length = true := fun x hx => by
  show (wi x (-1000000000) 1000000000 && (nz ⟨#[]⟩ && _)) = true
  rw [hx,Cx]; rfl
 split at hw
 ·rw [if_pos ‹_›]; exact hI _ hw
 rw [if_neg ‹_›]
 split at hw
 ·rw [if_pos ‹_›]; exact hI _ hw
 rw [if_neg ‹_›]
 split at hw
 ·rw [if_pos ‹_›]; exact hI _ hw
 rw [if_neg ‹_›]
 split <;> exact hB _
theorem Ew {p : List Nd} {n : Int} {l : List Int} (h12 : 1 <= n /\ n <= 12) (hlen : (l.length : Int) = yi n) : GC p n l =
  if l.all (Cr p n) = true then (if n = 7 then .ok (p,(nod p (l.getD 0 0)).a) else if n = 8 then .ok (p,(nod p (l.getD 0 0)).b) else if wi (Ay p n l).n (-1000000000) 1000000000 = true then .ok (p ++ [Ay p n l],p.length) else .error 4) else .error 3 := by
 unfold GC
 simp only
 have hBw : ∀ b,wi (ndB b).n (-1000000000) 1000000000 = true := by intro b; cases b <;> rfl
 by_cases h5 : n <= 5
 ·obtain ⟨a,b,rfl⟩ := I4 hlen (by omega)
  have hc : [a,b].all (Cr p n) = true ↔ (nod p a).kind = 3 /\ (nod p b).kind = 3 := by
   simp [Cr,h5]
  rw [if_pos h5]
  simp only [List.getD_cons_zero,List.getD_cons_succ]
  by_cases hk : (nod p a).kind = 3 /\ (nod p b).kind = 3
  ·have n7 : ¬ n = 7 := by omega
   have n8 : ¬ n = 8 := by omega
   rw [if_pos hk,if_pos (hc.2 hk),if_neg n7,if_neg n8]
   have e : Ay p n [a,b] = QQ n (nod p a).n (nod p b).n := by
    unfold Ay
    simp only [List.getD_cons_zero,List.getD_cons_succ]
    rw [if_neg (by omega),if_neg (by omega),if_neg (by omega),if_neg (by omega),if_neg (by omega)]
   rw [e]
   rfl
  ·rw [if_neg hk,if_neg (fun h => hk (hc.1 h))]
 rw [if_neg h5]
 by_cases h6 : n = 6
 ·subst h6
  have hc : l.all (Cr p 6) = true := by simp [Cr]
  rw [hc]
  simp only [if_true,Ay]
  rfl
 rw [if_neg h6]
 by_cases h78 : n = 7 \/ n = 8
 ·obtain ⟨a,rfl⟩ := DQ hlen (by omega)
  have hc : [a].all (Cr p n) = true ↔ (nod p a).kind = 5 := by simp [Cr,h5,h78]
  rw [if_pos h78]
  simp only [List.getD_cons_zero]
  by_cases hk : (nod p a).kind = 5
  ·rw [if_pos hk,if_pos (hc.2 hk)]
   rcases h78 with rfl | rfl <;> rfl
  ·rw [if_neg hk,if_neg (fun h => hk (hc.1 h))]
 have hc : l.all (Cr p n) = true := by simp [Cr,h5,h78]
 rw [if_neg h78,if_pos hc,if_neg (fun h => h78 (.inl h)),if_neg (fun h => h78 (.inr h))]
 unfold Ay
 simp only
 rw [if_neg h6]
 by_cases h9 : n = 9
 ·simp only [h9,if_true]; rw [if_pos (hBw _)]
 rw [if_neg h9,if_neg h9]
 by_cases h10 : n = 10
 ·simp only [h10,if_true]; rw [if_pos (hBw _)]
 rw [if_neg h10,if_neg h10]
 by_cases h11 : n = 11
 ·simp only [h11,if_true]; rw [if_pos (hBw _)]
 have hn12 : n = 12 := by omega
 rw [if_neg h11,if_neg h11,if_pos hn12,if_pos (hBw _)]
theorem Nu {p : List Nd} (hp : ye p) (hl : p.length < 4294967290) {n : Int} {l : List Int} (hv : ∀ v ∈ l,InP p v) (h12 : 1 <= n /\ n <= 12) (hlen : (l.length : Int) = yi n) (h11 : n = 11 -> xT p = true) :
  V 92 [rP p,iN n,.rs (1,0) (l.map eI)] = Un p (GC p n l) := by
 have hll : l.length <= 2 := by
  by_cases h : n <= 6 \/ n = 11
  ·obtain ⟨a,b,rfl⟩ := I4 hlen (by omega); simp
  ·obtain ⟨a,rfl⟩ := DQ hlen (by omega); simp
 have h := KX (n := n) (l := l) (by omega) hv l.length 0 (Nat.zero_add _)
 rw [Int.natCast_zero,List.drop_zero] at h
 rw [IE,lnM,h,Ew h12 hlen]
 by_cases hc : l.all (Cr p n) = true
 ·rw [if_pos hc,if_pos hc,AH,vQ (xt (Nat.le_refl _))]
  by_cases h7 : n = 7
  ·obtain ⟨a,rfl⟩ := DQ hlen (by omega)
   rw [wK (xG h7),if_pos h7,zz,Tp (hv a (by simp))]
   rfl
  rw [vQ (xF h7),if_neg h7]
  by_cases h8 : n = 8
  ·obtain ⟨a,rfl⟩ := DQ hlen (by omega)
   rw [wK (xG h8),if_pos h8,zz,Tq (hv a (by simp))]
   rfl
  rw [vQ (xF h8),if_neg h8]
  have hn := OC hp hl hv h12 ⟨h7,h8⟩ hlen h11 (fun h5 v hv' => by
   have := List.all_eq_true.1 hc v hv'
   simpa [Cr,h5] using this)
  rw [Kt hn,yh (yj _ _ _)]
  cases hw : wi (Ay p n l).n (-1000000000) 1000000000 with
  | false => rw [if_neg (by simp)]; rfl
  | true =>
   rw [if_pos rfl,Bool.not_true,wJ,yg (Bd (by omega) (Ay p n l))]
   rfl
 ·rw [if_neg hc,if_neg hc]; rfl
end
end Go.Eng
/-! a step of a machine keeps it right: plain -/
namespace Go.Eng

theorem yn {p : List Nd} (hp : ye p) {x : Nd} (hx : okN x p.length = true) : ye (p ++ [x]) := by
 intro j y hy
 rcases Nat.lt_or_ge j p.length with h | h
 ·rw [List.getElem?_append_left h] at hy; exact hp j y hy
 ·rw [List.getElem?_append_right h] at hy
  have : j = p.length := by have := aQ hy; simp at this; omega
  subst this
  simp at hy; subst hy; exact hx
theorem LR (h : Int) : okN ndN h = true := by
 show (wi 0 0 0 && (nz ⟨#[]⟩ && _)) = true
 rw [Cx]; rfl
theorem GA {a b : Int} {n : Nat} (ha : 0 <= a /\ a < (n : Int)) (hb : 0 <= b /\ b < (n : Int)) : okN (ndP a b) n = true := by
 show (wi 0 0 0 && (nz ⟨#[]⟩ && (wi a 0 _ && wi b 0 _))) = true
 rw [wi_iff.2 ⟨ha.1,by omega⟩,wi_iff.2 ⟨hb.1,by omega⟩,Cx]; rfl
theorem LQ {n h : Int} (hn : -1000000000 <= n /\ n <= 1000000000) : okN (ndI n) h = true := by
 show (wi n (-1000000000) 1000000000 && (nz ⟨#[]⟩ && _)) = true
 rw [wi_iff.2 hn,Cx]; rfl
theorem Pa {k a : Int} {n : Nat} (hk : 0 <= k /\ k <= 1000000000) (ha : 0 <= a /\ a < (n : Int)) : okN (ndF k a) n = true := by
 show (wi k 0 1000000000 && (nz ⟨#[]⟩ && (wi a 0 _ && _))) = true
 rw [wi_iff.2 hk,wi_iff.2 ⟨ha.1,by omega⟩,Cx]; rfl
theorem Pb {a : Int} {n : Nat} (ha : 0 <= a /\ a < (n : Int)) : okN (ndK a) n = true := by
 show (wi 0 0 0 && (nz ⟨#[]⟩ && (wi a 0 _ && _))) = true
 rw [wi_iff.2 ⟨ha.1,by omega⟩,Cx]; rfl
theorem Se {k h : Int} (hk : 0 <= k /\ k <= 99) : okN (ndR k) h = true := by
 show (wi k 0 99 && (nz ⟨#[]⟩ && _)) = true
 rw [wi_iff.2 hk,Cx]; rfl
theorem y6 (p : List Nd) (x : Nd) : InP (p ++ [x]) (p.length : Int) := ⟨by omega,by simp only [lnA,lnC,lnN]; omega⟩
theorem Gu : ∀ (r : List Int) (q : List Nd) (c : Nat),ye q -> c < q.length -> (∀ v ∈ r,InP q v) -> ye (zA r q c).1 /\ (∃ t,(zA r q c).1 = q ++ t /\ t.length = r.length) /\ (zA r q c).2 < (zA r q c).1.length
 | [],q,c,hq,hc,hr => ⟨hq,⟨[],by simp [zA],rfl⟩,hc⟩
 | x :: r,q,c,hq,hc,hr => by
  have hx := hr x (by simp)
  obtain ⟨h1,⟨t,h2,h3⟩,h4⟩ := Gu r (q ++ [ndP x c]) q.length (yn hq (GA hx ⟨by omega,by omega⟩)) (by simp) (fun v hv => ya _ (hr v (by simp [hv])))
  exact ⟨h1,⟨ndP x c :: t,by rw [zA,h2]; simp,by simp [h3]⟩,h4⟩
theorem AM {q : List Nd} {row : List Int} (hq : ye q) (hr : ∀ v ∈ row,InP q v) : ye (xU q row).1 /\ (∃ t,(xU q row).1 = q ++ t /\ t.length = row.length + 1) /\ InP (xU q row).1 ((xU q row).2 : Int) := by
 obtain ⟨h1,⟨t,h2,h3⟩,h4⟩ := Gu row.reverse (q ++ [ndN]) q.length (yn hq (LR _)) (by simp) (fun v hv => ya _ (hr v (by simpa using hv)))
 refine ⟨h1,⟨ndN :: t,by unfold xU; rw [h2]; simp,by simp [h3]⟩,⟨by omega,?_⟩⟩
 have : (xU q row).2 < (xU q row).1.length := h4
 omega
structure GM (m : Mc) : Prop where
 ok : ye m.pool
 s : InP m.pool m.s
 e : InP m.pool m.e
 d : InP m.pool m.d
theorem Dr {m : Mc} (h : GM m) {v : Int} (hv : InP m.pool v) : GM (JK m v) :=
 ⟨yn h.ok (GA hv h.s),y6 _ _,ya _ h.e,ya _ h.d⟩
theorem Db {m m' : Mc} (h : GM m) {v : Int} (ht : Da m = some (v,m')) : GM m' /\ InP m'.pool v /\ m'.pool = m.pool /\ m'.at' = m.at' /\ m'.state = m.state /\ m'.ask = m.ask /\ m'.arg = m.arg /\ m'.d = m.d := by
 obtain ⟨h1,h2,h3,h4,h5,h6,h7,h8,h9⟩ := Nh h.ok h.s ht
 exact ⟨⟨by rw [h2]; exact h.ok,by rw [h2]; exact h3,by rw [h2,h4]; exact h.e,by rw [h2,h5]; exact h.d⟩,by rw [h2]; exact h1,h2,h6,h7,h8,h9,h5⟩
theorem GZ : ∀ {k : Nat} {m m' : Mc} {l : List Int},GM m -> Ap k m = some (l,m') -> GM m' /\ (∀ v ∈ l,InP m'.pool v) /\ l.length = k /\ m'.pool = m.pool /\ m'.at' = m.at' /\ m'.state = m.state /\ m'.ask = m.ask /\ m'.arg = m.arg /\ m'.d = m.d
 | 0,m,m',l,h,ht => by
  simp only [Ap,Option.some.injEq,Prod.mk.injEq] at ht
  obtain ⟨rfl,rfl⟩ := ht
  exact ⟨h,by simp,rfl,rfl,rfl,rfl,rfl,rfl,rfl⟩
 | k + 1,m,m',l,h,ht => by
  simp only [Ap] at ht
  split at ht
  ·cases ht
  ·rename_i v m1 h1
   split at ht
   ·cases ht
   ·rename_i l2 m2 h2
    cases ht
    obtain ⟨g1,g2,g3,g4,g5,g6,g7,g8⟩ := Db h h1
    obtain ⟨f1,f2,f3,f4,f5,f6,f7,f8,f9⟩ := GZ g1 h2
    refine ⟨f1,fun u hu => ?_,by simp [f3],f4.trans g3,f5.trans g4,f6.trans g5,f7.trans g6,f8.trans g7,f9.trans g8⟩
    rcases List.mem_cons.1 hu with rfl | hu
    ·rw [f4]; exact g2
    ·exact f2 u hu
theorem Dl {p : List Nd} (hp : ye p) {v : Int} (hv : InP p v) : ∀ x ∈ (Cw p v).1,InP p x := OZ hp _ v hv
theorem KM {c : Cd} {p : List Nd} (hp : ye p) {v : Int} (hv : InP p v) {many : Nat} {n : Int} {r : List Int} (h : D4 c p v many = some (n,r)) : zK c n = true /\ (∀ x ∈ r,InP p x) /\ r.length + 1 = many := by
 unfold D4 at h
 split at h
 ·rename_i a r' he
  split at h
  ·rename_i hc
   cases h
   have := Dl hp hv
   rw [he] at this
   exact ⟨hc.2.2,fun x hx => this x (by simp [hx]),hc.1⟩
  ·cases h
 ·cases h
structure GoesM (c : Cd) (m m' : Mc) (k : Nat) : Prop where
 gm : GM m'
 ext : ∃ t,m'.pool = m.pool ++ t /\ t.length <= k
 st : Gb c m' = true
theorem Eo {c : Cd} {m : Mc} (h0 : m.state = 0) (h1 : m.ask = 0) (h2 : m.arg = 0) (h3 : zK c m.at' = true) : Gb c m = true := by
 unfold Gb
 rw [if_pos h0,h1,h2]
 unfold zK at h3
 rw [h3]; rfl
structure RunM (c : Cd) (m : Mc) : Prop where
 gm : GM m
 st : m.state = 0
 ask : m.ask = 0
 arg : m.arg = 0
 pl : zK c m.at' = true
theorem isPl_iff {c : Cd} {n : Int} : zK c n = true ↔ 0 <= n /\ n <= (c.list.length : Int) - 1 := wi_iff
theorem Mr {c : Cd} (hc : c.list.length <= 400) {m m' : Mc} (h : RunM c m) {f : Nd} (hf : InP m.pool f.a) {l : List Int} (hl : ∀ v ∈ l,InP m.pool v) (he : D3 c m f l = .ok m') : GoesM c m m' (l.length + 9) := by
 unfold D3 at he
 split at he
 ·cases he
 split at he
 ·cases he
 rename_i h1 h2
 have hpl := isPl_iff.1 h.pl
 simp only [Except.ok.injEq] at he
 have o1 : ye (m.pool ++ [ndI (m.at' + 1)]) := yn h.gm.ok (LQ (by omega))
 obtain ⟨b1,⟨t,b2,b3⟩,b4⟩ := AM (row := [(m.pool.length : Int),m.s,m.e]) o1 (fun v hv => by
  simp only [List.mem_cons,List.not_mem_nil,or_false] at hv
  rcases hv with rfl | rfl | rfl
  ·exact y6 _ _
  ·exact ya _ h.gm.s
  ·exact ya _ h.gm.e)
 have e1 : (xU (m.pool ++ [ndI (m.at' + 1)]) [(m.pool.length : Int),m.s,m.e]).1 = m.pool ++ (ndI (m.at' + 1) :: t) := by rw [b2]; simp
 have up : ∀ {v : Int},InP m.pool v -> InP (xU (m.pool ++ [ndI (m.at' + 1)]) [(m.pool.length : Int),m.s,m.e]).1 v := fun hv => by rw [e1]; exact ya _ hv
 have o2 := yn b1 (GA b4 (up h.gm.d))
 obtain ⟨v1,⟨t2,v2,v3⟩,v4⟩ := AM (row := l) o2 (fun v hv => ya _ (up (hl v hv)))
 have up2 : ∀ {v : Int},InP ((xU (m.pool ++ [ndI (m.at' + 1)]) [(m.pool.length : Int),m.s,m.e]).1 ++ [ndP ((xU (m.pool ++ [ndI (m.at' + 1)]) [(m.pool.length : Int),m.s,m.e]).2 : Int) m.d]) v -> InP (xU ((xU (m.pool ++ [ndI (m.at' + 1)]) [(m.pool.length : Int),m.s,m.e]).1 ++ [ndP ((xU (m.pool ++ [ndI (m.at' + 1)]) [(m.pool.length : Int),m.s,m.e]).2 : Int) m.d]) l).1 v := fun hv => by rw [v2]; exact ya _ hv
 have o3 := yn v1 (GA v4 (up2 (ya _ (up hf))))
 have o4 := yn o3 (LR _)
 subst he
 refine ⟨⟨o4,?_,?_,?_⟩,⟨ndI (m.at' + 1) :: t ++ [ndP ((xU (m.pool ++ [ndI (m.at' + 1)]) [(m.pool.length : Int),m.s,m.e]).2 : Int) m.d] ++ t2 ++ [ndP ((xU ((xU (m.pool ++ [ndI (m.at' + 1)]) [(m.pool.length : Int),m.s,m.e]).1 ++ [ndP ((xU (m.pool ++ [ndI (m.at' + 1)]) [(m.pool.length : Int),m.s,m.e]).2 : Int) m.d]) l).2 : Int) f.a] ++ [ndN],?_,?_⟩,?_⟩
 ·have := y6 ((xU ((xU (m.pool ++ [ndI (m.at' + 1)]) [(m.pool.length : Int),m.s,m.e]).1 ++ [ndP ((xU (m.pool ++ [ndI (m.at' + 1)]) [(m.pool.length : Int),m.s,m.e]).2 : Int) m.d]) l).1 ++ [ndP ((xU ((xU (m.pool ++ [ndI (m.at' + 1)]) [(m.pool.length : Int),m.s,m.e]).1 ++ [ndP ((xU (m.pool ++ [ndI (m.at' + 1)]) [(m.pool.length : Int),m.s,m.e]).2 : Int) m.d]) l).2 : Int) f.a]) ndN
  simpa using this
 ·exact ya _ (y6 _ _)
 ·exact ya _ (ya _ (up2 (y6 _ _)))
 ·show _ ++ _ ++ _ = _
  rw [v2,b2]
  simp
 ·simp only [lnA,lnC,lnN,b3,v3]; omega
 ·exact Eo h.st h.ask h.arg (by simpa using h2)
theorem PX {c : Cd} {m m' : Mc} (h : RunM c m) {st : Int} (hs : InP m.pool st) {l : List Int} (hl : ∀ v ∈ l,InP m.pool v) (he : Na c m st l = .ok m') : GoesM c m m' 1 := by
 unfold Na at he
 split at he
 ·cases he
 rename_i h1
 split at he
 ·rename_i n s e d hf
  obtain ⟨f1,f2,f3⟩ := KM h.gm.ok hs hf
  cases he
  have hv : InP m.pool (l.getD 0 0) := by
   match l,h1 with
   | [v],_ => exact hl v (by simp)
   | [],h => simp at h
   | _ :: _ :: _,h => simp at h
  have g : GM ⟨m.pool,n,s,e,d,m.state,m.ask,m.arg⟩ := ⟨h.gm.ok,f2 s (by simp),f2 e (by simp),f2 d (by simp)⟩
  exact ⟨Dr g hv,⟨[_],rfl,Nat.le_refl _⟩,Eo h.st h.ask h.arg f1⟩
 ·cases he
theorem M8 {p q : List Nd} (hp : ye p) {n v : Int} {l : List Int} (hv : ∀ v ∈ l,InP p v) (h12 : 1 <= n /\ n <= 12) (hlen : (l.length : Int) = yi n) (h : GC p n l = .ok (q,v)) : ye q /\ InP q v /\ ∃ t,q = p ++ t /\ t.length <= 1 := by
 rw [Ew h12 hlen] at h
 split at h
 ·rename_i hc
  have one : n = 7 \/ n = 8 -> ∃ a,l = [a] /\ (nod p a).kind = 5 := by
   intro h78
   obtain ⟨a,rfl⟩ := DQ hlen (by omega)
   have := List.all_eq_true.1 hc a (by simp)
   refine ⟨a,rfl,?_⟩
   have h5 : ¬ n <= 5 := by omega
   simpa [Cr,h5,h78] using this
  split at h
  ·rename_i h7
   cases h
   obtain ⟨a,rfl,hk⟩ := one (.inl h7)
   exact ⟨hp,Gx hp (hv a (by simp)) (.inl hk),[],by simp,by simp⟩
  ·split at h
   ·rename_i h7 h8
    cases h
    obtain ⟨a,rfl,hk⟩ := one (.inr h8)
    exact ⟨hp,Iq hp (hv a (by simp)) hk,[],by simp,by simp⟩
   ·rename_i h7 h8
    split at h
    ·rename_i hw
     cases h
     exact ⟨yn hp (Oh hp hv hlen h12 ⟨h7,h8⟩ hw),y6 _ _,_,rfl,Nat.le_refl _⟩
    ·cases h
 ·cases h
theorem Am {n : Int} {k : Nat} (h : yi n = (k : Int)) : 1 <= n /\ n <= 19 /\ k <= 2 := by
 unfold yi at h
 split at h
 ·rename_i hw
  have := wi_iff.1 hw
  refine ⟨this.1,this.2,?_⟩
  have hm : prArgs.getD (n - 1).toNat 0 <= 2 := by
   rcases Nat.lt_or_ge (n - 1).toNat prArgs.length with h | h
   ·have := List.getElem_mem (l := prArgs) h
    rw [List.getD_eq_getElem?_getD,List.getElem?_eq_getElem h,Option.getD_some]
    have all : ∀ x ∈ prArgs,x <= 2 := by decide
    exact all _ this
   ·rw [List.getD_eq_getElem?_getD,List.getElem?_eq_none h]; decide
  omega
 ·omega
theorem I6 {c : Cd} (hc : c.list.length <= 400) : ∀ (k : Nat) {m m' : Mc} {f : Int} {l : List Int},RunM c m -> zK c (m.at' + 1) = true -> InP m.pool f -> (∀ v ∈ l,InP m.pool v) -> l.length <= 4 -> Au c k m f l = .ok m' -> ∃ t,GoesM c m m' t /\ t <= 13 + 7 * k
 | 0,m,m',f,l,h,hnx,hf,hl,h4,he => by cases he
 | k + 1,m,m',f,l,h,hnx,hf,hl,h4,he => by
  unfold Au at he
  simp only at he
  split at he
  ·rename_i h6
   exact ⟨_,Mr hc h (Gx h.gm.ok hf (.inr (.inl h6))) hl he,by omega⟩
  split at he
  ·rename_i h6 h8
   split at he
   ·cases he
   rename_i hargs
   have hargs : yi (nod m.pool f).n = (l.length : Int) := by omega
   obtain ⟨n1,n19,l2⟩ := Am hargs
   split at he
   ·rename_i h18
    have hpl := isPl_iff.1 h.pl
    have o1 : ye (m.pool ++ [ndI (m.at' + 1)]) := yn h.gm.ok (LQ (by omega))
    obtain ⟨b1,⟨t,b2,b3⟩,b4⟩ := AM (row := [(m.pool.length : Int),m.s,m.e,m.d]) o1 (fun v hv => by
     simp only [List.mem_cons,List.not_mem_nil,or_false] at hv
     rcases hv with rfl | rfl | rfl | rfl
     ·exact y6 _ _
     ·exact ya _ h.gm.s
     ·exact ya _ h.gm.e
     ·exact ya _ h.gm.d)
    have e1 : (xU (m.pool ++ [ndI (m.at' + 1)]) [(m.pool.length : Int),m.s,m.e,m.d]).1 = m.pool ++ (ndI (m.at' + 1) :: t) := by rw [b2]; simp
    have up : ∀ {v : Int},InP m.pool v -> InP ((xU (m.pool ++ [ndI (m.at' + 1)]) [(m.pool.length : Int),m.s,m.e,m.d]).1 ++ [ndK ((xU (m.pool ++ [ndI (m.at' + 1)]) [(m.pool.length : Int),m.s,m.e,m.d]).2 : Int)]) v := fun hv => ya _ (by rw [e1]; exact ya _ hv)
    have hl0 : InP m.pool (l.getD 0 0) := by
     match l,hargs with
     | v :: _,_ => exact hl v (by simp)
     | [],h => rw [h18] at h; cases h
    have g2 : RunM c ⟨(xU (m.pool ++ [ndI (m.at' + 1)]) [(m.pool.length : Int),m.s,m.e,m.d]).1 ++ [ndK ((xU (m.pool ++ [ndI (m.at' + 1)]) [(m.pool.length : Int),m.s,m.e,m.d]).2 : Int)],m.at',m.s,m.e,m.d,m.state,m.ask,m.arg⟩ :=
     ⟨⟨yn b1 (Pb b4),up h.gm.s,up h.gm.e,up h.gm.d⟩,h.st,h.ask,h.arg,h.pl⟩
    obtain ⟨q,⟨g3,⟨t3,g4,g5⟩,g6⟩,g7⟩ := I6 hc k g2 hnx (up hl0) (fun v hv => by
     simp only [List.mem_singleton] at hv; subst hv; exact y6 _ _) (by simp) he
    refine ⟨q + 7,⟨g3,⟨ndI (m.at' + 1) :: t ++ [ndK ((xU (m.pool ++ [ndI (m.at' + 1)]) [(m.pool.length : Int),m.s,m.e,m.d]).2 : Int)] ++ t3,?_,?_⟩,g6⟩,by omega⟩
    ·rw [g4]
     show _ ++ _ ++ _ = _
     rw [b2]
     simp
    ·simp only [lnA,lnC,lnN,b3]; omega
   split at he
   ·rename_i h18 h12
    simp only [Except.ok.injEq] at he
    obtain ⟨b1,⟨t,b2,b3⟩,b4⟩ := AM (row := l) h.gm.ok hl
    subst he
    have up : ∀ {v : Int},InP m.pool v -> InP (xU m.pool l).1 v := fun hv => by rw [b2]; exact ya _ hv
    refine ⟨l.length + 1,⟨⟨b1,up h.gm.s,up h.gm.e,up h.gm.d⟩,⟨t,b2,by omega⟩,?_⟩,by omega⟩
    unfold Gb
    have hpl : wi m.at' 0 ((c.list.length : Int) - 1) = true := h.pl
    have hn : wi (nod m.pool f).n 13 19 = true := wi_iff.2 ⟨by omega,n19⟩
    have hr : Bi (xU m.pool l).1 ((xU m.pool l).2 : Int) = true := wi_iff.2 ⟨b4.1,by have := b4.2; omega⟩
    simp only
    rw [if_neg (by omega),if_pos trivial,hpl,hn,hr,xI h18]
    rfl
   split at he
   ·cases he
   ·rename_i h18 h12 p v hp
    cases he
    obtain ⟨q1,q2,t,q3,q4⟩ := M8 h.gm.ok hl (by omega) hargs.symm hp
    have up : ∀ {v : Int},InP m.pool v -> InP p v := fun hv => by rw [q3]; exact ya _ hv
    refine ⟨2,⟨⟨yn q1 (GA q2 (up h.gm.s)),y6 _ _,ya _ (up h.gm.e),ya _ (up h.gm.d)⟩,⟨t ++ [ndP v m.s],by show p ++ _ = _; rw [q3]; simp,by simp; omega⟩,?_⟩,by omega⟩
    exact Eo h.st h.ask h.arg hnx
  split at he
  ·rename_i h6 h8 h7
   exact ⟨1,PX h (Gx h.gm.ok hf (.inr (.inr h7))) hl he,by omega⟩
  ·cases he
theorem Ke {c : Cd} (hc : c.list.length <= 400) {m m' : Mc} (h : RunM c m) {k : Nat} (hk : k <= 4) (he : Ai c m k = .ok m') : ∃ t,GoesM c m m' t /\ t <= 34 := by
 unfold Ai at he
 split at he
 ·cases he
 rename_i hnx
 split at he
 ·cases he
 ·rename_i l m1 ht
  obtain ⟨f1,f2,f3,f4,f5,f6,f7,f8,f9⟩ := GZ h.gm ht
  have g : RunM c m1 := ⟨f1,f6.trans h.st,f7.trans h.ask,f8.trans h.arg,by rw [f5]; exact h.pl⟩
  have hrev : ∀ v ∈ l.reverse,InP m1.pool v := fun v hv => f2 v (by simpa using hv)
  obtain ⟨a,r,hr⟩ : ∃ a r,l.reverse = a :: r := by
   cases hq : l.reverse with
   | nil => rw [<- List.length_reverse,hq] at f3; simp at f3
   | cons a r => exact ⟨a,r,rfl⟩
  rw [hr] at he hrev
  have hlen : r.length = k := by rw [<- List.length_reverse,hr] at f3; simpa using f3
  obtain ⟨t,⟨g1,⟨q,g2,g3⟩,g4⟩,g5⟩ := I6 hc 3 g (by rw [f5]; simpa using hnx) (hrev a (by simp)) (fun v hv => hrev v (by simpa using .inr hv)) (by simpa using (by omega : r.length <= 4)) he
  exact ⟨t,⟨g1,⟨q,by rw [g2,f4],g3⟩,g4⟩,by omega⟩
theorem NA {c : Cd} {m m' : Mc} (h : RunM c m) (he : Ie c m = .ok m') : GoesM c m m' 1 := by
 unfold Ie at he
 split at he
 ·cases he
 ·rename_i v m1 ht
  obtain ⟨f1,f2,f4,f5,f6,f7,f8,f9⟩ := Db h.gm ht
  simp only at he
  split at he
  ·cases he
   refine ⟨⟨f1.ok,f1.s,f1.e,f1.d⟩,⟨[],by rw [List.append_nil]; exact f4,by simp⟩,?_⟩
   unfold Gb
   have hv : Bi m1.pool v = true := wi_iff.2 ⟨f2.1,by have := f2.2; omega⟩
   show (if (2 : Int) = 0 then _ else if (2 : Int) = 1 then _ else if (2 : Int) = 2 then _ else _) = true
   rw [if_neg (by omega),if_neg (by omega),if_pos rfl,hv,f7,h.ask]
   rfl
  ·split at he
   ·cases he
   ·rename_i h1 h5
    have h5 : (nod m1.pool m1.d).kind = 5 := by simpa using h5
    split at he
    ·rename_i n s e hf
     obtain ⟨q1,q2,q3⟩ := KM f1.ok (Gx f1.ok f1.d (.inl h5)) hf
     cases he
     have g : GM ⟨m1.pool,n,s,e,(nod m1.pool m1.d).b,m1.state,m1.ask,m1.arg⟩ := ⟨f1.ok,q2 s (by simp),q2 e (by simp),Iq f1.ok f1.d h5⟩
     exact ⟨Dr g f2,⟨[_],by rw [<- f4]; rfl,Nat.le_refl _⟩,Eo (f6.trans h.st) (f7.trans h.ask) (f8.trans h.arg) q1⟩
    ·cases he
theorem Ij {q p : List Nd} (hq : xT q = true) (hp : ye p) {v : Int} (hv : InP q v) (d : Int) : ye (BD d q v p).1 /\ InP (BD d q v p).1 (BD d q v p).2 /\ ∃ t,(BD d q v p).1 = p ++ t /\ t.length <= q.length := by
 obtain ⟨h1,h2⟩ := Jo hq hp [v] d
 have hr : yk q [v] = true := by
  simp only [yk,List.all_cons,List.all_nil,Bool.and_true]
  exact wi_iff.2 ⟨hv.1,by omega⟩
 have hon := EE hr v (by simp)
 obtain ⟨x,hx⟩ := wt (l := q) (i := v.toNat) (by omega)
 obtain ⟨j,hj,hj2⟩ := h2 v.toNat x hx hon
 refine ⟨h1,?_,?_⟩
 ·unfold BD
  simp only
  rw [List.getD_eq_getElem?_getD,hj,Option.getD_some]
  have := aQ hj2
  exact ⟨by omega,by omega⟩
 ·obtain ⟨r,hr⟩ := Jr d q (z5 q [v]) q.length [] p
  have hl := Gw d q (z5 q [v]) q.length [] p
  refine ⟨r,hr,?_⟩
  rw [hr] at hl
  simp only [lnA] at hl
  omega
theorem EK {c : Cd} (hc : yv c = true) {k : Nat} {x : In} (hx : c.list[k]? = some x) : Gz c x k = true := by
 unfold yv at hc
 simp only [Bool.and_eq_true] at hc
 have key : ∀ (n i : Nat),BL c i n = true -> ∀ j,i <= j -> j < i + n -> ∀ x,c.list[j]? = some x -> Gz c x j = true := by
  intro n
  induction n with
  | zero => intro i _ j h1 h2; omega
  | succ n ih =>
   intro i h j h1 h2 x hx
   simp only [BL,Bool.and_eq_true] at h
   rcases Nat.lt_or_ge i j with hij | hij
   ·exact ih (i + 1) h.2 j hij (by omega) x hx
   ·have : j = i := by omega
    subst this
    have h3 := h.1
    rw [hx] at h3
    exact h3
 exact key c.list.length 0 hc.2.2.2.1 k (Nat.zero_le _) (by have := aQ hx; omega) x hx
theorem KU {c : Cd} (hc : yv c = true) {k : Nat} {x : Df} (hx : c.defs[k]? = some x) : PQ c x k = true := by
 unfold yv at hc
 simp only [Bool.and_eq_true] at hc
 have key : ∀ (n i : Nat),AV c i n = true -> ∀ j,i <= j -> j < i + n -> ∀ x,c.defs[j]? = some x -> PQ c x j = true := by
  intro n
  induction n with
  | zero => intro i _ j h1 h2; omega
  | succ n ih =>
   intro i h j h1 h2 x hx
   simp only [AV,Bool.and_eq_true] at h
   rcases Nat.lt_or_ge i j with hij | hij
   ·exact ih (i + 1) h.2 j hij (by omega) x hx
   ·have : j = i := by omega
    subst this
    have h3 := h.1
    rw [hx] at h3
    exact h3
 exact key c.defs.length 0 hc.2.2.2.2 k (Nat.zero_le _) (by have := aQ hx; omega) x hx
theorem y8 {c : Cd} (hc : yv c = true) : xT c.pool = true /\ c.list.length <= 400 /\ c.defs.length <= 20 := by
 unfold yv at hc
 simp only [Bool.and_eq_true,decide_eq_true_eq] at hc
 exact ⟨hc.1,hc.2.1,hc.2.2.1⟩
theorem CW {c : Cd} {m : Mc} {r : Except Int Mc} {next : Int} {m' : Mc} {k : Nat} (hr : ∀ m1,r = .ok m1 -> GM m1 /\ (∃ t,m1.pool = m.pool ++ t /\ t.length <= k) /\ m1.state = 0 /\ m1.ask = 0 /\ m1.arg = 0) (he : goM c r next = .ok m') : GoesM c m m' k := by
 unfold goM at he
 split at he
 ·cases he
 ·rename_i m1
  obtain ⟨h1,h2,h3,h4,h5⟩ := hr m1 rfl
  split at he
  ·rename_i hp
   cases he
   exact ⟨⟨h1.ok,h1.s,h1.e,h1.d⟩,h2,Eo h3 h4 h5 hp⟩
  ·cases he
theorem SU {m m1 : Mc} (h : GM m) {o i : Int} (he : OJ m o i = .ok m1) : GM m1 /\ (∃ t,m1.pool = m.pool ++ t /\ t.length <= 1) /\ m1.state = m.state /\ m1.ask = m.ask /\ m1.arg = m.arg := by
 unfold OJ at he
 split at he
 ·cases he
 ·rename_i fr hfr
  split at he
  ·cases he
  ·rename_i v hv
   cases he
   exact ⟨Dr h (IV h.ok _ _ _ (IV h.ok _ _ _ h.e hfr) hv),⟨[_],rfl,Nat.le_refl _⟩,rfl,rfl,rfl⟩
theorem KF {c : Cd} {s : ByteArray} (h : 0 <= AI c s) : ∃ d,c.defs[(AI c s).toNat]? = some d := by
 have hb : AI c s < (c.defs.length : Int) := by
  unfold AI xb at h ⊢
  cases hq : c.defs.findIdx? (fun d : Df => jJ d.name s) with
  | none => rw [hq] at h; simp at h
  | some k =>
   rw [List.findIdx?_eq_some_iff_getElem] at hq
   obtain ⟨hk,_⟩ := hq
   simp only; omega
 exact wt (by omega)
theorem QA {c : Cd} (hc : yv c = true) {m m1 : Mc} (h : GM m) {s : ByteArray} (he : Jh c m s = .ok m1) : GM m1 /\ (∃ t,m1.pool = m.pool ++ t /\ t.length <= 3) /\ m1.state = m.state /\ m1.ask = m.ask /\ m1.arg = m.arg := by
 obtain ⟨_,c2,_⟩ := y8 hc
 unfold Jh at he
 split at he
 ·rename_i hd
  obtain ⟨d,hdg⟩ := KF hd
  have hok := KU hc hdg
  unfold PQ at hok
  simp only [Bool.and_eq_true] at hok
  have a1 := wi_iff.1 hok.2.2.1
  have a2 := wi_iff.1 hok.2.2.2
  simp only [List.getD_eq_getElem?_getD,hdg,Option.getD_some,Except.ok.injEq] at he
  subst he
  have o1 := yn h.ok (LR (m.pool.length : Int))
  have o2 := yn o1 (Pa (k := 8 * d.at' + d.args) (a := (m.pool.length : Int)) (n := (m.pool ++ [ndN]).length) (by omega) ⟨by omega,by simp only [lnA,lnC,lnN]; omega⟩)
  have g : GM ⟨m.pool ++ [ndN] ++ [ndF (8 * d.at' + d.args) m.pool.length],m.at',m.s,m.e,m.d,m.state,m.ask,m.arg⟩ := ⟨o2,ya _ (ya _ h.s),ya _ (ya _ h.e),ya _ (ya _ h.d)⟩
  refine ⟨Dr g ⟨by omega,by simp only [lnA,lnC,lnN]; omega⟩,⟨_,by show _ ++ _ ++ _ ++ _ = _; rw [List.append_assoc,List.append_assoc],by simp⟩,rfl,rfl,rfl⟩
 ·split at he
  ·cases he
  ·simp only [Except.ok.injEq] at he
   subst he
   have hb := Gc s
   have o1 := yn h.ok (Se (k := A8 s) (h := (m.pool.length : Int)) (by omega))
   have g : GM ⟨m.pool ++ [ndR (A8 s)],m.at',m.s,m.e,m.d,m.state,m.ask,m.arg⟩ := ⟨o1,ya _ h.s,ya _ h.e,ya _ h.d⟩
   exact ⟨Dr g (y6 _ _),⟨_,by show _ ++ _ ++ _ = _; rw [List.append_assoc],by simp⟩,rfl,rfl,rfl⟩
theorem MW {c : Cd} {x : In} {k : Int} (h : Gz c x k = true) (h1 : x.op = 1) : InP c.pool x.n := by
 unfold Gz at h
 rw [if_pos h1] at h
 simp only [Bool.and_eq_true] at h
 have := wi_iff.1 h.1
 exact ⟨this.1,by omega⟩
theorem QS {c : Cd} {x : In} {k : Int} (h : Gz c x k = true) (h1 : x.op = 2) : (0 <= x.n /\ x.n <= 20) /\ 0 <= x.i /\ x.i <= 3 := by
 unfold Gz at h
 rw [if_neg (by omega),if_pos h1] at h
 simp only [Bool.and_eq_true] at h
 exact ⟨wi_iff.1 h.1,wi_iff.1 h.2.1⟩
theorem MU {c : Cd} {x : In} {k : Int} (h : Gz c x k = true) (h1 : x.op = 6) : (k + 1 <= x.n /\ x.n <= (c.list.length : Int) - 1) /\ 0 <= x.i /\ x.i <= 4 := by
 unfold Gz at h
 rw [if_neg (by omega),if_neg (by omega),if_neg (by omega),if_neg (by omega),if_pos h1] at h
 simp only [Bool.and_eq_true] at h
 exact ⟨wi_iff.1 h.1,wi_iff.1 h.2.1⟩
theorem KW {c : Cd} {x : In} {k : Int} (h : Gz c x k = true) (h1 : x.op = 7) : 0 <= x.i /\ x.i <= 4 := by
 unfold Gz at h
 rw [if_neg (by omega),if_neg (by omega),if_neg (by omega),if_neg (by omega),if_neg (by omega),if_pos h1] at h
 simp only [Bool.and_eq_true] at h
 exact wi_iff.1 h.2.1
theorem MY {c : Cd} (hc : yv c = true) {m m' : Mc} (h : RunM c m) {x : In} {k : Nat} (hx : c.list[k]? = some x) (he : Eu c m x = .ok m') : GoesM c m m' (c.pool.length + 3) := by
 have hok := EK hc hx
 have hk := aQ hx
 obtain ⟨c1,c2,_⟩ := y8 hc
 unfold Eu at he
 split at he
 ·rename_i h1
  have hlit := MW hok h1
  obtain ⟨f1,f2,t,f3,f4⟩ := Ij c1 h.gm.ok hlit (-1)
  refine CW (fun m1 e => ?_) he
  cases e
  have up : ∀ {v : Int},InP m.pool v -> InP (BD (-1) c.pool x.n m.pool).1 v := fun hv => by rw [f3]; exact ya _ hv
  have g : GM ⟨(BD (-1) c.pool x.n m.pool).1,m.at',m.s,m.e,m.d,m.state,m.ask,m.arg⟩ := ⟨f1,up h.gm.s,up h.gm.e,up h.gm.d⟩
  refine ⟨Dr g f2,⟨t ++ [_],by show (BD (-1) c.pool x.n m.pool).1 ++ _ = _; rw [f3,List.append_assoc],by simp; omega⟩,h.st,h.ask,h.arg⟩
 split at he
 ·refine CW (fun m1 e => ?_) he
  obtain ⟨g1,⟨t,g2,g3⟩,g4,g5,g6⟩ := SU h.gm e
  exact ⟨g1,⟨t,g2,by omega⟩,g4.trans h.st,g5.trans h.ask,g6.trans h.arg⟩
 split at he
 ·refine CW (fun m1 e => ?_) he
  obtain ⟨g1,⟨t,g2,g3⟩,g4,g5,g6⟩ := QA hc h.gm e
  exact ⟨g1,⟨t,g2,by omega⟩,g4.trans h.st,g5.trans h.ask,g6.trans h.arg⟩
 split at he
 ·refine CW (fun m1 e => ?_) he
  cases e
  exact ⟨h.gm,⟨[],by simp,by simp⟩,h.st,h.ask,h.arg⟩
 split at he
 ·rename_i h6
  have hf := MU hok h6
  refine CW (fun m1 e => ?_) he
  cases e
  have o1 := yn h.gm.ok (Pa (k := 8 * x.n + x.i) (n := m.pool.length) (by omega) h.gm.e)
  have g : GM ⟨m.pool ++ [ndF (8 * x.n + x.i) m.e],m.at',m.s,m.e,m.d,m.state,m.ask,m.arg⟩ := ⟨o1,ya _ h.gm.s,ya _ h.gm.e,ya _ h.gm.d⟩
  exact ⟨Dr g (y6 _ _),⟨_,by show _ ++ _ ++ _ = _; rw [List.append_assoc],by simp⟩,h.st,h.ask,h.arg⟩
 ·split at he
  ·cases he
  ·rename_i v m1 ht
   obtain ⟨f1,f2,f4,f5,f6,f7,f8,f9⟩ := Db h.gm ht
   refine CW (fun m2 e => ?_) he
   cases e
   exact ⟨f1,⟨[],by simp [f4],by simp⟩,f6.trans h.st,f7.trans h.ask,f8.trans h.arg⟩
theorem JG {c : Cd} {m : Mc} (h : z4 c m = true) (h0 : m.state = 0) : RunM c m /\ yv c = true /\ m.pool.length <= 3000 := by
 unfold z4 at h
 simp only [Bool.and_eq_true] at h
 obtain ⟨h1,h2,h3,h4,h5,h6⟩ := h
 obtain ⟨p1,p2⟩ := okPool_iff.1 h2
 have a3 := wi_iff.1 h3
 have a4 := wi_iff.1 h4
 have a5 := wi_iff.1 h5
 unfold Gb at h6
 rw [if_pos h0] at h6
 simp only [Bool.and_eq_true,beq_iff_eq] at h6
 exact ⟨⟨⟨p1,⟨a3.1,by omega⟩,⟨a4.1,by omega⟩,⟨a5.1,by omega⟩⟩,h0,h6.2.1,h6.2.2,h6.1⟩,h1,p2⟩
theorem Pg {c : Cd} {m : Mc} (h : RunM c m) : ∃ x,c.list[m.at'.toNat]? = some x := by
 have := isPl_iff.1 h.pl
 exact wt (by omega)
theorem Ml {c : Cd} (hc : yv c = true) {m m' : Mc} (h : RunM c m) (he : doM c m = .ok m') : GoesM c m m' (c.pool.length + 34) := by
 obtain ⟨x,hx⟩ := Pg h
 have hok := EK hc hx
 obtain ⟨c1,c2,_⟩ := y8 hc
 unfold doM at he
 simp only [List.getD_eq_getElem?_getD,hx,Option.getD_some] at he
 split at he
 ·rename_i h7
  have := KW hok h7
  obtain ⟨t,⟨g1,⟨q,g2,g3⟩,g4⟩,g5⟩ := Ke c2 h (k := x.i.toNat) (by omega) he
  exact ⟨g1,⟨q,g2,by omega⟩,g4⟩
 split at he
 ·obtain ⟨g1,⟨q,g2,g3⟩,g4⟩ := NA h he
  exact ⟨g1,⟨q,g2,by omega⟩,g4⟩
 ·obtain ⟨g1,⟨q,g2,g3⟩,g4⟩ := MY hc h hx he
  exact ⟨g1,⟨q,g2,by omega⟩,g4⟩
theorem O8 {c : Cd} {m : Mc} (hc : yv c = true) (hp : ye m.pool) (hl : m.pool.length <= 3000) (hs : InP m.pool m.s) (he : InP m.pool m.e) (hd : InP m.pool m.d) (ht : Gb c m = true) : z4 c m = true := by
 unfold z4
 have h1 : xT m.pool = true := okPool_iff.2 ⟨hp,hl⟩
 have h2 : Bi m.pool m.s = true := wi_iff.2 ⟨hs.1,by omega⟩
 have h3 : Bi m.pool m.e = true := wi_iff.2 ⟨he.1,by omega⟩
 have h4 : Bi m.pool m.d = true := wi_iff.2 ⟨hd.1,by omega⟩
 rw [hc,h1,h2,h3,h4,ht]
 rfl
theorem Dq {c : Cd} {m : Mc} (h : z4 c m = true) : yv c = true /\ ye m.pool /\ m.pool.length <= 3000 /\ InP m.pool m.s /\ InP m.pool m.e /\ InP m.pool m.d /\ Gb c m = true := by
 unfold z4 at h
 simp only [Bool.and_eq_true] at h
 obtain ⟨h1,h2,h3,h4,h5,h6⟩ := h
 obtain ⟨p1,p2⟩ := okPool_iff.1 h2
 have a3 := wi_iff.1 h3
 have a4 := wi_iff.1 h4
 have a5 := wi_iff.1 h5
 exact ⟨h1,p1,p2,⟨a3.1,by omega⟩,⟨a4.1,by omega⟩,⟨a5.1,by omega⟩,h6⟩
theorem Mu {c : Cd} {m : Mc} (h : z4 c m = true) {k : Int} (hk : 1 <= k /\ k <= 7) : z4 c (Mt m k) = true := by
 obtain ⟨h1,h2,h3,h4,h5,h6,_⟩ := Dq h
 refine O8 h1 h2 h3 h4 h5 h6 ?_
 unfold Gb Mt
 simp only
 rw [if_neg (by omega),if_neg (by omega),if_neg (by omega),wi_iff.2 hk]
 rfl
end Go.Eng
