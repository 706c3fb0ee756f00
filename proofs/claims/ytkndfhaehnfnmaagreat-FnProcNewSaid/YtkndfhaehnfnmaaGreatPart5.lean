/- the program and the reference on plain data, part 5 -/
import Derived.Test.YtkndfhaehnfnmaaGreatPart3
import Derived.Test.YtkndfhaehnfnmaaGreatPart4
/-! nodes of bytes,on both sides -/
namespace Go.Eng
noncomputable section
open Go.Proofs Go.Proofs.Tryz
set_option maxHeartbeats 4000000

abbrev RS := Nat × Bool
abbrev rO (b : List UInt8) (s : RS) : D := .op [.os (1,0) (b.map eU),iN (s.1 : Int),.bool s.2]
def InB (b : List UInt8) (s : RS) : Prop := s.1 <= b.length
def y2 (b : List UInt8) (s : RS) : Nat × RS := match EH 9 (b.drop s.1) with | some (v,c) => (v,(s.1 + c,s.2)) | none => (0,(s.1,false))
def zh (b : List UInt8) (s : RS) : Nat × RS := match EH 9 (b.drop s.1) with | some (v,c) => (match s.2 with | true => (v,(s.1 + c,true)) | false => (0,(s.1,false))) | none => (0,(s.1,false))
def Ic (b : List UInt8) (i : Nat) : Option (List UInt8 × Nat) := match EH 9 (b.drop i) with | some (v,c) => (if i + c + v <= b.length then some ((b.drop (i + c)).take v,i + c + v) else none) | none => none
def Al (b : List UInt8) (s : RS) : List UInt8 × RS := match Ic b s.1 with | some (t,i) => (t,(i,s.2)) | none => ([],(s.1,false))
def CK (b : List UInt8) (s : RS) : List UInt8 × RS := match Ic b s.1 with | some (t,i) => (t,(i,s.2)) | none => ([],(0,false))
theorem Po (b : List UInt8) (i : Nat) : Ke b i 0 0 = match EH 9 (b.drop i) with | some (v,c) => .tup [iN (v : Int),iN ((i + c : Nat) : Int),.bool true] | none => noN := by
 unfold Ke
 simp only [Nat.add_zero,Nat.sub_zero]
 cases EH 9 (b.drop i) with
 | none => rfl
 | some p => simp
theorem GR {b : List UInt8} {i v c : Nat} (h : EH 9 (b.drop i) = some (v,c)) : v < 9223372036854775808 /\ i + c <= b.length /\ 1 <= c := by
 have h1 := LJ 9 _ v c h
 rw [List.length_drop] at h1
 have e : (128 : Nat) ^ 9 = 9223372036854775808 := rfl
 omega
section
variable {b : List UInt8} (hb : b.length < 4611686018427387904)
include hb
theorem Dd {s : RS} (hs : InB b s) : V 71 [rO b s] = some (iN ((y2 b s).1 : Int),[rO b (y2 b s).2]) := by
 have h := IJ hb hs
 rw [Po] at h
 rw [J3]
 unfold y2
 cases e : EH 9 (b.drop s.1) with
 | none => rw [e] at h; simp (disch := first | omega | (simp only [lnA,lnC,lnN,lnM,yO,wY]; omega)) only [↓wZ,xi,↓yk,↓yo,↓yb,↓ye,↓xI,↓xw,Bool.not_false,h]; rfl
 | some p => obtain ⟨v,c⟩ := p; rw [e] at h; simp (disch := first | omega | (simp only [lnA,lnC,lnN,lnM,yO,wY]; omega)) only [↓wZ,xi,↓xJ,↓yo,↓yb,↓ye,↓xI,↓xw,Bool.not_true,h]
theorem FU {s : RS} (hs : InB b s) : V 114 [rO b s] = some (iN ((zh b s).1 : Int),[rO b (zh b s).2]) := by
 have h := IQ hb hs
 rw [Po] at h
 rw [Qu]
 unfold zh
 cases e : EH 9 (b.drop s.1) with
 | none => rw [e] at h; simp (disch := first | omega | (simp only [lnA,lnC,lnN,lnM,yO,wY]; omega)) only [↓wZ,xi,↓yk,↓yo,↓yb,↓ye,↓xI,↓xw,Bool.not_false,h]; rfl
 | some p =>
  obtain ⟨v,c⟩ := p
  rw [e] at h
  obtain ⟨i,k⟩ := s
  cases k with
  | false => simp (disch := first | omega | (simp only [lnA,lnC,lnN,lnM,yO,wY]; omega)) only [↓wZ,xi,↓yk,↓xJ,↓yo,↓yb,↓ye,↓xI,↓xw,Bool.not_true,Bool.not_false,h]; rfl
  | true => simp (disch := first | omega | (simp only [lnA,lnC,lnN,lnM,yO,wY]; omega)) only [↓wZ,xi,↓xJ,↓yo,↓yb,↓ye,↓xI,↓xw,Bool.not_true,h]
def Kt (r : Option (List UInt8 × Nat)) : D := match r with | some (t,i) => .tup [.str (mk t),iN (i : Int),.bool true] | none => .tup [.str ⟨#[]⟩,iN 0,.bool false]
omit hb in
theorem VX (i v : Nat) : wu (wt (b.map eU) ((i + v : Nat) : Int)) (i : Int) = ((b.drop i).take v).map eU := by
 simp only [wu,wt,Int.toNat_natCast,<- List.map_take,<- List.map_drop]
 rw [List.drop_take]
 congr 2
 omega
theorem Mu {i : Nat} (hi : i <= b.length) : V 209 [.rs (1,0) (b.map eU),iN (i : Int)] = some (Kt (Ic b i),[]) := by
 have h := IJ hb hi
 rw [Po] at h
 rw [MI]
 unfold Ic
 cases e : EH 9 (b.drop i) with
 | none => rw [e] at h; simp (disch := first | omega | (simp only [lnA,lnC,lnN,lnM,yO,wY]; omega)) only [↓wZ,xi,↓yk,↓yo,↓yb,↓ye,↓xI,↓xw,Bool.not_false,h]; rfl
 | some p =>
  obtain ⟨v,c⟩ := p
  rw [e] at h
  have hle := GR e
  by_cases ht : i + c + v <= b.length
  ·have hc := VX (b := b) (i + c) v
   have hw : w6 (((i + c : Nat) : Int) + (v : Int)) = ((i + c + v : Nat) : Int) := by rw [w64 (by omega) (by omega)]; omega
   have hk : cW b.length (some ((i + c : Nat) : Int)) (some ((i + c + v : Nat) : Int)) = true := by
    simp only [cW,Bool.and_eq_true,decide_eq_true_eq]; omega
   simp only [if_pos ht]
   simp (disch := first | omega | (simp only [lnA,lnC,lnN,lnM,yO,wY]; omega)) only [↓wZ,xi,↓xJ,↓xP,↓yo,↓yb,↓ye,↓xI,↓xw,yI,Bool.not_true,lnM,wS,wY,h,hw,hk,hc,↓FJ]
   rfl
  ·simp only [if_neg ht]
   simp (disch := first | omega | (simp only [lnA,lnC,lnN,lnM,yO,wY]; omega)) only [↓wZ,xi,↓yk,↓xJ,↓yo,↓yb,↓ye,↓xI,↓xw,yJ,Bool.not_true,lnM,wS,wY,h]
   rfl
theorem GL {i : Nat} (hi : i <= b.length) : V 174 [.rs (1,0) (b.map eU),iN (i : Int)] = some (Kt (Ic b i),[]) := by
 have h := IQ hb hi
 rw [Po] at h
 rw [MW]
 unfold Ic
 cases e : EH 9 (b.drop i) with
 | none => rw [e] at h; simp (disch := first | omega | (simp only [lnA,lnC,lnN,lnM,yO,wY]; omega)) only [↓wZ,xi,↓yk,↓yo,↓yb,↓ye,↓xI,↓xw,Bool.not_false,h]; rfl
 | some p =>
  obtain ⟨v,c⟩ := p
  rw [e] at h
  have hle := GR e
  by_cases ht : i + c + v <= b.length
  ·have hc := VX (b := b) (i + c) v
   have hw : w6 (((i + c : Nat) : Int) + (v : Int)) = ((i + c + v : Nat) : Int) := by rw [w64 (by omega) (by omega)]; omega
   have hk : cW b.length (some ((i + c : Nat) : Int)) (some ((i + c + v : Nat) : Int)) = true := by
    simp only [cW,Bool.and_eq_true,decide_eq_true_eq]; omega
   simp only [if_pos ht]
   simp (disch := first | omega | (simp only [lnA,lnC,lnN,lnM,yO,wY]; omega)) only [↓wZ,xi,↓xJ,↓xP,↓yo,↓yb,↓ye,↓xI,↓xw,yI,Bool.not_true,lnM,wS,wY,h,hw,hk,hc,↓FJ]
   rfl
  ·simp only [if_neg ht]
   simp (disch := first | omega | (simp only [lnA,lnC,lnN,lnM,yO,wY]; omega)) only [↓wZ,xi,↓yk,↓xJ,↓yo,↓yb,↓ye,↓xI,↓xw,yJ,Bool.not_true,lnM,wS,wY,h]
   rfl
theorem Nv {s : RS} (hs : InB b s) : V 190 [rO b s] = some (.str (mk (Al b s).1),[rO b (Al b s).2]) := by
 have h := Mu hb hs
 rw [Jo]
 unfold Al
 cases e : Ic b s.1 with
 | none => rw [e,Kt] at h; simp (disch := first | omega | (simp only [lnA,lnC,lnN,lnM,yO,wY]; omega)) only [↓wZ,xi,↓yk,↓yo,↓yb,↓ye,↓xI,↓yi,↓xw,Bool.not_false,h]; rfl
 | some p => obtain ⟨t,i⟩ := p; rw [e,Kt] at h; simp (disch := first | omega | (simp only [lnA,lnC,lnN,lnM,yO,wY]; omega)) only [↓wZ,xi,↓xJ,↓yo,↓yb,↓ye,↓xI,↓yi,↓xw,Bool.not_true,h]
omit hb in
theorem Jy {s : RS} (hs : InB b s) : InB b (y2 b s).2 := by
 unfold y2
 split
 ·rename_i v c e; exact (GR e).2.1
 ·exact hs
omit hb in
theorem FI {s : RS} (hs : InB b s) : InB b (zh b s).2 := by
 unfold zh
 split
 ·rename_i v c e
  split
  ·exact (GR e).2.1
  ·exact hs
 ·exact hs
omit hb in
theorem Sp {i j : Nat} {t : List UInt8} (h : Ic b i = some (t,j)) : j <= b.length := by
 unfold Ic at h
 split at h
 ·split at h
  ·cases h; assumption
  ·cases h
 ·cases h
omit hb in
theorem Qx {i j : Nat} {t : List UInt8} (h : Ic b i = some (t,j)) : t.length <= b.length := by
 unfold Ic at h
 split at h
 ·split at h
  ·cases h; simp; omega
  ·cases h
 ·cases h
omit hb in
theorem S9 {s : RS} (hs : InB b s) : InB b (Al b s).2 := by
 unfold Al
 split
 ·rename_i t i e; exact Sp e
 ·exact hs
omit hb in
theorem Tc {s : RS} (_ : InB b s) : InB b (CK b s).2 := by
 unfold CK
 split
 ·rename_i t i e; exact Sp e
 ·exact Nat.zero_le _
omit hb in
theorem SQ (s : RS) : (y2 b s).1 < 9223372036854775808 := by
 unfold y2
 split
 ·rename_i v c e; exact (GR e).1
 ·simp
omit hb in
theorem PF (s : RS) : (zh b s).1 < 9223372036854775808 := by
 unfold zh
 split
 ·rename_i v c e
  split
  ·exact (GR e).1
  ·simp
 ·simp
end
abbrev nilS : ByteArray := ⟨#[]⟩
def y8 (num : RS -> Nat × RS) (txt : RS -> List UInt8 × RS) (s : RS) : Nd × RS :=
 if (num s).1 = 2 \/ (num s).1 = 8 \/ (num s).1 = 9 then (⟨(num s).1,(num (num s).2).1,nilS,0,0⟩,(num (num s).2).2)
 else if (num s).1 = 3 then (⟨(num s).1,(num (num s).2).1 - 1000000000,nilS,0,0⟩,(num (num s).2).2)
 else if (num s).1 = 4 then (⟨(num s).1,0,mk (txt (num s).2).1,0,0⟩,(txt (num s).2).2)
 else if (num s).1 = 5 then (⟨(num s).1,0,nilS,(num (num s).2).1,(num (num (num s).2).2).1⟩,(num (num (num s).2).2).2)
 else if (num s).1 = 6 then (⟨(num s).1,(num (num s).2).1,nilS,(num (num (num s).2).2).1,0⟩,(num (num (num s).2).2).2)
 else if (num s).1 = 7 then (⟨(num s).1,0,nilS,(num (num s).2).1,0⟩,(num (num s).2).2)
 else (⟨(num s).1,0,nilS,0,0⟩,(num s).2)
theorem Jw {b : List UInt8} {num : RS -> Nat × RS} {txt : RS -> List UInt8 × RS} (hn : ∀ s,InB b s -> InB b (num s).2) (ht : ∀ s,InB b s -> InB b (txt s).2) {s : RS} (hs : InB b s) : InB b (y8 num txt s).2 := by
 unfold y8
 repeat' split
 all_goals (first | exact hn _ (hn _ (hn _ hs)) | exact hn _ (hn _ hs) | exact ht _ (hn _ hs) | exact hn _ hs)
theorem IP {b : List UInt8} (hb : b.length < 4611686018427387904) {s : RS} (hs : InB b s) : V 141 [rO b s] = some (eN (y8 (y2 b) (Al b) s).1,[rO b (y8 (y2 b) (Al b) s).2]) := by
 have h1 := Dd hb hs
 have i1 := Jy hs
 have h2 := Dd hb i1
 have i2 := Jy i1
 have h3 := Dd hb i2
 have h4 := Nv hb i1
 have l2 := SQ (b := b) (y2 b s).2
 have hw : w6 (((y2 b (y2 b s).2).1 : Int) - 1000000000) = ((y2 b (y2 b s).2).1 : Int) - 1000000000 := KI (by omega) (by omega)
 rw [Jn]
 unfold y8
 by_cases k2 : (y2 b s).1 = 2
 ·rw [if_pos (.inl k2)]; simp (disch := first | omega | (simp only [lnA,lnC,lnN,lnM,yO,wY]; omega)) only [↓wZ,xi,↓yk,↓yo,↓yb,↓ye,↓xI,↓yg,↓yf,yF,h1,h2]
 by_cases k8 : (y2 b s).1 = 8
 ·rw [if_pos (.inr (.inl k8))]; simp (disch := first | omega | (simp only [lnA,lnC,lnN,lnM,yO,wY]; omega)) only [↓wZ,xi,↓yk,↓xJ,↓yo,↓yb,↓ye,↓xI,↓yg,↓yf,yF,yE,h1,h2]
 by_cases k9 : (y2 b s).1 = 9
 ·rw [if_pos (.inr (.inr k9))]; simp (disch := first | omega | (simp only [lnA,lnC,lnN,lnM,yO,wY]; omega)) only [↓wZ,xi,↓yk,↓xJ,↓yo,↓yb,↓ye,↓xI,↓yg,↓yf,yF,yE,h1,h2]
 rw [if_neg (by omega)]
 by_cases k3 : (y2 b s).1 = 3
 ·rw [if_pos k3]; simp (disch := first | omega | (simp only [lnA,lnC,lnN,lnM,yO,wY]; omega)) only [↓wZ,xi,↓yk,↓xJ,↓yo,↓yb,↓ye,↓xI,↓yg,↓yf,yF,yE,h1,h2,hw]
 rw [if_neg k3]
 by_cases k4 : (y2 b s).1 = 4
 ·rw [if_pos k4]; simp (disch := first | omega | (simp only [lnA,lnC,lnN,lnM,yO,wY]; omega)) only [↓wZ,xi,↓yk,↓xJ,↓yo,↓yb,↓ye,↓xI,↓yi,↓yg,↓yf,yF,yE,h1,h4]
 rw [if_neg k4]
 by_cases k5 : (y2 b s).1 = 5
 ·rw [if_pos k5]; simp (disch := first | omega | (simp only [lnA,lnC,lnN,lnM,yO,wY]; omega)) only [↓wZ,xi,↓yk,↓xJ,↓yo,↓yb,↓ye,↓xI,↓yg,↓yf,yF,yE,h1,h2,h3]
 rw [if_neg k5]
 by_cases k6 : (y2 b s).1 = 6
 ·rw [if_pos k6]; simp (disch := first | omega | (simp only [lnA,lnC,lnN,lnM,yO,wY]; omega)) only [↓wZ,xi,↓yk,↓xJ,↓yo,↓yb,↓ye,↓xI,↓yg,↓yf,yF,yE,h1,h2,h3]
 rw [if_neg k6]
 by_cases k7 : (y2 b s).1 = 7
 ·rw [if_pos k7]; simp (disch := first | omega | (simp only [lnA,lnC,lnN,lnM,yO,wY]; omega)) only [↓wZ,xi,↓yk,↓xJ,↓yo,↓yb,↓ye,↓xI,↓yg,↓yf,yF,yE,h1,h2]
 rw [if_neg k7]
 simp (disch := first | omega | (simp only [lnA,lnC,lnN,lnM,yO,wY]; omega)) only [↓wZ,xi,↓xJ,↓yo,↓yb,↓ye,↓xI,↓yg,↓yf,yE,h1]

def goI (b : List UInt8) (cnt : Nat) : Nat -> Nat -> RS -> List Nd -> List Nd × RS
 | 0,_,s,p => (p,s)
 | k + 1,i,s,p => if i < cnt /\ s.2 = true /\ i <= 3000 then goI b cnt k (i + 1) (y8 (y2 b) (Al b) s).2 (p ++ [(y8 (y2 b) (Al b) s).1]) else (p,s)
def goS (b : List UInt8) (cnt : Nat) : Nat -> Nat -> RS -> List Nd -> List Nd × RS
 | 0,_,s,p => (p,s)
 | k + 1,i,s,p => if i < cnt /\ s.2 = true then goS b cnt k (i + 1) (y8 (zh b) (CK b) s).2 (p ++ [(y8 (zh b) (CK b) s).1]) else (p,s)
theorem VK (p : List Nd) (x : Nd) : p.map eN ++ [D.agg [iN x.kind,iN x.n,.str x.s,iN x.a,iN x.b]] = (p ++ [x]).map eN := by simp
theorem QA {b : List UInt8} (hb : b.length < 4611686018427387904) (cnt : Nat) (hcnt : cnt < 9223372036854775808) : ∀ (k i : Nat) (s : RS) (p : List Nd),i + k = 3002 -> InB b s -> p.length <= i ->
  zt (cnt : Int) (i : Int) (s.1 : Int) s.2 (b.map eU) (p.map eN) = some (oP (goI b cnt k i s p).1,[rO b (goI b cnt k i s p).2])
 | 0,i,s,p,hi,hs,hp => by
  rw [AQ]
  obtain ⟨a,o⟩ := s
  simp only [goI]
  cases h1 : decide ((i : Int) < (cnt : Int)) with
  | false => rfl
  | true =>
   cases o with
   | false => rfl
   | true => simp (disch := first | omega | (simp only [lnA,lnC,lnN,lnM,yO,wY]; omega)) only [↓yk,↓xJ,yI]
 | k + 1,i,s,p,hi,hs,hp => by
  obtain ⟨a,o⟩ := s
  have hn := IP hb hs
  have hin := Jw (fun s h => Jy h) (fun s h => S9 h) hs
  rw [AQ]
  simp only [goI]
  by_cases h1 : i < cnt
  ·cases o with
   | false => rw [if_neg (by simp)]; simp (disch := first | omega | (simp only [lnA,lnC,lnN,lnM,yO,wY]; omega)) only [↓yk,↓xJ,yJ]
   | true =>
    by_cases h3 : i <= 3000
    ·have ih := QA hb cnt hcnt k (i + 1) _ (p ++ [(y8 (y2 b) (Al b) (a,true)).1]) (by omega) hin (by simp; omega)
     have hw : w6 ((i : Int) + 1) = ((i + 1 : Nat) : Int) := yM (by omega)
     rw [if_pos ⟨h1,rfl,h3⟩]
     simp (disch := first | omega | (simp only [lnA,lnC,lnN,lnM,yO,wY]; omega)) only [↓wZ,xi,↓yk,↓xP,↓yo,↓yb,↓ye,↓xI,↓yi,↓yg,↓xu,↓yf,↓yA,yJ,lnM,lnA,lnC,lnN,pE,wY,hn,VK,hw]
     exact ih
    ·rw [if_neg (fun h => h3 h.2.2)]; simp (disch := first | omega | (simp only [lnA,lnC,lnN,lnM,yO,wY]; omega)) only [↓yk,↓xJ,yJ,yI]
  ·rw [if_neg (fun h => h1 h.1)]; simp (disch := first | omega | (simp only [lnA,lnC,lnN,lnM,yO,wY]; omega)) only [↓xJ,yI]
def zx (b : List UInt8) (s : RS) : List Nd × RS := goI b (y2 b s).1 3002 0 (y2 b s).2 []
theorem MF {b : List UInt8} (hb : b.length < 4611686018427387904) {s : RS} (hs : InB b s) : V 72 [rO b s] = some (oP (zx b s).1,[rO b (zx b s).2]) := by
 have h1 := Dd hb hs
 have i1 := Jy hs
 have l1 := SQ (b := b) s
 rw [I8]
 unfold zx
 generalize y2 b s = m at *
 obtain ⟨cnt,s⟩ := m
 have hn := IP hb i1
 have hin := Jw (fun s h => Jy h) (fun s h => S9 h) i1
 have ih := QA hb cnt l1 3001 1 _ [(y8 (y2 b) (Al b) s).1] (by omega) hin (by simp)
 have e : goI b cnt 3002 0 s [] = if 0 < cnt /\ s.2 = true /\ 0 <= 3000 then goI b cnt 3001 1 (y8 (y2 b) (Al b) s).2 [(y8 (y2 b) (Al b) s).1] else ([],s) := rfl
 rw [e]
 obtain ⟨a,o⟩ := s
 have hf : AC (cnt : Int) 0 (a : Int) o (b.map eU) = some (oP (if 0 < cnt /\ (a,o).2 = true /\ 0 <= 3000 then goI b cnt 3001 1 (y8 (y2 b) (Al b) (a,o)).2 [(y8 (y2 b) (Al b) (a,o)).1] else ([],(a,o))).1,[rO b (if 0 < cnt /\ (a,o).2 = true /\ 0 <= 3000 then goI b cnt 3001 1 (y8 (y2 b) (Al b) (a,o)).2 [(y8 (y2 b) (Al b) (a,o)).1] else ([],(a,o))).2]) := by
  rw [Fe]
  by_cases hz : 0 < cnt
  ·cases o with
   | false => rw [if_neg (by simp)]; simp (disch := first | omega | (simp only [lnA,lnC,lnN,lnM,yO,wY]; omega)) only [↓yk,↓xJ,yJ]; rfl
   | true =>
    rw [if_pos ⟨hz,rfl,by omega⟩]
    have hw : w6 ((0 : Int) + 1) = 1 := by decide
    have ih' : zt (cnt : Int) 1 ((y8 (y2 b) (Al b) (a,true)).2.1 : Int) (y8 (y2 b) (Al b) (a,true)).2.2 (b.map eU) [D.agg [iN (y8 (y2 b) (Al b) (a,true)).1.kind,iN (y8 (y2 b) (Al b) (a,true)).1.n,.str (y8 (y2 b) (Al b) (a,true)).1.s,iN (y8 (y2 b) (Al b) (a,true)).1.a,iN (y8 (y2 b) (Al b) (a,true)).1.b]] = _ := ih
    simp (disch := first | omega | (simp only [lnA,lnC,lnN,lnM,yO,wY]; omega)) only [↓wZ,xi,↓yk,↓xP,↓yo,↓yb,↓ye,↓xI,↓yi,↓yg,↓xu,↓yf,Int.reduceAdd,yJ,pE,wS,wY,hn]
    exact ih'
  ·rw [if_neg (fun h => hz h.1)]; simp (disch := first | omega | (simp only [lnA,lnC,lnN,lnM,yO,wY]; omega)) only [↓xJ,yI]; rfl
 simp (disch := first | omega | (simp only [lnA,lnC,lnN,lnM,yO,wY]; omega)) only [↓wZ,xi,↓yo,↓yb,↓ye,↓xI,↓yg,↓yf,h1]
 exact hf
end
end Go.Eng
/-! nodes of bytes: the reference's side,and what both come to -/
namespace Go.Eng
open Go.Proofs Go.Proofs.Tryz
set_option maxHeartbeats 4000000

noncomputable def Bz (b : List UInt8) (r : List Nd × RS) : List Nd × RS := (r.1,(r.2.1,r.2.2 && (decide (r.2.1 = b.length) && yW r.1)))
theorem PP {b : List UInt8} (hb : b.length < 4611686018427387904) {n i a : Nat} (hs : InB b (a,true)) {p : List Nd} (hp : p.length <= 3000) (hi : i < n) (hi2 : i < 4611686018427387904) : yP (n : Int) (i : Int) (a : Int) true (b.map eU) (p.map eN) = yP (n : Int) ((i + 1 : Nat) : Int) ((y8 (zh b) (CK b) (a,true)).2.1 : Int) (y8 (zh b) (CK b) (a,true)).2.2 (b.map eU) ((p ++ [(y8 (zh b) (CK b) (a,true)).1]).map eN) := by
 have h1 := FU hb hs
 have i1 := FI hs
 have h2 := FU hb i1
 have i2 := FI i1
 have h3 := FU hb i2
 have h4 := GL hb i1
 have l2 := PF (b := b) (zh b (a,true)).2
 have hw : w6 (((zh b (zh b (a,true)).2).1 : Int) - 1000000000) = ((zh b (zh b (a,true)).2).1 : Int) - 1000000000 := KI (by omega) (by omega)
 have hW : w6 ((i : Int) + 1) = ((i + 1 : Nat) : Int) := yM hi2

 rw [CZ]
 unfold y8
 by_cases k2 : (zh b (a,true)).1 = 2
 ·rw [if_pos (.inl k2)]; simp (disch := first | omega | (simp only [lnA,lnC,lnN,lnM,yO,wY]; omega)) only [↓wZ,xi,↓yk,↓xP,↓yo,↓yb,↓ye,↓xI,↓yg,↓yf,↓yA,yJ,yF,lnM,lnA,lnC,lnN,pE,wY,h1,h2,hW]; (rw [List.map_append]; rfl)
 by_cases k8 : (zh b (a,true)).1 = 8
 ·rw [if_pos (.inr (.inl k8))]; simp (disch := first | omega | (simp only [lnA,lnC,lnN,lnM,yO,wY]; omega)) only [↓wZ,xi,↓yk,↓xJ,↓xP,↓yo,↓yb,↓ye,↓xI,↓yg,↓yf,↓yA,yJ,yF,yE,lnM,lnA,lnC,lnN,pE,wY,h1,h2,hW]; (rw [List.map_append]; rfl)
 by_cases k9 : (zh b (a,true)).1 = 9
 ·rw [if_pos (.inr (.inr k9))]; simp (disch := first | omega | (simp only [lnA,lnC,lnN,lnM,yO,wY]; omega)) only [↓wZ,xi,↓yk,↓xJ,↓xP,↓yo,↓yb,↓ye,↓xI,↓yg,↓yf,↓yA,yJ,yF,yE,lnM,lnA,lnC,lnN,pE,wY,h1,h2,hW]; (rw [List.map_append]; rfl)
 rw [if_neg (by omega)]
 by_cases k3 : (zh b (a,true)).1 = 3
 ·rw [if_pos k3]; simp (disch := first | omega | (simp only [lnA,lnC,lnN,lnM,yO,wY]; omega)) only [↓wZ,xi,↓yk,↓xJ,↓xP,↓yo,↓yb,↓ye,↓xI,↓yg,↓yf,↓yA,yJ,yF,yE,lnM,lnA,lnC,lnN,pE,wY,h1,h2,hw,hW]; (rw [List.map_append]; rfl)
 rw [if_neg k3]
 by_cases k4 : (zh b (a,true)).1 = 4
 ·rw [if_pos k4]
  unfold CK
  cases hT : Ic b (zh b (a,true)).2.1 with
  | none =>
   rw [hT,Kt] at h4
   cases ho : (zh b (a,true)).2.2 <;> (have h1' := h1; unfold rO at h1'; simp only [ho] at h1'; simp (disch := first | omega | (simp only [lnA,lnC,lnN,lnM,yO,wY]; omega)) only [↓wZ,xi,↓yk,↓xJ,↓xP,↓yo,↓yb,↓ye,↓xI,↓yi,↓yg,↓xw,↓yf,↓yA,yJ,yF,yE,lnM,lnA,lnC,lnN,pE,wY,h1',h4,hW];  first | rfl | (rw [List.map_append]; rfl))
  | some q =>
   obtain ⟨t,j⟩ := q
   rw [hT,Kt] at h4
   cases ho : (zh b (a,true)).2.2 <;> (have h1' := h1; unfold rO at h1'; simp only [ho] at h1'; simp (disch := first | omega | (simp only [lnA,lnC,lnN,lnM,yO,wY]; omega)) only [↓wZ,xi,↓yk,↓xJ,↓xP,↓yo,↓yb,↓ye,↓xI,↓yi,↓yg,↓xw,↓yf,↓yA,yJ,yF,yE,lnM,lnA,lnC,lnN,pE,wY,h1',h4,hW];  first | rfl | (rw [List.map_append]; rfl))
 rw [if_neg k4]
 by_cases k5 : (zh b (a,true)).1 = 5
 ·rw [if_pos k5]; simp (disch := first | omega | (simp only [lnA,lnC,lnN,lnM,yO,wY]; omega)) only [↓wZ,xi,↓yk,↓xJ,↓xP,↓yo,↓yb,↓ye,↓xI,↓yg,↓yf,↓yA,yJ,yF,yE,lnM,lnA,lnC,lnN,pE,wY,h1,h2,h3,hW]; (rw [List.map_append]; rfl)
 rw [if_neg k5]
 by_cases k6 : (zh b (a,true)).1 = 6
 ·rw [if_pos k6]; simp (disch := first | omega | (simp only [lnA,lnC,lnN,lnM,yO,wY]; omega)) only [↓wZ,xi,↓yk,↓xJ,↓xP,↓yo,↓yb,↓ye,↓xI,↓yg,↓yf,↓yA,yJ,yF,yE,lnM,lnA,lnC,lnN,pE,wY,h1,h2,h3,hW]; (rw [List.map_append]; rfl)
 rw [if_neg k6]
 by_cases k7 : (zh b (a,true)).1 = 7
 ·rw [if_pos k7]; simp (disch := first | omega | (simp only [lnA,lnC,lnN,lnM,yO,wY]; omega)) only [↓wZ,xi,↓yk,↓xJ,↓xP,↓yo,↓yb,↓ye,↓xI,↓yg,↓yf,↓yA,yJ,yF,yE,lnM,lnA,lnC,lnN,pE,wY,h1,h2,hW]; (rw [List.map_append]; rfl)
 rw [if_neg k7]
 simp (disch := first | omega | (simp only [lnA,lnC,lnN,lnM,yO,wY]; omega)) only [↓wZ,xi,↓yk,↓xJ,↓xP,↓yo,↓yb,↓ye,↓xI,↓yg,↓yf,↓yA,yJ,yE,lnM,lnA,lnC,lnN,pE,wY,h1,hW]; (rw [List.map_append]; rfl)
theorem PO {b : List UInt8} (hb : b.length < 4611686018427387904) {n a : Nat} (hs : InB b (a,true)) (hi : 0 < n) : Aa (n : Int) 0 (a : Int) true (b.map eU) = yP (n : Int) 1 ((y8 (zh b) (CK b) (a,true)).2.1 : Int) (y8 (zh b) (CK b) (a,true)).2.2 (b.map eU) [eN (y8 (zh b) (CK b) (a,true)).1] := by
 have h1 := FU hb hs
 have i1 := FI hs
 have h2 := FU hb i1
 have i2 := FI i1
 have h3 := FU hb i2
 have h4 := GL hb i1
 have l2 := PF (b := b) (zh b (a,true)).2
 have hw : w6 (((zh b (zh b (a,true)).2).1 : Int) - 1000000000) = ((zh b (zh b (a,true)).2).1 : Int) - 1000000000 := KI (by omega) (by omega)
 have hW : w6 ((0 : Int) + 1) = 1 := by decide
 rw [D8]
 unfold y8
 by_cases k2 : (zh b (a,true)).1 = 2
 ·rw [if_pos (.inl k2)]; simp (disch := first | omega | (simp only [lnA,lnC,lnN,lnM,yO,wY]; omega)) only [↓wZ,xi,↓yk,↓xP,↓yo,↓yb,↓ye,↓xI,↓yg,↓yf,Int.reduceAdd,yJ,yF,pE,wS,wY,h1,h2]
 by_cases k8 : (zh b (a,true)).1 = 8
 ·rw [if_pos (.inr (.inl k8))]; simp (disch := first | omega | (simp only [lnA,lnC,lnN,lnM,yO,wY]; omega)) only [↓wZ,xi,↓yk,↓xJ,↓xP,↓yo,↓yb,↓ye,↓xI,↓yg,↓yf,Int.reduceAdd,yJ,yF,yE,pE,wS,wY,h1,h2]
 by_cases k9 : (zh b (a,true)).1 = 9
 ·rw [if_pos (.inr (.inr k9))]; simp (disch := first | omega | (simp only [lnA,lnC,lnN,lnM,yO,wY]; omega)) only [↓wZ,xi,↓yk,↓xJ,↓xP,↓yo,↓yb,↓ye,↓xI,↓yg,↓yf,Int.reduceAdd,yJ,yF,yE,pE,wS,wY,h1,h2]
 rw [if_neg (by omega)]
 by_cases k3 : (zh b (a,true)).1 = 3
 ·rw [if_pos k3]; simp (disch := first | omega | (simp only [lnA,lnC,lnN,lnM,yO,wY]; omega)) only [↓wZ,xi,↓yk,↓xJ,↓xP,↓yo,↓yb,↓ye,↓xI,↓yg,↓yf,Int.reduceAdd,yJ,yF,yE,pE,wS,wY,h1,h2,hw]
 rw [if_neg k3]
 by_cases k4 : (zh b (a,true)).1 = 4
 ·rw [if_pos k4]
  unfold CK
  cases hT : Ic b (zh b (a,true)).2.1 with
  | none =>
   rw [hT,Kt] at h4
   cases ho : (zh b (a,true)).2.2 <;> (have h1' := h1; unfold rO at h1'; simp only [ho] at h1'; simp (disch := first | omega | (simp only [lnA,lnC,lnN,lnM,yO,wY]; omega)) only [↓wZ,xi,↓yk,↓xJ,↓xP,↓yo,↓yb,↓ye,↓xI,↓yi,↓yg,↓xw,↓yf,Int.reduceAdd,yJ,yF,yE,pE,wS,wY,h1',h4]; try rfl)
  | some q =>
   obtain ⟨t,j⟩ := q
   rw [hT,Kt] at h4
   cases ho : (zh b (a,true)).2.2 <;> (have h1' := h1; unfold rO at h1'; simp only [ho] at h1'; simp (disch := first | omega | (simp only [lnA,lnC,lnN,lnM,yO,wY]; omega)) only [↓wZ,xi,↓yk,↓xJ,↓xP,↓yo,↓yb,↓ye,↓xI,↓yi,↓yg,↓xw,↓yf,Int.reduceAdd,yJ,yF,yE,pE,wS,wY,h1',h4]; try rfl)
 rw [if_neg k4]
 by_cases k5 : (zh b (a,true)).1 = 5
 ·rw [if_pos k5]; simp (disch := first | omega | (simp only [lnA,lnC,lnN,lnM,yO,wY]; omega)) only [↓wZ,xi,↓yk,↓xJ,↓xP,↓yo,↓yb,↓ye,↓xI,↓yg,↓yf,Int.reduceAdd,yJ,yF,yE,pE,wS,wY,h1,h2,h3]
 rw [if_neg k5]
 by_cases k6 : (zh b (a,true)).1 = 6
 ·rw [if_pos k6]; simp (disch := first | omega | (simp only [lnA,lnC,lnN,lnM,yO,wY]; omega)) only [↓wZ,xi,↓yk,↓xJ,↓xP,↓yo,↓yb,↓ye,↓xI,↓yg,↓yf,Int.reduceAdd,yJ,yF,yE,pE,wS,wY,h1,h2,h3]
 rw [if_neg k6]
 by_cases k7 : (zh b (a,true)).1 = 7
 ·rw [if_pos k7]; simp (disch := first | omega | (simp only [lnA,lnC,lnN,lnM,yO,wY]; omega)) only [↓wZ,xi,↓yk,↓xJ,↓xP,↓yo,↓yb,↓ye,↓xI,↓yg,↓yf,Int.reduceAdd,yJ,yF,yE,pE,wS,wY,h1,h2]
 rw [if_neg k7]
 simp (disch := first | omega | (simp only [lnA,lnC,lnN,lnM,yO,wY]; omega)) only [↓wZ,xi,↓yk,↓xJ,↓xP,↓yo,↓yb,↓ye,↓xI,↓yg,↓yf,Int.reduceAdd,yJ,yE,pE,wS,wY,h1]

theorem Pn {p : List Nd} {n : Nat} (hn : n < 4611686018427387904) (h : ∀ x ∈ p,x.s.size <= n) : Aw p := fun x hx => by have := h x hx; omega
theorem Jx {b : List UInt8} {num : RS -> Nat × RS} {txt : RS -> List UInt8 × RS} (ht : ∀ s,(txt s).1.length <= b.length) (s : RS) : (y8 num txt s).1.s.size <= b.length := by
 unfold y8
 have h0 : nilS.size <= b.length := by show 0 <= _; omega
 repeat' split
 all_goals (first | exact h0 | (show (mk _).size <= _; rw [yO]; exact ht _))
theorem Mr {b : List UInt8} (s : RS) : (CK b s).1.length <= b.length := by
 unfold CK
 split
 ·rename_i t i e; exact Qx e
 ·simp
theorem U4 {b : List UInt8} (s : RS) : (Al b s).1.length <= b.length := by
 unfold Al
 split
 ·rename_i t i e; exact Qx e
 ·simp
theorem UT {b : List UInt8} (_ : b.length < 4611686018427387904) {n i : Nat} {s : RS} {p : List Nd} (hp : p.length <= 3000) (hf : Aw p) (hn : ¬ (i < n /\ s.2 = true)) :
  yP (n : Int) (i : Int) (s.1 : Int) s.2 (b.map eU) (p.map eN) = some (oP p,[rO b (Bz b (p,s)).2]) := by
 obtain ⟨a,o⟩ := s
 rw [CZ]
 unfold Bz
 cases o with
 | false =>
  cases hd : decide ((i : Int) < (n : Int)) <;> rfl
 | true =>
  have hin : ¬ i < n := fun h => hn ⟨h,rfl⟩
  by_cases ha : a = b.length
  ·have hk := zr hf (by omega)
   simp only [ha,decide_true,Bool.true_and]
   simp (disch := first | omega | (simp only [lnA,lnC,lnN,lnM,yO,wY]; omega)) only [↓wZ,xi,↓yk,↓xJ,↓yo,↓xI,yI,yF,lnM,wY,hk]
  ·simp only [ha,decide_false,Bool.false_and,Bool.and_false]
   simp (disch := first | omega | (simp only [lnA,lnC,lnN,lnM,yO,wY]; omega)) only [↓yk,↓xJ,yI,yE,lnM,wY]
theorem QB {b : List UInt8} (hb : b.length < 4611686018427387904) (n : Nat) (hn : n <= 3000) : ∀ (k i : Nat) (s : RS) (p : List Nd),i + k = 3001 -> i <= n -> InB b s -> p.length = i -> (∀ x ∈ p,x.s.size <= b.length) ->
  yP (n : Int) (i : Int) (s.1 : Int) s.2 (b.map eU) (p.map eN) = some (oP (Bz b (goS b n k i s p)).1,[rO b (Bz b (goS b n k i s p)).2])
 | 0,i,s,p,hi,hin',hs,hp,hz => by omega
 | k + 1,i,s,p,hi,hin',hs,hp,hz => by
  simp only [goS]
  by_cases hc : i < n /\ s.2 = true
  ·obtain ⟨a,o⟩ := s
   obtain ⟨h1,h2⟩ := hc
   simp only at h2
   subst h2
   have hin := Jw (fun s h => FI h) (fun s h => Tc h) hs
   rw [if_pos ⟨h1,rfl⟩,PP hb hs (by omega) h1 (by omega)]
   refine QB hb n hn k (i + 1) _ _ (by omega) (by omega) hin (by simp; omega) ?_
   intro x hx
   rcases List.mem_append.1 hx with hx | hx
   ·exact hz x hx
   ·simp at hx; subst hx; exact Jx (fun s => Mr s) _
  ·rw [if_neg hc]
   exact UT hb (by omega) (Pn hb hz) hc
noncomputable def zM (b : List UInt8) (s : RS) : List Nd × RS :=
 if (zh b s).1 > 3000 then Bz b ([],((zh b s).2.1,false)) else Bz b (goS b (zh b s).1 3001 0 (zh b s).2 [])
theorem Vj {b : List UInt8} (hb : b.length < 4611686018427387904) {s : RS} (hs : InB b s) : V 115 [rO b s] = some (oP (zM b s).1,[rO b (zM b s).2]) := by
 have h1 := FU hb hs
 have i1 := FI hs
 have l1 := PF (b := b) s
 rw [Pm]
 unfold zM
 generalize zh b s = m at *
 obtain ⟨cnt,a,o⟩ := m
 have h0 : ∀ o' : Bool,¬ (0 < cnt /\ o' = true) -> Aa (cnt : Int) 0 (a : Int) o' (b.map eU) = some (oP [],[rO b (Bz b ([],(a,o'))).2]) := by
  intro o' hc
  rw [D8]
  unfold Bz
  cases o' with
  | false => cases hd : decide ((0 : Int) < (cnt : Int)) <;> rfl
  | true =>
   have hin : ¬ 0 < cnt := fun h => hc ⟨h,rfl⟩
   have hk : V 60 [.agg [.rs (5,0) []]] = some (.bool (yW []),[]) := zr (p := []) (fun x h => by simp at h) (by simp)
   by_cases ha : a = b.length
   ·simp only [ha,decide_true,Bool.true_and]
    simp (disch := first | omega | (simp only [lnA,lnC,lnN,lnM,yO,wY]; omega)) only [↓wZ,xi,↓yk,↓xJ,↓yo,↓xI,yI,yF,lnM,wY,hk]
    rfl
   ·simp only [ha,decide_false,Bool.false_and,Bool.and_false]
    simp (disch := first | omega | (simp only [lnA,lnC,lnN,lnM,yO,wY]; omega)) only [↓yk,↓xJ,yI,yE,lnM,wY]
    rfl
 by_cases hbig : cnt > 3000
 ·have := h0 false (by simp)
  rw [if_pos hbig]
  simp (disch := first | omega | (simp only [lnA,lnC,lnN,lnM,yO,wY]; omega)) only [↓wZ,xi,↓yk,↓yo,↓yb,↓ye,↓xI,↓yg,↓yf,yJ,h1,this]
  rfl
 ·rw [if_neg hbig]
  have e : goS b cnt 3001 0 (a,o) [] = if 0 < cnt /\ o = true then goS b cnt 3000 1 (y8 (zh b) (CK b) (a,o)).2 [(y8 (zh b) (CK b) (a,o)).1] else ([],(a,o)) := rfl
  have hq : Aa (cnt : Int) 0 (a : Int) o (b.map eU) = some (oP (Bz b (goS b cnt 3001 0 (a,o) [])).1,[rO b (Bz b (goS b cnt 3001 0 (a,o) [])).2]) := by
   rw [e]
   by_cases hc : 0 < cnt /\ o = true
   ·obtain ⟨hc1,hc2⟩ := hc
    subst hc2
    have hin := Jw (fun s h => FI h) (fun s h => Tc h) i1
    rw [if_pos ⟨hc1,rfl⟩,PO hb i1 hc1]
    exact QB hb cnt (by omega) 3000 1 _ [(y8 (zh b) (CK b) (a,true)).1] (by omega) (by omega) hin (by simp) (by
     intro x hx
     simp at hx; subst hx; exact Jx (fun s => Mr s) _)
   ·rw [if_neg hc]; exact h0 o hc
  simp (disch := first | omega | (simp only [lnA,lnC,lnN,lnM,yO,wY]; omega)) only [↓wZ,xi,↓xJ,↓yo,↓yb,↓ye,↓xI,↓yg,↓yf,yI,h1]
  exact hq
end Go.Eng
/-! a value read of bytes: both sides come to the same -/
namespace Go.Eng
open Go.Proofs Go.Proofs.Tryz
set_option maxHeartbeats 4000000

theorem Jz (b : List UInt8) (a : Nat) : y2 b (a,true) = zh b (a,true) := by
 unfold y2 zh
 split <;> rfl
theorem QL {b : List UInt8} {s : RS} (h : s.2 = false) : (y2 b s).2.2 = false := by
 unfold y2
 split
 ·exact h
 ·rfl
theorem QM {b : List UInt8} {s : RS} (h : s.2 = false) : (zh b s).2.2 = false := by
 unfold zh
 split
 ·rw [h]
 ·rfl
theorem U3 {b : List UInt8} {s : RS} (h : s.2 = false) : (Al b s).2.2 = false := by
 unfold Al
 split
 ·exact h
 ·rfl
theorem U6 {b : List UInt8} {s : RS} (h : s.2 = false) : (CK b s).2.2 = false := by
 unfold CK
 split
 ·exact h
 ·rfl
noncomputable def Sy {α : Type} (r r' : α × RS) : Prop := r.2.2 = r'.2.2 /\ (r.2.2 = true -> r = r')
theorem U7 (b : List UInt8) (a : Nat) : Sy (Al b (a,true)) (CK b (a,true)) := by
 unfold Sy Al CK
 cases Ic b a with
 | none => exact ⟨rfl,fun h => by cases h⟩
 | some p => exact ⟨rfl,fun _ => rfl⟩
theorem NQ {num : RS -> Nat × RS} {txt : RS -> List UInt8 × RS} (hn : ∀ s : RS,s.2 = false -> (num s).2.2 = false) (ht : ∀ s : RS,s.2 = false -> (txt s).2.2 = false) {s : RS} (h : (num s).2.2 = false) : (y8 num txt s).2.2 = false := by
 unfold y8
 repeat' split
 all_goals (first | exact hn _ (hn _ h) | exact hn _ h | exact ht _ h | exact h)
theorem TH (b : List UInt8) (a : Nat) : Sy (y8 (y2 b) (Al b) (a,true)) (y8 (zh b) (CK b) (a,true)) := by
 have e := Jz b a
 cases hk : (y2 b (a,true)).2.2 with
 | false =>
  have h1 := NQ (num := y2 b) (txt := Al b) (s := (a,true)) (fun s h => QL h) (fun s h => U3 h) hk
  have h2 := NQ (num := zh b) (txt := CK b) (s := (a,true)) (fun s h => QM h) (fun s h => U6 h) (by rw [<- e]; exact hk)
  exact ⟨by rw [h1,h2],fun h => by rw [h1] at h; cases h⟩
 | true =>
  unfold y8
  rw [<- e]
  obtain ⟨a1,ha1⟩ : ∃ a1,(y2 b (a,true)).2 = (a1,true) := ⟨_,Prod.ext rfl hk⟩
  rw [ha1]
  have e1 := Jz b a1
  have et := U7 b a1
  have e2 : Sy (y2 b (y2 b (a1,true)).2) (zh b (zh b (a1,true)).2) /\ (y2 b (a1,true)).1 = (zh b (a1,true)).1 := by
   rw [<- e1]
   refine ⟨?_,rfl⟩
   cases h1 : (y2 b (a1,true)).2.2 with
   | false =>
    have q1 := QL (b := b) h1
    have q2 := QM (b := b) h1
    exact ⟨by rw [q1,q2],fun h => by rw [q1] at h; cases h⟩
   | true =>
    obtain ⟨a2,ha2⟩ : ∃ a2,(y2 b (a1,true)).2 = (a2,true) := ⟨_,Prod.ext rfl h1⟩
    rw [ha2,Jz]
    exact ⟨rfl,fun _ => rfl⟩
  repeat' split
  ·rw [e1]; exact ⟨rfl,fun _ => rfl⟩
  ·rw [e1]; exact ⟨rfl,fun _ => rfl⟩
  ·exact ⟨et.1,fun h => by rw [et.2 h]⟩
  ·exact ⟨e2.1.1,fun h => by rw [e2.1.2 h,e2.2]⟩
  ·exact ⟨e2.1.1,fun h => by rw [e2.1.2 h,e2.2]⟩
  ·rw [e1]; exact ⟨rfl,fun _ => rfl⟩
  ·exact ⟨rfl,fun _ => rfl⟩
theorem Sr {b : List UInt8} {cnt k i a : Nat} {p : List Nd} : goI b cnt k i (a,false) p = (p,(a,false)) := by
 cases k <;> simp [goI]
theorem Pq {b : List UInt8} {cnt k i a : Nat} {p : List Nd} : goS b cnt k i (a,false) p = (p,(a,false)) := by
 cases k <;> simp [goS]
theorem Pt {b : List UInt8} {cnt : Nat} (hc : cnt <= 3000) : ∀ (k i a : Nat) (p : List Nd),i + k = 3001 -> Sy (goI b cnt (k + 1) i (a,true) p) (goS b cnt k i (a,true) p)
 | 0,i,a,p,hi => by
  have h1 : ¬ i < cnt := by omega
  simp only [goI,goS,h1,false_and,if_false]
  exact ⟨rfl,fun _ => rfl⟩
 | k + 1,i,a,p,hi => by
  rw [goI,goS]
  by_cases h1 : i < cnt
  ·rw [if_pos ⟨h1,rfl,by omega⟩,if_pos ⟨h1,rfl⟩]
   have hs := TH b a
   cases hk : (y8 (y2 b) (Al b) (a,true)).2.2 with
   | false =>
    obtain ⟨a1,ha1⟩ : ∃ a1,(y8 (y2 b) (Al b) (a,true)).2 = (a1,false) := ⟨_,Prod.ext rfl hk⟩
    obtain ⟨a2,ha2⟩ : ∃ a2,(y8 (zh b) (CK b) (a,true)).2 = (a2,false) := ⟨_,Prod.ext rfl (by rw [<- hs.1]; exact hk)⟩
    rw [ha1,ha2,Sr,Pq]
    exact ⟨rfl,fun h => by cases h⟩
   | true =>
    obtain ⟨a1,ha1⟩ : ∃ a1,(y8 (y2 b) (Al b) (a,true)).2 = (a1,true) := ⟨_,Prod.ext rfl hk⟩
    have e := hs.2 hk
    rw [<- e,ha1]
    exact Pt hc k (i + 1) a1 _ (by omega)
  ·rw [if_neg (fun h => h1 h.1),if_neg (fun h => h1 h.1)]
   exact ⟨rfl,fun _ => rfl⟩
theorem Qz {b : List UInt8} {cnt : Nat} (hc : 3000 < cnt) : ∀ (k i : Nat) (s : RS) (p : List Nd),i + k = 3002 -> i <= 3001 -> p.length = i -> (goI b cnt k i s p).2.2 = true -> (goI b cnt k i s p).1.length = 3001
 | 0,i,s,p,hi,hi2,hp,h => by omega
 | k + 1,i,s,p,hi,hi2,hp,h => by
  rw [goI] at h ⊢
  by_cases h1 : i < cnt /\ s.2 = true /\ i <= 3000
  ·rw [if_pos h1] at h ⊢
   exact Qz hc k (i + 1) _ _ (by omega) (by omega) (by simp; omega) h
  ·rw [if_neg h1] at h ⊢
   by_cases h2 : i <= 3000
   ·exact absurd ⟨by omega,h,h2⟩ h1
   ·simp only; omega

theorem LK : ∀ (f n : Nat) (rest : List UInt8),n < 128 ^ (f + 1) -> (n = 0 -> 8 <= f) -> EH (f + 1) (zd n ++ rest) = some (n,(zd n).length)
 | f,n,rest,hn,h0 => by
  by_cases h : n <= 127
  ·rw [Cm h]
   have e : (UInt8.ofNat n).toNat = n := by simp; omega
   simp only [List.cons_append,List.nil_append,EH,e]
   rw [if_pos (by omega),if_neg (by omega)]; rfl
  ·rw [Gz h]
   have e : (UInt8.ofNat (n % 128 + 128)).toNat = n % 128 + 128 := by simp; omega
   cases f with
   | zero => simp at hn; omega
   | succ f =>
   have ih := LK f (n / 128) rest (by rw [Nat.pow_succ] at hn; omega) (fun h => by omega)
   simp only [List.cons_append,EH,e]
   rw [if_neg (by omega)]
   rw [show EH (f + 1) (zd (n / 128) ++ rest) = some (n / 128,(zd (n / 128)).length) from ih]
   have e1 : (n % 128 + 128) % 128 + 128 * (n / 128) = n := by omega
   simp only [e1,lnC]
theorem De {b l rest : List UInt8} {i : Nat} (h : b.drop i = l ++ rest) : b.drop (i + l.length) = rest := by
 rw [<- List.drop_drop,h,List.drop_left]
theorem AH {b : List UInt8} {s : RS} {n : Nat} {rest : List UInt8} (hn : n < 9223372036854775808) (h : b.drop s.1 = zd n ++ rest) : y2 b s = (n,(s.1 + (zd n).length,s.2)) := by
 have e : (128 : Nat) ^ (8 + 1) = 9223372036854775808 := rfl
 have := LK 8 n rest (by omega) (fun _ => Nat.le_refl _)
 unfold y2
 rw [h,this]
theorem Uw {b : List UInt8} {i : Nat} {t rest : List UInt8} (hn : t.length < 4611686018427387904) (h : b.drop i = JG t ++ rest) : Ic b i = some (t,i + (JG t).length) := by
 have e : (128 : Nat) ^ (8 + 1) = 9223372036854775808 := rfl
 rw [JG,List.append_assoc] at h
 have h1 := LK 8 t.length (t ++ rest) (by omega) (fun _ => Nat.le_refl _)
 have h2 := De h
 have hl : (b.drop i).length = (zd t.length).length + (t.length + rest.length) := by rw [h]; simp
 rw [List.length_drop] at hl
 have hp := y6 hn
 have hi : (zd t.length).length >= 1 := by
  by_cases c : t.length <= 127
  ·rw [Cm c]; simp
  ·rw [Gz c]; simp
 unfold Ic
 rw [h,h1]
 simp only
 rw [if_pos (by omega),h2,List.take_left]
 simp only [JG,lnA,Nat.add_assoc]
theorem U5 {b : List UInt8} {s : RS} {t rest : List UInt8} (hn : t.length < 4611686018427387904) (h : b.drop s.1 = JG t ++ rest) : Al b s = (t,(s.1 + (JG t).length,s.2)) := by
 unfold Al
 rw [Uw hn h]
theorem Gy {s : ByteArray} (h : s.size = 0) : s = nilS := by
 apply ByteArray.ext
 have : s.data.size = 0 := h
 exact Array.eq_empty_of_size_eq_zero this
theorem TG {b : List UInt8} {s : RS} {x : Nd} {i : Nat} (hi : i <= 3000) (ho : okN x i = true) {rest : List UInt8} (h : b.drop s.1 = zF x ++ rest) : y8 (y2 b) (Al b) s = (x,(s.1 + (zF x).length,s.2)) := by
 obtain ⟨k1,k9,n3,n9,n0,a0,a1,b0,b1,s4⟩ := GW ho
 obtain ⟨kd,n,sx,a,c⟩ := x
 simp only at k1 k9 n3 n9 n0 a0 a1 b0 b1 s4
 obtain ⟨k,rfl⟩ := Int.eq_ofNat_of_zero_le (show 0 <= kd by omega)
 obtain ⟨a,rfl⟩ := Int.eq_ofNat_of_zero_le a0
 obtain ⟨c,rfl⟩ := Int.eq_ofNat_of_zero_le b0
 have hk : k = 1 \/ k = 2 \/ k = 3 \/ k = 4 \/ k = 5 \/ k = 6 \/ k = 7 \/ k = 8 \/ k = 9 := by omega
 have hd : ∃ r2,b.drop s.1 = zd k ++ r2 := by
  rw [h]; unfold zF; exact ⟨_,by rw [List.append_assoc]; rfl⟩
 obtain ⟨r2,hr2⟩ := hd
 have hn1 := AH (by omega) hr2
 have hr := De hr2
 have er : zF ⟨(k : Int),n,sx,(a : Int),(c : Int)⟩ ++ rest = zd k ++ r2 := by rw [<- h,hr2]
 unfold y8
 rw [hn1]
 simp only
 rcases hk with e | e | e | e | e | e | e | e | e <;> subst e
 ·
  have hs := Gy (FP ho (by simp))
  simp [okN,wi] at ho
  rw [PE rfl] at er ⊢
  simp
  refine ⟨by omega,hs.symm,by omega,by omega⟩
 ·have hs := Gy (FP ho (by simp))
  simp [okN,wi] at ho
  obtain ⟨m,rfl⟩ := Int.eq_ofNat_of_zero_le (show 0 <= n by omega)
  rw [Bu (.inl rfl),List.append_assoc] at er
  have er2 := List.append_cancel_left er
  have h2 := AH (b := b) (s := (s.1 + (zd 2).length,s.2)) (n := m) (rest := rest) (by omega) (by rw [hr,<- er2]; rfl)
  rw [h2,Bu (.inl rfl)]
  simp
  refine ⟨⟨hs.symm,by omega,by omega⟩,by omega⟩
 ·have hs := Gy (FP ho (by simp))
  simp [okN,wi] at ho
  obtain ⟨m,hm⟩ := Int.eq_ofNat_of_zero_le (show 0 <= n + 1000000000 by omega)
  rw [Lj rfl,List.append_assoc] at er
  have er2 := List.append_cancel_left er
  have h2 := AH (b := b) (s := (s.1 + (zd 3).length,s.2)) (n := m) (rest := rest) (by omega) (by rw [hr,<- er2,hm]; rfl)
  rw [h2,Lj rfl]
  simp
  refine ⟨⟨by omega,hs.symm,by omega,by omega⟩,by rw [hm]; simp; omega⟩
 ·have hz : sx.data.toList.length = sx.size := Fk sx
  simp [okN,wi] at ho
  rw [Lk rfl,List.append_assoc] at er
  have er2 := List.append_cancel_left er
  have h2 := U5 (b := b) (s := (s.1 + (zd 4).length,s.2)) (t := sx.data.toList) (rest := rest) (by omega) (by rw [hr,<- er2])
  rw [h2,Lk rfl]
  simp [Jv]
  refine ⟨⟨by omega,by omega,by omega⟩,by omega⟩
 ·have hs := Gy (FP ho (by simp))
  simp [okN,wi] at ho
  rw [Lm rfl,List.append_assoc,List.append_assoc] at er
  have er2 := List.append_cancel_left er
  have h2 := AH (b := b) (s := (s.1 + (zd 5).length,s.2)) (n := a) (rest := zd c ++ rest) (by omega) (by rw [hr,<- er2]; rfl)
  have hr3 := De (b := b) (i := s.1 + (zd 5).length) (l := zd a) (rest := zd c ++ rest) (by rw [hr,<- er2]; rfl)
  have h3 := AH (b := b) (s := (s.1 + (zd 5).length + (zd a).length,s.2)) (n := c) (rest := rest) (by omega) hr3
  rw [h2]
  simp only
  rw [h3,Lm rfl]
  simp
  refine ⟨⟨by omega,hs.symm⟩,by omega⟩
 ·have hs := Gy (FP ho (by simp))
  simp [okN,wi] at ho
  obtain ⟨m,rfl⟩ := Int.eq_ofNat_of_zero_le (show 0 <= n by omega)
  rw [Ln rfl,List.append_assoc,List.append_assoc] at er
  have er2 := List.append_cancel_left er
  have h2 := AH (b := b) (s := (s.1 + (zd 6).length,s.2)) (n := m) (rest := zd a ++ rest) (by omega) (by rw [hr,<- er2]; rfl)
  have hr3 := De (b := b) (i := s.1 + (zd 6).length) (l := zd m) (rest := zd a ++ rest) (by rw [hr,<- er2]; rfl)
  have h3 := AH (b := b) (s := (s.1 + (zd 6).length + (zd m).length,s.2)) (n := a) (rest := rest) (by omega) hr3
  rw [h2]
  simp only
  rw [h3,Ln rfl]
  simp
  refine ⟨⟨hs.symm,by omega⟩,by omega⟩
 ·have hs := Gy (FP ho (by simp))
  simp [okN,wi] at ho
  rw [Lp rfl,List.append_assoc] at er
  have er2 := List.append_cancel_left er
  have h2 := AH (b := b) (s := (s.1 + (zd 7).length,s.2)) (n := a) (rest := rest) (by omega) (by rw [hr,<- er2]; rfl)
  rw [h2,Lp rfl]
  simp
  refine ⟨⟨by omega,hs.symm,by omega⟩,by omega⟩
 ·have hs := Gy (FP ho (by simp))
  simp [okN,wi] at ho
  obtain ⟨m,rfl⟩ := Int.eq_ofNat_of_zero_le (show 0 <= n by omega)
  rw [Bu (.inr (.inl rfl)),List.append_assoc] at er
  have er2 := List.append_cancel_left er
  have h2 := AH (b := b) (s := (s.1 + (zd 8).length,s.2)) (n := m) (rest := rest) (by omega) (by rw [hr,<- er2]; rfl)
  rw [h2,Bu (.inr (.inl rfl))]
  simp
  refine ⟨⟨hs.symm,by omega,by omega⟩,by omega⟩
 ·have hs := Gy (FP ho (by simp))
  simp [okN,wi] at ho
  obtain ⟨m,rfl⟩ := Int.eq_ofNat_of_zero_le (show 0 <= n by omega)
  rw [Bu (.inr (.inr rfl)),List.append_assoc] at er
  have er2 := List.append_cancel_left er
  have h2 := AH (b := b) (s := (s.1 + (zd 9).length,s.2)) (n := m) (rest := rest) (by omega) (by rw [hr,<- er2]; rfl)
  rw [h2,Bu (.inr (.inr rfl))]
  simp
  refine ⟨⟨hs.symm,by omega,by omega⟩,by omega⟩
end Go.Eng
/-! a value read of bytes: both sides come to the same -/
namespace Go.Eng
open Go.Proofs Go.Proofs.Tryz
set_option maxHeartbeats 4000000

theorem Sw {b : List UInt8} {p : List Nd} (hp : yW p = true) {rest : List UInt8} {o : Bool} (ho : o = true) : ∀ (k i a : Nat),i + k = 3002 -> i <= p.length -> b.drop a = (p.drop i).flatMap zF ++ rest -> goI b p.length k i (a,o) (p.take i) = (p,(a + ((p.drop i).flatMap zF).length,o))
 | 0,i,a,hi,hl,h => by have := yX hp; omega
 | k + 1,i,a,hi,hl,h => by
  have hlen := yX hp
  rw [goI]
  by_cases h1 : i < p.length
  ·obtain ⟨x,hx⟩ := xx h1
   rw [if_pos ⟨h1,ho,by omega⟩]
   rw [tU hx,List.flatMap_cons,List.append_assoc] at h
   have hn := TG (b := b) (s := (a,o)) (i := i) (by omega) (z6 hp hx) h
   have h2 := De h
   rw [hn]
   simp only
   rw [<- yn hx,Sw hp ho k (i + 1) (a + (zF x).length) (by omega) (by omega) h2,tU hx,List.flatMap_cons,lnA,Nat.add_assoc]
  ·rw [if_neg (fun h => h1 h.1)]
   have : i = p.length := by omega
   subst this
   rw [List.take_length,List.drop_length]; rfl
theorem RJ {b rest : List UInt8} {a : Nat} {p : List Nd} (hp : yW p = true) (h : b.drop a = KC p ++ rest) : zx b (a,true) = (p,(a + (KC p).length,true)) := by
 have hlen := yX hp
 rw [KC,List.append_assoc] at h
 have h1 := AH (b := b) (s := (a,true)) (n := p.length) (by omega) h
 have h2 := De h
 unfold zx
 rw [h1]
 have := Sw (b := b) hp (rest := rest) (o := true) rfl 3002 0 (a + (zd p.length).length) (by omega) (Nat.zero_le _) h2
 rw [List.take_zero,List.drop_zero] at this
 simp only
 rw [this,KC,lnA,Nat.add_assoc]
noncomputable def KE (s : List UInt8) : Option (List Nd) :=
 if (zx s (0,true)).2.2 = true /\ FA (zx s (0,true)).1 ((zx s (0,true)).1.length - 1) = some s then some (zx s (0,true)).1 else none
noncomputable def UQ (r : Option (List Nd)) : D := match r with | some p => .tup [oP p,iN ((p.length : Int) - 1),.bool true] | none => .tup [.agg [.os (5,0) []],iN 0,.bool false]
theorem RX {p : List Nd} {v : Int} {s : List UInt8} (h : FA p v = some s) : yW p = true /\ wi v 0 ((p.length : Int) - 1) = true /\ s = KC (zz (-1) p [v]).1 := by
 unfold FA at h
 split at h
 ·rename_i hc
  cases h
  exact ⟨hc.1,hc.2,rfl⟩
 ·cases h
theorem Ux {b : List UInt8} {cnt : Nat} : ∀ (k i : Nat) (s : RS) (p : List Nd),(∀ x ∈ p,x.s.size <= b.length) -> ∀ x ∈ (goI b cnt k i s p).1,x.s.size <= b.length
 | 0,i,s,p,h => h
 | k + 1,i,s,p,h => by
  rw [goI]
  split
  ·apply Ux k
   intro x hx
   rcases List.mem_append.1 hx with hx | hx
   ·exact h x hx
   ·simp at hx; subst hx; exact Jx (fun s => U4 s) _
  ·exact h
theorem Su {b : List UInt8} {cnt : Nat} : ∀ (k i : Nat) (s : RS) (p : List Nd),(goI b cnt k i s p).1.length <= p.length + k
 | 0,i,s,p => Nat.le_refl _
 | k + 1,i,s,p => by
  rw [goI]
  split
  ·have := Su (b := b) (cnt := cnt) k (i + 1) (y8 (y2 b) (Al b) s).2 (p ++ [(y8 (y2 b) (Al b) s).1])
   simp at this; omega
  ·simp
theorem RI (b : List UInt8) (s : RS) : (zx b s).1.length <= 3002 := by
 have := Su (b := b) (cnt := (y2 b s).1) 3002 0 (y2 b s).2 []
 simpa [zx] using this
theorem QJ {b : List UInt8} (hb : b.length < 4611686018427387904) (s : RS) : Aw (zx b s).1 :=
 Pn hb (Ux 3002 0 (y2 b s).2 [] (fun x h => by simp at h))
theorem Uy {b : List UInt8} {cnt : Nat} : ∀ (k i : Nat) (s : RS) (p : List Nd),(∀ x ∈ p,x.s.size <= b.length) -> ∀ x ∈ (goS b cnt k i s p).1,x.s.size <= b.length
 | 0,i,s,p,h => h
 | k + 1,i,s,p,h => by
  rw [goS]
  split
  ·apply Uy k
   intro x hx
   rcases List.mem_append.1 hx with hx | hx
   ·exact h x hx
   ·simp at hx; subst hx; exact Jx (fun s => Mr s) _
  ·exact h
theorem SA {b : List UInt8} {cnt : Nat} : ∀ (k i : Nat) (s : RS) (p : List Nd),(goS b cnt k i s p).1.length <= p.length + k
 | 0,i,s,p => Nat.le_refl _
 | k + 1,i,s,p => by
  rw [goS]
  split
  ·have := SA (b := b) (cnt := cnt) k (i + 1) (y8 (zh b) (CK b) s).2 (p ++ [(y8 (zh b) (CK b) s).1])
   simp at this; omega
  ·simp
theorem QK {b : List UInt8} (hb : b.length < 4611686018427387904) (s : RS) : Aw (zM b s).1 /\ (zM b s).1.length <= 3001 := by
 unfold zM
 split
 ·exact ⟨fun x h => by simp [Bz] at h,by simp [Bz]⟩
 ·refine ⟨Pn hb (Uy 3001 0 (zh b s).2 [] (fun x h => by simp at h)),?_⟩
  have := SA (b := b) (cnt := (zh b s).1) 3001 0 (zh b s).2 []
  simpa [Bz] using this
theorem Kn {s : List UInt8} (hb : s.length < 4294967296) : V 146 [.str (mk s)] = some (UQ (KE s),[]) := by
 have h1 : V 72 [.op [.os (1,0) (s.map eU),iN 0,.bool true]] = some (oP (zx s (0,true)).1,[rO s (zx s (0,true)).2]) := MF (b := s) (by omega) (s := (0,true)) (Nat.zero_le _)
 have hl := RI s (0,true)
 have hv := Km (QJ (b := s) (by omega) (0,true)) (by omega) (((zx s (0,true)).1.length : Int) - 1)
 rw [KO,GP]
 unfold KE
 generalize zx s (0,true) = r at *
 obtain ⟨p,a,o⟩ := r
 simp only at h1 hl hv
 have hw : w6 ((p.length : Int) - 1) = (p.length : Int) - 1 := w64 (by omega) (by omega)
 cases o with
 | false =>
  rw [if_neg (by simp)]
  cases e : FA p ((p.length : Int) - 1) with
  | none => rw [e,Kz] at hv; simp (disch := first | omega | (simp only [lnA,lnC,lnN,lnM,yO,wY]; omega)) only [↓wZ,xi,↓yk,↓yo,↓yb,↓ye,↓xI,↓yi,↓yg,↓xu,↓xw,↓yf,Bool.not_false,lnM,wY,h1,hw,hv]; rfl
  | some q => rw [e,Kz] at hv; simp (disch := first | omega | (simp only [lnA,lnC,lnN,lnM,yO,wY]; omega)) only [↓wZ,xi,↓yk,↓yo,↓yb,↓ye,↓xI,↓yi,↓yg,↓xu,↓xw,↓yf,Bool.not_false,lnM,wY,h1,hw,hv]; rfl
 | true =>
  cases e : FA p ((p.length : Int) - 1) with
  | none =>
   rw [e,Kz] at hv
   rw [if_neg (by simp)]
   simp (disch := first | omega | (simp only [lnA,lnC,lnN,lnM,yO,wY]; omega)) only [↓wZ,xi,↓yk,↓xJ,↓yo,↓yb,↓ye,↓xI,↓yi,↓yg,↓xu,↓xw,↓yf,Bool.not_true,Bool.not_false,lnM,wY,h1,hw,hv]; rfl
  | some q =>
   rw [e,Kz] at hv
   by_cases hq : q = s
   ·subst hq
    have hs : kc (mk q) (mk q) = true := by rw [DG]; simp
    rw [if_pos ⟨rfl,rfl⟩]
    simp (disch := first | omega | (simp only [lnA,lnC,lnN,lnM,yO,wY]; omega)) only [↓wZ,xi,↓xJ,↓yo,↓yb,↓ye,↓xI,↓yi,↓yg,↓xu,↓xw,↓yf,Bool.not_true,lnM,wY,h1,hw,hv,hs]; rfl
   ·have hs : kc (mk q) (mk s) = false := by rw [DH]; exact decide_eq_false hq
    rw [if_neg (fun h => hq (Option.some.inj h.2))]
    simp (disch := first | omega | (simp only [lnA,lnC,lnN,lnM,yO,wY]; omega)) only [↓wZ,xi,↓yk,↓xJ,↓yo,↓yb,↓ye,↓xI,↓yi,↓yg,↓xu,↓xw,↓yf,Bool.not_true,Bool.not_false,lnM,wY,h1,hw,hv,hs]; rfl
theorem RY (s : List UInt8) : KE s = if (zM s (0,true)).2.2 = true /\ (zM s (0,true)).1.length ≠ 0 /\ FA (zM s (0,true)).1 ((zM s (0,true)).1.length - 1) = some s then some (zM s (0,true)).1 else none := by
 have hn := Jz s 0
 have hS : zM s (0,true) = if (y2 s (0,true)).1 > 3000 then Bz s ([],((y2 s (0,true)).2.1,false)) else Bz s (goS s (y2 s (0,true)).1 3001 0 (y2 s (0,true)).2 []) := by
  unfold zM; rw [<- hn]
 have hI : zx s (0,true) = goI s (y2 s (0,true)).1 3002 0 (y2 s (0,true)).2 [] := rfl
 unfold KE
 by_cases hc : (zx s (0,true)).2.2 = true /\ FA (zx s (0,true)).1 ((zx s (0,true)).1.length - 1) = some s
 ·rw [if_pos hc]
  obtain ⟨ho,hp⟩ := hc
  obtain ⟨p1,p2,p3⟩ := RX hp
  have hr : zx s (0,true) = ((zx s (0,true)).1,((zx s (0,true)).2.1,true)) := Prod.ext rfl (Prod.ext rfl ho)
  have hlen := yX p1
  have hwi := wi_iff.1 p2
  -- so many nodes at most
  have hcnt : (y2 s (0,true)).1 <= 3000 := by
   by_cases hbig : 3000 < (y2 s (0,true)).1
   ·have := Qz hbig 3002 0 (y2 s (0,true)).2 [] rfl (by omega) rfl (by rw [<- hI]; exact ho)
    rw [<- hI] at this; omega
   ·omega
  -- the first number was read
  have hok : (y2 s (0,true)).2.2 = true := by
   cases e : (y2 s (0,true)).2.2 with
   | true => rfl
   | false =>
    obtain ⟨a1,ha1⟩ : ∃ a1,(y2 s (0,true)).2 = (a1,false) := ⟨_,Prod.ext rfl e⟩
    rw [hI,ha1,Sr] at ho; cases ho
  obtain ⟨a1,ha1⟩ : ∃ a1,(y2 s (0,true)).2 = (a1,true) := ⟨_,Prod.ext rfl hok⟩
  have hsy := Pt (b := s) hcnt 3001 0 a1 [] (by omega)
  have hII : zx s (0,true) = goI s (y2 s (0,true)).1 3002 0 (a1,true) [] := by rw [hI,ha1]
  have he := hsy.2 (by rw [<- hII]; exact ho)
  rw [<- hII] at he
  -- all was read
  have ha := I9 p1 (Dh p2) (-1) (-1)
  have hrt := RJ (b := s) (a := 0) (rest := []) ha.1 (by rw [List.drop_zero,List.append_nil]; exact p3)
  rw [<- p3,Nat.zero_add] at hrt
  have hat : (zx s (0,true)).2.1 = s.length := by rw [hrt]
  have hS2 : zM s (0,true) = ((zx s (0,true)).1,((zx s (0,true)).2.1,true)) := by
   rw [hS,if_neg (show ¬ (y2 s (0,true)).1 > 3000 by omega),ha1,<- he]
   unfold Bz
   rw [hat,ho,p1]; simp
  rw [hS2,if_pos ⟨rfl,(by simp only; omega),hp⟩]
 ·rw [if_neg hc]
  by_cases hs : (zM s (0,true)).2.2 = true /\ (zM s (0,true)).1.length ≠ 0 /\ FA (zM s (0,true)).1 ((zM s (0,true)).1.length - 1) = some s
  ·exfalso
   obtain ⟨s1,s2,s3⟩ := hs
   by_cases hbig : (y2 s (0,true)).1 > 3000
   ·rw [hS,if_pos hbig] at s1; simp [Bz] at s1
   ·rw [hS,if_neg hbig] at s1 s3
    have hok : (y2 s (0,true)).2.2 = true := by
     cases e : (y2 s (0,true)).2.2 with
     | true => rfl
     | false =>
      obtain ⟨a1,ha1⟩ : ∃ a1,(y2 s (0,true)).2 = (a1,false) := ⟨_,Prod.ext rfl e⟩
      rw [ha1,Pq] at s1; simp [Bz] at s1
    obtain ⟨a1,ha1⟩ : ∃ a1,(y2 s (0,true)).2 = (a1,true) := ⟨_,Prod.ext rfl hok⟩
    have hsy := Pt (b := s) (cnt := (y2 s (0,true)).1) (by omega) 3001 0 a1 [] (by omega)
    have hII : zx s (0,true) = goI s (y2 s (0,true)).1 3002 0 (a1,true) [] := by rw [hI,ha1]
    rw [ha1] at s1 s3
    simp only [Bz,Bool.and_eq_true] at s1
    have he := hsy.2 (by rw [hsy.1]; exact s1.1)
    rw [<- hII] at he
    simp only [Bz] at s3
    rw [<- he] at s1 s3
    exact hc ⟨s1.1,s3⟩
  ·rw [if_neg hs]
theorem Kr {s : List UInt8} (hb : s.length < 4294967296) : V 144 [.str (mk s)] = some (UQ (KE s),[]) := by
 have h1 : V 115 [.op [.os (1,0) (s.map eU),iN 0,.bool true]] = some (oP (zM s (0,true)).1,[rO s (zM s (0,true)).2]) := Vj (b := s) (by omega) (s := (0,true)) (Nat.zero_le _)
 obtain ⟨hf,hl⟩ := QK (b := s) (by omega) (0,true)
 have hv := Kq hf (by omega) (((zM s (0,true)).1.length : Int) - 1)
 have hr := RY s
 rw [hr,KV,GP]
 generalize hgen : zM s (0,true) = r at *
 obtain ⟨p,a,o⟩ := r
 simp only at h1 hl hv
 have hw : w6 ((p.length : Int) - 1) = (p.length : Int) - 1 := w64 (by omega) (by omega)
 cases o with
 | false =>
  rw [if_neg (by simp)]
  simp (disch := first | omega | (simp only [lnA,lnC,lnN,lnM,yO,wY]; omega)) only [↓wZ,xi,↓yk,↓yo,↓yb,↓ye,↓xI,↓yg,↓xu,↓yf,Bool.not_false,h1]; rfl
 | true =>
  by_cases hz : p.length = 0
  ·rw [if_neg (fun h => h.2.1 hz)]
   simp (disch := first | omega | (simp only [lnA,lnC,lnN,lnM,yO,wY]; omega)) only [↓wZ,xi,↓yk,↓xJ,↓yo,↓yb,↓ye,↓xI,↓yg,↓xu,↓yf,yF,Bool.not_true,lnM,wY,h1]; rfl
  cases e : FA p ((p.length : Int) - 1) with
  | none =>
   rw [e,Kz] at hv
   rw [if_neg (by simp)]
   -- the text is not the empty one
   have hs : kc ⟨#[]⟩ (mk s) = false := by
    cases hs : kc ⟨#[]⟩ (mk s) with
    | false => rfl
    | true =>
     exfalso
     have e0 : s = [] := by
      have : kc (mk []) (mk s) = true := hs
      rw [DH] at this
      exact (of_decide_eq_true this).symm
     subst e0
     have : (zM [] (0,true)).2.2 = false := by
      unfold zM
      split
      ·rfl
      ·have e1 : (zh [] (0,true)).2 = (0,false) := rfl
       rw [e1,Pq]; rfl
     rw [hgen] at this
     cases this
   simp (disch := first | omega | (simp only [lnA,lnC,lnN,lnM,yO,wY]; omega)) only [↓wZ,xi,↓yk,↓xJ,↓yo,↓yb,↓ye,↓xI,↓yi,↓yg,↓xu,↓xw,↓yf,yE,Bool.not_true,Bool.not_false,lnM,wY,h1,hw,hv,hs]; rfl
  | some q =>
   rw [e,Kz] at hv
   by_cases hq : q = s
   ·subst hq
    have hs : kc (mk q) (mk q) = true := by rw [DG]; simp
    rw [if_pos ⟨rfl,hz,rfl⟩]
    simp (disch := first | omega | (simp only [lnA,lnC,lnN,lnM,yO,wY]; omega)) only [↓wZ,xi,↓xJ,↓yo,↓yb,↓ye,↓xI,↓yi,↓yg,↓xu,↓xw,↓yf,yE,Bool.not_true,lnM,wY,h1,hw,hv,hs]; rfl
   ·have hs : kc (mk q) (mk s) = false := by rw [DH]; exact decide_eq_false hq
    rw [if_neg (fun h => hq (Option.some.inj h.2.2))]
    simp (disch := first | omega | (simp only [lnA,lnC,lnN,lnM,yO,wY]; omega)) only [↓wZ,xi,↓yk,↓xJ,↓yo,↓yb,↓ye,↓xI,↓yi,↓yg,↓xu,↓xw,↓yf,yE,Bool.not_true,Bool.not_false,lnM,wY,h1,hw,hv,hs]; rfl
end Go.Eng
/-! processes: when they are right,on both sides -/
namespace Go.Eng
noncomputable section
open Go.Proofs Go.Proofs.Tryz
set_option maxHeartbeats 4000000

structure Pr where
 pid : Int
 m : Mc
 box : List ByteArray
 out : List ByteArray
abbrev ePr (p : Pr) : D := .agg [iN p.pid,.rs (5,0) (p.m.pool.map eN),iN p.m.at',iN p.m.s,iN p.m.e,iN p.m.d,iN p.m.state,iN p.m.ask,iN p.m.arg,.rs (1,0) (p.box.map D.str),.rs (1,0) (p.out.map D.str)]
abbrev oPr (p : Pr) : D := .agg [iN p.pid,.os (5,0) (p.m.pool.map eN),iN p.m.at',iN p.m.s,iN p.m.e,iN p.m.d,iN p.m.state,iN p.m.ask,iN p.m.arg,.os (1,0) (p.box.map D.str),.os (1,0) (p.out.map D.str)]
structure FitsR (p : Pr) : Prop where
 pool : Aw p.m.pool
 plen : p.m.pool.length <= 4294967296
 box : ∀ x ∈ p.box,x.size < 4294967296
 blen : p.box.length < 4294967296
 out : ∀ x ∈ p.out,x.size < 4294967296
 olen : p.out.length < 4294967296
def JR (s : ByteArray) : Bool := (KE s.data.toList).isSome
def Nq (c : Cd) (p : Pr) : Bool := wi p.pid 1 1000000000 && (RV c p.m && (decide (p.box.length <= 20) && (decide (p.out.length <= 40) && (p.box.all JR && p.out.all fun s => decide (s.size <= 400)))))
theorem Q8 (r : Option (List Nd)) : ∃ (q : List Nd) (n : Int),UQ r = .tup [oP q,iN n,.bool r.isSome] := by
 cases r with
 | none => exact ⟨[],0,rfl⟩
 | some q => exact ⟨q,_,rfl⟩
theorem VO {s : ByteArray} (hs : s.size < 4294967296) : ∃ (q : List Nd) (n : Int),V 146 [.str s] = some (.tup [oP q,iN n,.bool (JR s)],[]) := by
 have h := Kn (s := s.data.toList) (by rw [Fk]; exact hs)
 rw [Jv] at h
 obtain ⟨q,n,e⟩ := Q8 (KE s.data.toList)
 rw [e] at h
 exact ⟨q,n,h⟩
theorem VT {s : ByteArray} (hs : s.size < 4294967296) : ∃ (q : List Nd) (n : Int),V 144 [.str s] = some (.tup [oP q,iN n,.bool (JR s)],[]) := by
 have h := Kr (s := s.data.toList) (by rw [Fk]; exact hs)
 rw [Jv] at h
 obtain ⟨q,n,e⟩ := Q8 (KE s.data.toList)
 rw [e] at h
 exact ⟨q,n,h⟩
theorem TW {s : ByteArray} (hs : s.size < 4294967296) : V 82 [.str s] = some (.bool (JR s),[]) := by
 obtain ⟨q,n,h⟩ := VO hs
 rw [MR]; simp (disch := first | omega | (simp only [lnA,lnC,lnN,lnM,yO,wY]; omega)) only [↓wZ,xi,↓yo,↓yb,↓ye,↓xI,↓yg,↓xu,↓xw,h]
theorem PZ {l : List ByteArray} (hl : l.length < 4294967296) (hs : ∀ x ∈ l,x.size < 4294967296) : ∀ (k i : Nat),i + k = l.length -> zW (l.map D.str) (ni (l.map D.str).length) (i : Int) = some (iN (dQ (fun s => !JR s) l i),[])
 | 0,i,hi => by
  rw [Bv,w8 (by omega)]
  simp (disch := first | omega | (simp only [lnA,lnC,lnN,lnM,yO,wY]; omega)) only [↓xJ,yI,lnM,wY]
 | k + 1,i,hi => by
  obtain ⟨x,hx⟩ := xx (l := l) (i := i) (by omega)
  have ih := PZ hl hs k (i + 1) (by omega)
  rw [lnM] at ih
  have hd : V 81 [.str x] = some (.bool (!JR x),[]) := by
   rw [Lz]; simp (disch := first | omega | (simp only [lnA,lnC,lnN,lnM,yO,wY]; omega)) only [↓wZ,xi,↓yo,↓xI,TW (hs x (List.mem_of_getElem? hx))]
  have hw : w6 ((i : Int) + 1) = ((i + 1 : Nat) : Int) := yM (by omega)
  rw [Bv]
  cases h : (!JR x) with
  | true => rw [w9 hx h]; rw [h] at hd; simp (disch := first | omega | (simp only [lnA,lnC,lnN,lnM,yO,wY]; omega)) only [↓wZ,xi,↓yk,↓xP,↓yo,↓xI,↓yi,↓xX,yJ,Bool.and_true,lnM,wY,↓xW hx,hd]
  | false => rw [h] at hd; rw [wJ hx h,<- ih]; simp (disch := first | omega | (simp only [lnA,lnC,lnN,lnM,yO,wY]; omega)) only [↓wZ,xi,↓yk,↓xJ,↓xP,↓yo,↓xI,↓yi,↓xX,yJ,Bool.and_true,lnM,wY,↓xW hx,hd,hw]
theorem QX {l : List ByteArray} (hl : l.length < 4294967296) : ∀ (k i : Nat),i + k = l.length -> zX (l.map D.str) (ni (l.map D.str).length) (i : Int) = some (iN (dQ (fun s => decide ((s.size : Int) > 400)) l i),[])
 | 0,i,hi => by
  rw [Bw,w8 (by omega)]
  simp (disch := first | omega | (simp only [lnA,lnC,lnN,lnM,yO,wY]; omega)) only [↓xJ,yI,lnM,wY]
 | k + 1,i,hi => by
  obtain ⟨x,hx⟩ := xx (l := l) (i := i) (by omega)
  have ih := QX hl k (i + 1) (by omega)
  rw [lnM] at ih
  have hd : V 83 [.str x] = some (.bool (decide ((x.size : Int) > 400)),[]) := by rw [LD]
  have hw : w6 ((i : Int) + 1) = ((i + 1 : Nat) : Int) := yM (by omega)
  rw [Bw]
  cases h : decide ((x.size : Int) > 400) with
  | true => rw [w9 (p := fun s : ByteArray => decide ((s.size : Int) > 400)) hx h]; rw [h] at hd; simp (disch := first | omega | (simp only [lnA,lnC,lnN,lnM,yO,wY]; omega)) only [↓wZ,xi,↓yk,↓xP,↓yo,↓xI,↓yi,↓xX,yJ,Bool.and_true,lnM,wY,↓xW hx,hd]
  | false => rw [h] at hd; rw [wJ (p := fun s : ByteArray => decide ((s.size : Int) > 400)) hx h,<- ih]; simp (disch := first | omega | (simp only [lnA,lnC,lnN,lnM,yO,wY]; omega)) only [↓wZ,xi,↓yk,↓xJ,↓xP,↓yo,↓xI,↓yi,↓xX,yJ,Bool.and_true,lnM,wY,↓xW hx,hd,hw]
theorem SP {α : Type} (l : List α) (p : α -> Bool) : (!(l.any fun x => !p x)) = l.all p := by
 rw [List.any_eq_not_all_not,Bool.not_not]; simp
theorem IK {c : Cd} (hf : FitsC c) {p : Pr} (hp : FitsR p) : V 26 [eCd c,ePr p] = some (.bool (Nq c p),[]) := by
 have hm := Kj hf hp.pool (by have := hp.plen; omega)
 have b0 := hp.blen
 have o0 := hp.olen
 have hb : V 80 [.rs (1,0) (p.box.map D.str),.fn 81 []] = some (.bool (p.box.any fun s => !JR s),[]) := by
  have h := PZ hp.blen hp.box p.box.length 0 (Nat.zero_add _)
  rw [wK,Int.natCast_zero] at h
  have h2 : V 145 [.rs (1,0) (p.box.map D.str),.fn 81 []] = some (iN (ya (fun s => !JR s) p.box),[]) := by
   rw [IY]; exact h
  rw [Gh,zQ h2,NV]
 have ho : V 80 [.rs (1,0) (p.out.map D.str),.fn 83 []] = some (.bool (p.out.any fun s => decide ((s.size : Int) > 400)),[]) := by
  have h := QX hp.olen p.out.length 0 (Nat.zero_add _)
  rw [wK,Int.natCast_zero] at h
  have h2 : V 145 [.rs (1,0) (p.out.map D.str),.fn 83 []] = some (iN (ya (fun s : ByteArray => decide ((s.size : Int) > 400)) p.out),[]) := by
   rw [IZ]; exact h
  rw [Gi,zQ h2,NV]
 have e1 : (!(p.box.any fun s => !JR s)) = p.box.all JR := SP _ _
 have e2 : (!(p.out.any fun s => decide ((s.size : Int) > 400))) = p.out.all fun s => decide (s.size <= 400) := by
  rw [<- SP]
  congr 2
  funext s
  by_cases h : s.size <= 400
  ·rw [decide_eq_false (by omega),decide_eq_true h]; rfl
  ·rw [decide_eq_true (by omega),decide_eq_false h]; rfl
 rw [OC]
 unfold Nq
 cases a1 : wi p.pid 1 1000000000 with
 | false => simp (disch := first | omega | (simp only [lnA,lnC,lnN,lnM,yO,wY]; omega)) only [↓wZ,xi,↓yk,↓yo,↓xI,Bool.false_and,Bool.not_false,y0,a1]
 | true =>
 cases a2 : RV c p.m with
 | false => rw [a2] at hm; simp (disch := first | omega | (simp only [lnA,lnC,lnN,lnM,yO,wY]; omega)) only [↓wZ,xi,↓yk,↓xJ,↓yo,↓xI,Bool.false_and,Bool.and_false,Bool.not_true,Bool.not_false,y0,a1,hm]
 | true =>
 rw [a2] at hm
 by_cases a3 : p.box.length <= 20
 ·by_cases a4 : p.out.length <= 40
  ·simp (disch := first | omega | (simp only [lnA,lnC,lnN,lnM,yO,wY]; omega)) only [↓wZ,xi,↓xJ,↓yo,↓xI,yJ,yI,Bool.true_and,Bool.not_true,lnM,wY,y0,a1,hm,hb,ho,e1,e2]
   cases p.box.all JR <;> rfl
  ·simp (disch := first | omega | (simp only [lnA,lnC,lnN,lnM,yO,wY]; omega)) only [↓wZ,xi,↓yk,↓xJ,↓yo,↓xI,yJ,yI,Bool.false_and,Bool.and_false,Bool.not_true,lnM,wY,y0,a1,hm]
 ·simp (disch := first | omega | (simp only [lnA,lnC,lnN,lnM,yO,wY]; omega)) only [↓wZ,xi,↓yk,↓xJ,↓yo,↓xI,yJ,yI,Bool.false_and,Bool.and_false,Bool.not_true,lnM,wY,y0,a1,hm]
theorem IE {l : List ByteArray} (hl : l.length < 4294967296) (a1 : Int) (a2 : List D) (a3 a4 a5 a6 a7 a8 a9 : Int) (a10 : List D) : ∀ (k i : Nat),i + k = l.length -> Bm (i : Int) a1 a2 a3 a4 a5 a6 a7 a8 a9 a10 (l.map D.str) = some (.bool ((l.drop i).all fun s => decide (s.size <= 400)),[])
 | 0,i,hi => by
  rw [Dl,List.drop_of_length_le (by omega)]
  simp (disch := first | omega | (simp only [lnA,lnC,lnN,lnM,yO,wY]; omega)) only [↓xJ,yI,lnM,wY]
  rfl
 | k + 1,i,hi => by
  obtain ⟨x,hx⟩ := xx (l := l) (i := i) (by omega)
  have ih := IE hl a1 a2 a3 a4 a5 a6 a7 a8 a9 a10 k (i + 1) (by omega)
  have hw : w6 ((i : Int) + 1) = ((i + 1 : Nat) : Int) := yM (by omega)
  rw [Dl,tU hx,List.all_cons]
  by_cases h : x.size <= 400
  ·simp (disch := first | omega | (simp only [lnA,lnC,lnN,lnM,yO,wY]; omega)) only [↓yk,↓xJ,↓xP,↓yi,↓xX,yJ,yI,Bool.true_and,Bool.and_true,lnM,wY,↓xW hx,hw,ih]
  ·simp (disch := first | omega | (simp only [lnA,lnC,lnN,lnM,yO,wY]; omega)) only [↓yk,↓xP,↓yi,↓xX,yJ,yI,Bool.and_true,Bool.false_and,lnM,wY,↓xW hx]
theorem Iz {l o : List ByteArray} (hl : l.length < 4294967296) (hs : ∀ x ∈ l,x.size < 4294967296) (ho : o.length < 4294967296) (a1 : Int) (a2 : List D) (a3 a4 a5 a6 a7 a8 a9 : Int) : ∀ (k i : Nat),i + k = l.length -> BW (i : Int) a1 a2 a3 a4 a5 a6 a7 a8 a9 (l.map D.str) (o.map D.str) = some (.bool ((l.drop i).all JR && o.all fun s => decide (s.size <= 400)),[])
 | 0,i,hi => by
  have h := IE ho a1 a2 a3 a4 a5 a6 a7 a8 a9 (l.map D.str) o.length 0 (Nat.zero_add _)
  rw [Int.natCast_zero,List.drop_zero] at h
  rw [DZ,List.drop_of_length_le (by omega)]
  simp (disch := first | omega | (simp only [lnA,lnC,lnN,lnM,yO,wY]; omega)) only [↓xJ,yI,lnM,wY,h]
  rfl
 | k + 1,i,hi => by
  obtain ⟨x,hx⟩ := xx (l := l) (i := i) (by omega)
  have ih := Iz hl hs ho a1 a2 a3 a4 a5 a6 a7 a8 a9 k (i + 1) (by omega)
  have hw : w6 ((i : Int) + 1) = ((i + 1 : Nat) : Int) := yM (by omega)
  obtain ⟨q,n,hr⟩ := VT (hs x (List.mem_of_getElem? hx))
  rw [DZ,tU hx,List.all_cons]
  cases h : JR x with
  | true => rw [h] at hr; simp (disch := first | omega | (simp only [lnA,lnC,lnN,lnM,yO,wY]; omega)) only [↓wZ,xi,↓yk,↓xJ,↓xP,↓yo,↓yb,↓ye,↓xI,↓yi,↓yg,↓xu,↓xw,↓xX,yJ,Bool.true_and,Bool.and_true,Bool.not_true,lnM,wY,↓xW hx,hr,hw,ih]
  | false => rw [h] at hr; simp (disch := first | omega | (simp only [lnA,lnC,lnN,lnM,yO,wY]; omega)) only [↓wZ,xi,↓yk,↓xP,↓yo,↓yb,↓ye,↓xI,↓yi,↓yg,↓xu,↓xw,↓xX,yJ,Bool.and_true,Bool.false_and,Bool.not_false,lnM,wY,↓xW hx,hr]
theorem Nw {c : Cd} (hf : FitsC c) {p : Pr} (hp : FitsR p) : V 79 [eCd c,ePr p] = some (.bool (Nq c p),[]) := by
 have hm := Ko hf hp.pool (by have := hp.plen; omega)
 have b0 := hp.blen
 have o0 := hp.olen
 have h := Iz hp.blen hp.box hp.olen p.pid (p.m.pool.map eN) p.m.at' p.m.s p.m.e p.m.d p.m.state p.m.ask p.m.arg p.box.length 0 (Nat.zero_add _)
 rw [Int.natCast_zero,List.drop_zero] at h
 rw [OX]
 unfold Nq
 cases a1 : wi p.pid 1 1000000000 with
 | false => simp (disch := first | omega | (simp only [lnA,lnC,lnN,lnM,yO,wY]; omega)) only [↓wZ,xi,↓yk,↓yo,↓xI,Bool.false_and,Bool.not_false,zI,a1]
 | true =>
 cases a2 : RV c p.m with
 | false => rw [a2] at hm; simp (disch := first | omega | (simp only [lnA,lnC,lnN,lnM,yO,wY]; omega)) only [↓wZ,xi,↓yk,↓xJ,↓yo,↓xI,Bool.false_and,Bool.and_false,Bool.not_true,Bool.not_false,zI,a1,hm]
 | true =>
 rw [a2] at hm
 by_cases a3 : p.box.length <= 20
 ·by_cases a4 : p.out.length <= 40
  ·simp (disch := first | omega | (simp only [lnA,lnC,lnN,lnM,yO,wY]; omega)) only [↓wZ,xi,↓xJ,↓yo,↓xI,yJ,yI,Bool.true_and,Bool.not_true,lnM,wY,zI,a1,hm,h]
  ·simp (disch := first | omega | (simp only [lnA,lnC,lnN,lnM,yO,wY]; omega)) only [↓wZ,xi,↓yk,↓xJ,↓yo,↓xI,yJ,yI,Bool.false_and,Bool.and_false,Bool.not_true,lnM,wY,zI,a1,hm]
 ·simp (disch := first | omega | (simp only [lnA,lnC,lnN,lnM,yO,wY]; omega)) only [↓wZ,xi,↓yk,↓xJ,↓yo,↓xI,yJ,yI,Bool.false_and,Bool.and_false,Bool.not_true,lnM,wY,zI,a1,hm]
end
end Go.Eng
/-! new machines and processes,on both sides -/
namespace Go.Eng
noncomputable section
open Go.Proofs Go.Proofs.Tryz
set_option maxHeartbeats 4000000

theorem Mf {α : Type} (p : α -> Bool) (l : List α) : -1 <= ya p l /\ ya p l < l.length := by
 unfold ya
 cases h : l.findIdx? p with
 | none => simp only; omega
 | some k =>
  rw [List.findIdx?_eq_some_iff_getElem] at h
  obtain ⟨hk,_⟩ := h
  simp only; omega
def zMc : Mc := ⟨[],0,0,0,0,0,0,0⟩
def SK (d : Df) : Mc := ⟨[⟨1,0,⟨#[]⟩,0,0⟩,⟨5,0,⟨#[]⟩,0,0⟩],d.at',0,1,0,0,0,0⟩
def Nn (c : Cd) (s : ByteArray) : Option Mc := if AU c = true /\ 0 <= Gb c s then
  (match c.defs[(Gb c s).toNat]? with | some d => if d.args = 0 then some (SK d) else none | none => none) else none
def TC (r : Option Mc) : D := match r with | some m => .tup [oMc m,.bool true] | none => .tup [oMc zMc,.bool false]
theorem JN {c : Cd} (hf : FitsC c) (s : ByteArray) : V 77 [eCd c,.str s] = some (TC (Nn c s),[]) := by
 have hd := JM hf s
 have hc := IG hf
 have hb := Mf (fun d : Df => kc d.name s) c.defs
 rw [JZ]
 unfold Nn
 cases e1 : AU c with
 | false => rw [e1] at hc; rw [if_neg (by simp)]; simp (disch := first | omega | (simp only [lnA,lnC,lnN,lnM,yO,wY]; omega)) only [↓wZ,xi,↓yk,↓yo,↓ye,↓xI,Bool.not_false,hd,hc]; rfl
 | true =>
  rw [e1] at hc
  by_cases e2 : 0 <= Gb c s
  ·rw [if_pos ⟨rfl,e2⟩]
   obtain ⟨k,hk⟩ := Int.eq_ofNat_of_zero_le e2
   have hkl : k < c.defs.length := by unfold Gb at hk; omega
   obtain ⟨d,hx⟩ := xx hkl
   rw [hk] at hd ⊢
   rw [Int.toNat_natCast,hx]
   by_cases e3 : d.args = 0
   ·simp only [e3,if_true]
    simp (disch := first | omega | (simp only [lnA,lnC,lnN,lnM,yO,wY]; omega)) only [↓wZ,xi,↓xJ,↓xP,↓yo,↓ye,↓xI,↓xu,↓xA,↓xB,xA,xB,↓xX,yJ,yI,yG,Bool.and_true,Bool.not_true,lnM,wY,hd,hc,↓xW hx]
    rfl
   ·simp only [e3,if_false]
    simp (disch := first | omega | (simp only [lnA,lnC,lnN,lnM,yO,wY]; omega)) only [↓wZ,xi,↓yk,↓xJ,↓xP,↓yo,↓ye,↓xI,↓xu,↓xB,xB,↓xX,yJ,yI,yH,Bool.and_true,Bool.not_true,lnM,wY,hd,hc,↓xW hx]
    rfl
  ·rw [if_neg (fun h => e2 h.2)]
   simp (disch := first | omega | (simp only [lnA,lnC,lnN,lnM,yO,wY]; omega)) only [↓wZ,xi,↓yk,↓xJ,↓yo,↓ye,↓xI,yJ,Bool.not_true,hd,hc]
   rfl
theorem JQ {c : Cd} (hf : FitsC c) (s : ByteArray) : V 78 [eCd c,.str s] = some (TC (Nn c s),[]) := by
 have hd := JP hf s
 have hc := EZ hf
 have hb := Mf (fun d : Df => kc d.name s) c.defs
 rw [J4]
 unfold Nn
 cases e1 : AU c with
 | false => rw [e1] at hc; rw [if_neg (by simp)]; simp (disch := first | omega | (simp only [lnA,lnC,lnN,lnM,yO,wY]; omega)) only [↓wZ,xi,↓yk,↓yo,↓ye,↓xI,Bool.not_false,hd,hc]; rfl
 | true =>
  rw [e1] at hc
  by_cases e2 : 0 <= Gb c s
  ·rw [if_pos ⟨rfl,e2⟩]
   obtain ⟨k,hk⟩ := Int.eq_ofNat_of_zero_le e2
   have hkl : k < c.defs.length := by unfold Gb at hk; omega
   obtain ⟨d,hx⟩ := xx hkl
   rw [hk] at hd ⊢
   rw [Int.toNat_natCast,hx]
   by_cases e3 : d.args = 0
   ·simp only [e3,if_true]
    simp (disch := first | omega | (simp only [lnA,lnC,lnN,lnM,yO,wY]; omega)) only [↓wZ,xi,↓xJ,↓xP,↓yo,↓ye,↓xI,↓xu,↓xA,↓xB,xA,xB,↓xX,yJ,yI,yG,Bool.and_true,Bool.not_true,lnM,wY,hd,hc,↓xW hx]
    rfl
   ·simp only [e3,if_false]
    simp (disch := first | omega | (simp only [lnA,lnC,lnN,lnM,yO,wY]; omega)) only [↓wZ,xi,↓yk,↓xJ,↓xP,↓yo,↓ye,↓xI,↓xu,↓xB,xB,↓xX,yJ,yI,yH,Bool.and_true,Bool.not_true,lnM,wY,hd,hc,↓xW hx]
    rfl
  ·rw [if_neg (fun h => e2 h.2)]
   simp (disch := first | omega | (simp only [lnA,lnC,lnN,lnM,yO,wY]; omega)) only [↓wZ,xi,↓yk,↓xJ,↓yo,↓ye,↓xI,yJ,Bool.not_true,hd,hc]
   rfl
theorem NK {c : Cd} {s : ByteArray} {m : Mc} (h : Nn c s = some m) : ∃ d ∈ c.defs,d.args = 0 /\ m = SK d /\ AU c = true := by
 unfold Nn at h
 split at h
 ·rename_i hc
  split at h
  ·rename_i d hx
   split at h
   ·rename_i ha
    cases h
    exact ⟨d,List.mem_of_getElem? hx,ha,rfl,hc.1⟩
   ·cases h
  ·cases h
 ·cases h
def zPr : Pr := ⟨0,zMc,[],[]⟩
def TE (c : Cd) (s : ByteArray) (pid : Int) : Option Pr := match Nn c s with
 | some m => if Nq c ⟨pid,m,[],[]⟩ = true then some ⟨pid,m,[],[]⟩ else none
 | none => none
def VZ (r : Option Pr) : D := match r with | some p => .tup [oPr p,.bool true] | none => .tup [oPr zPr,.bool false]
theorem Ki {c : Cd} {s : ByteArray} {m : Mc} (h : Nn c s = some m) (pid : Int) : FitsR ⟨pid,m,[],[]⟩ := by
 obtain ⟨d,_,_,rfl,_⟩ := NK h
 refine ⟨?_,?_,fun x hx => by simp at hx,by simp,fun x hx => by simp at hx,by simp⟩
 ·intro x hx
  simp only [SK,List.mem_cons,List.not_mem_nil,or_false] at hx
  rcases hx with rfl | rfl <;> decide
 ·simp [SK]
theorem Mw {c : Cd} (hf : FitsC c) (s : ByteArray) (pid : Int) : V 24 [eCd c,.str s,iN pid] = some (VZ (TE c s pid),[]) := by
 have h1 := JN hf s
 rw [MJ]
 unfold TE
 cases e : Nn c s with
 | none => rw [e,TC] at h1; rw [Gd h1]; rfl
 | some m =>
  rw [e,TC] at h1
  have h2 : V 26 [eCd c,.agg [iN pid,.rs (5,0) (m.pool.map eN),iN m.at',iN m.s,iN m.e,iN m.d,iN m.state,iN m.ask,iN m.arg,.rs (1,0) [],.rs (1,0) []]] = some (.bool (Nq c ⟨pid,m,[],[]⟩),[]) := IK hf (Ki e pid)
  simp only
  rw [Gd h1,Bool.not_true,xJ,Kv h2]
  cases e2 : Nq c ⟨pid,m,[],[]⟩ with
  | false => rw [if_neg (by simp)]; rfl
  | true => rw [if_pos rfl]; rfl
theorem MG {c : Cd} (hf : FitsC c) (s : ByteArray) (pid : Int) : V 25 [eCd c,.str s,iN pid] = some (VZ (TE c s pid),[]) := by
 have h1 := JQ hf s
 rw [MY]
 unfold TE
 cases e : Nn c s with
 | none => rw [e,TC] at h1; rw [Ge h1]; rfl
 | some m =>
  rw [e,TC] at h1
  have h2 : V 79 [eCd c,.agg [iN pid,.rs (5,0) (m.pool.map eN),iN m.at',iN m.s,iN m.e,iN m.d,iN m.state,iN m.ask,iN m.arg,.rs (1,0) [],.rs (1,0) []]] = some (.bool (Nq c ⟨pid,m,[],[]⟩),[]) := Nw hf (Ki e pid)
  simp only
  rw [Ge h1,Bool.not_true,xJ,QT h2]
  cases e2 : Nq c ⟨pid,m,[],[]⟩ with
  | false => rw [if_neg (by simp)]; rfl
  | true => rw [if_pos rfl]; rfl
end
end Go.Eng
/-! a process of drawn code: the law -/
namespace Go.Eng
open Go.Proofs Go.Proofs.Tryz
set_option maxHeartbeats 4000000

theorem Rv {b : List Int} (hb : b.length < 4611686018427387904) : ∃ (x : Cd) (s : ByteArray) (n : Int),V 23 [.rs (1,0) (b.map eB)] = some (.tup [oCd x,.str s,iN n],[]) /\ SomeC x := by
 obtain ⟨c,e,hc⟩ := Vv hb
 have h : Got (fun v l => l = [] /\ ∃ (x : Cd) (s : ByteArray) (n : Int),v = .tup [oCd x,.str s,iN n] /\ SomeC x) (V 23 [.rs (1,0) (b.map eB)]) := by
  rw [Jp]
  refine Lg e ?_
  rw [yf,yb,yh,yb,ye,yb,ye,yo,yo]
  refine yQ (Tm hb hc) fun v c1 a1 ⟨x,e,hx⟩ => ?_
  subst e
  rw [xu,yb,yg,yb,yg,yb,yg,yo,yb,yf,yb,yh,yb,ye,yb,ye,yo,yo]
  refine yQ (Dc hb a1 [⟨#[109,97,105,110]⟩,⟨#[109,97,105,110]⟩,⟨#[102]⟩,⟨#[122,122]⟩] (by simp)) fun v c2 a2 ⟨s,e,hs⟩ => ?_
  subst e
  rw [yi,yb,yf,yb,yh,yb,ye,yb,ye,yo,yo]
  refine yQ (y9 hb a2 _) fun v c3 a3 ⟨n,e,n0,n1⟩ => ?_
  subst e
  rw [ye,yb,yf,yb,yh,yb,ye,yb,ye,yo,yo]
  exact Uz ⟨rfl,x,s,n,rfl,hx⟩
 obtain ⟨v,l,e,rfl,x,s,n,rfl,hx⟩ := h
 exact ⟨x,s,n,e,hx⟩
theorem Nk {b : List Int} (hb : b.length < 4611686018427387904) : V 5 [.rs (1,0) (b.map eB)] = some (.bool true,[]) := by
 obtain ⟨x,s,n,hd,hx⟩ := Rv hb
 have k1 := Mw hx.fits s n
 have k2 := MG hx.fits s n
 rw [KR,UI (WO b)]
 cases hbig : decide ((b.length : Int) > 1048576) with
 | true => rfl
 | false =>
  cases hn : TE x s n with
  | none =>
   rw [hn] at k1 k2
   rw [xJ,Fw hd,JA k1,JD k2]
   rfl
  | some p =>
   have hp : Nq x p = true /\ p.pid = n /\ p.box = [] /\ p.out = [] /\ p.m.state = 0 /\ FitsR p := by
    unfold TE at hn
    split at hn
    ·rename_i m hm
     split at hn
     ·rename_i ho
      cases hn
      obtain ⟨d,_,_,e,_⟩ := NK hm
      exact ⟨ho,rfl,rfl,rfl,by rw [e]; rfl,Ki hm n⟩
     ·cases hn
    ·cases hn
   obtain ⟨h1,h2,h3,h4,h5,h6⟩ := hp
   have k3 := IK hx.fits h6
   rw [hn] at k1 k2
   obtain ⟨pid,m,box,out⟩ := p
   simp only at h2 h3 h4 h5
   subst h2 h3 h4
   rw [h1] at k3
   have t : (true == true) = true := rfl
   rw [xJ,Fw hd,JA k1,JD k2,Bool.not_true,xb (by rfl),xJ,yk,xK (yF rfl),xK (by rfl),Kv k3,yk,yF h5]
theorem Lt (xs : List D) (h : All2 (fun t x => ShapeV Tryz.prog t x) Tryz.f5.params.toList xs) : V 5 xs = some (.bool true,[]) := by
 rw [Tryz.params5] at h
 cases h with | cons h1 h =>
 cases h
 obtain ⟨b,rfl,hb⟩ := Uj h1
 exact Nk hb
end Go.Eng
