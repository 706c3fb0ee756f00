/- the program and the reference on plain data, part 1 -/
import Derived.Test.YthjogpibccodkaaEngC
import Derived.Test.YthjogpibccodkaaProg
/-! bytes,texts,digits: plain facts -/
namespace Go.Eng
noncomputable section

def mk (l : List UInt8) : ByteArray := ⟨l.toArray⟩
theorem xj (l : List UInt8) : (mk l).size = l.length := by simp [mk,ByteArray.size]
theorem yB (a b : List UInt8) : mk a ++ mk b = mk (a ++ b) := by
 apply ByteArray.ext
 simp [mk]
theorem Cz (l : List UInt8) : (mk l).data.toList = l := by simp [mk]
theorem Gy (s : ByteArray) : mk s.data.toList = s := by
 apply ByteArray.ext
 simp [mk]
theorem Ic {a b : List UInt8} : mk a = mk b ↔ a = b := by
 constructor
 ·intro h
  have := congrArg (fun s => s.data.toList) h
  simpa [Cz] using this
 ·rintro rfl; rfl
theorem Cn (s : ByteArray) : ∀ (k i : Nat) (acc : List UInt8),k = s.size - i -> ByteArray.toList.loop s i acc = acc.reverse ++ s.data.toList.drop i
 | 0,i,acc,h => by
  unfold ByteArray.toList.loop
  have hs : s.data.toList.length = s.size := by rw [Array.length_toList]; rfl
  rw [if_neg (by omega),List.drop_of_length_le (by omega),List.append_nil]
 | k + 1,i,acc,h => by
  unfold ByteArray.toList.loop
  have hs : s.data.toList.length = s.size := by rw [Array.length_toList]; rfl
  rw [if_pos (by omega),Cn s k (i + 1) _ (by omega)]
  have hi : i < s.data.toList.length := by omega
  rw [List.drop_eq_getElem_cons hi]
  have hi' : i < s.data.size := by simpa using hi
  have hg : s.get! i = s.data.toList[i] := by
   show s.data[i]! = _
   rw [getElem!_pos s.data i hi',Array.getElem_toList]
  rw [hg]
  simp
theorem Cm (s : ByteArray) : s.toList = s.data.toList := by
 have := Cn s s.size 0 [] (by omega)
 rw [List.reverse_nil,List.nil_append,List.drop_zero] at this
 exact this
theorem yQ (x y : ByteArray) : jt x y = decide (x = y) := by
 unfold jt
 rw [Cm,Cm]
 by_cases h : x = y
 ·subst h; simp
 ·have h2 : ¬ x.data.toList = y.data.toList := by
   intro e; apply h; rw [<- Gy x,<- Gy y,e]
  rw [decide_eq_false h]
  exact beq_eq_false_iff_ne.2 h2
theorem zm (a b : List UInt8) : jt (mk a) (mk b) = decide (a = b) := by
 rw [yQ]; simp only [Ic]
abbrev eU (b : UInt8) : D := .int .u8 (b.toNat : Int)
theorem zy {l : List UInt8} {i : Nat} {x : UInt8} (h : l[i]? = some x) : bt (mk l) (i : Int) = (x.toNat : Int) := by
 simp only [bt,Cz,Int.toNat_natCast]
 rw [List.getD_eq_getElem?_getD,h]; rfl
theorem yx (l : List UInt8) (a b : Nat) : (mk l).extract a b = mk ((l.drop a).take (b - a)) := by
 apply ByteArray.ext
 simp [mk,ByteArray.data_extract,List.extract_eq_take_drop]
theorem GF (l : List UInt8) : gn (mk l) = l.map eU := by simp [gn,Cz]
theorem Gf {R : Type} (l : List UInt8) (K : ByteArray -> Option R) : fW (l.map eU) K = K (mk l) := by
 have hm : ∀ (f : D -> Option UInt8),(∀ x : UInt8,f (eU x) = some x) -> ∀ l : List UInt8,(l.map eU).mapM f = some l := by
  intro f hf l
  induction l with
  | nil => rfl
  | cons x l ih => rw [List.map_cons,List.mapM_cons,hf,ih]; rfl
 unfold fW
 rw [hm _ (fun x => by simp [])]; rfl
theorem Gg {R : Type} (n : Int) (K : ByteArray -> Option R) : fW [.int .u8 n] K = K (mk [UInt8.ofNat n.toNat]) := rfl
theorem GE {n : Int} (h0 : 0 <= n) (h1 : n < 256) : IntKind.wrap .u8 n = n := by
 simp [IntKind.wrap,IntKind.bits,IntKind.signed]; omega

def yN (n : Nat) : List UInt8 := if n < 10 then [UInt8.ofNat (48 + n)] else yN (n / 10) ++ [UInt8.ofNat (48 + n % 10)]
termination_by n
def yr (n : Int) : List UInt8 := if n < 0 then 45 :: yN n.natAbs else yN n.natAbs
theorem xC {n : Nat} (h : n < 10) : yN n = [UInt8.ofNat (48 + n)] := by rw [yN,if_pos h]
theorem yO {n : Nat} (h : ¬ n < 10) : yN n = yN (n / 10) ++ [UInt8.ofNat (48 + n % 10)] := by rw [yN,if_neg h]
theorem Bf : ∀ (k n : Nat),n < 10 ^ (k + 1) -> (yN n).length <= k + 1
 | 0,n,h => by rw [xC (by simpa using h)]; simp
 | k + 1,n,h => by
  by_cases h10 : n < 10
  ·rw [xC h10]; simp
  ·rw [yO h10]
   have := Bf k (n / 10) (by rw [Nat.pow_succ] at h; omega)
   simp; omega
theorem CK (n : Nat) : 0 < (yN n).length := by
 by_cases h10 : n < 10
 ·rw [xC h10]; simp
 ·rw [yO h10]; simp
theorem D7 {n : Int} (h0 : 0 <= n) (h1 : n < 10) : Utf8.encode (48 + n) = mk [UInt8.ofNat (48 + n).toNat] := by
 obtain ⟨k,rfl⟩ := Int.eq_ofNat_of_zero_le h0
 have : k = 0 \/ k = 1 \/ k = 2 \/ k = 3 \/ k = 4 \/ k = 5 \/ k = 6 \/ k = 7 \/ k = 8 \/ k = 9 := by omega
 rcases this with rfl | rfl | rfl | rfl | rfl | rfl | rfl | rfl | rfl | rfl <;> rfl
end
end Go.Eng
/-! the functions as the interpreter has them: loop heads -/
namespace Go.Eng
noncomputable section
open Go.Proofs Go.Proofs.Try
set_option maxRecDepth 100000
def cf0:Cfg:={ ext:=fun _=>none,own:=fun f=>match f with | 5=>false | 11=>false | _=>true,mode:=fun f i=>match f,i with  | _,_=>.ro }
abbrev iN:Int->D:=D.int IntKind.i64
abbrev tk1 {R:Type} (x:D) (K:Int->Int->ByteArray->Int->Int->Option R):Option R:=asAgg x fun l=>unc l fun x0 l0=>asI .i64 x0 fun v0=>unc l0 fun x1 l1=>asI .i64 x1 fun v1=>unc l1 fun x2 l2=>asS x2 fun v2=>unc l2 fun x3 l3=>asI .i64 x3 fun v3=>unc l3 fun x4 l4=>asI .i64 x4 fun v4=>unn l4 (K v0 v1 v2 v3 v4)
@[congr] theorem JD {R:Type} {x y:D} (h:x = y) (K:_):tk1 (R:=R) x K = tk1 y K:=by rw [h]
abbrev tk2 {R:Type} (x:D) (K:List D->Int->Int->Option R):Option R:=mj x fun l=>unc l fun x0 l0=>jE (1,0) x0 fun v0=>unc l0 fun x1 l1=>asI .i64 x1 fun v1=>unc l1 fun x2 l2=>asI .i64 x2 fun v2=>unn l2 (K v0 v1 v2)
@[congr] theorem JE {R:Type} {x y:D} (h:x = y) (K:_):tk2 (R:=R) x K = tk2 y K:=by rw [h]
abbrev tk3 {R:Type} (x:D) (K:List D->List D->List D->Option R):Option R:=mj x fun l=>unc l fun x0 l0=>im (5,0) x0 fun v0=>unc l0 fun x1 l1=>im (1,2) x1 fun v1=>unc l1 fun x2 l2=>im (1,0) x2 fun v2=>unn l2 (K v0 v1 v2)
@[congr] theorem JF {R:Type} {x y:D} (h:x = y) (K:_):tk3 (R:=R) x K = tk3 y K:=by rw [h]
abbrev tk4 {R:Type} (x:D) (K:Int->Bool->Option R):Option R:=gZ x fun l=>unc l fun x0 l0=>asI .i64 x0 fun v0=>unc l0 fun x1 l1=>asB x1 fun v1=>unn l1 (K v0 v1)
@[congr] theorem JG {R:Type} {x y:D} (h:x = y) (K:_):tk4 (R:=R) x K = tk4 y K:=by rw [h]
abbrev tk5 {R:Type} (x:D) (K:Int->Int->Option R):Option R:=gZ x fun l=>unc l fun x0 l0=>asI .i64 x0 fun v0=>unc l0 fun x1 l1=>asI .i64 x1 fun v1=>unn l1 (K v0 v1)
@[congr] theorem JH {R:Type} {x y:D} (h:x = y) (K:_):tk5 (R:=R) x K = tk5 y K:=by rw [h]
abbrev tk6 {R:Type} (x:D) (K:List D->List D->Option R):Option R:=mj x fun l=>unc l fun x0 l0=>jE (5,0) x0 fun v0=>unc l0 fun x1 l1=>im (1,0) x1 fun v1=>unn l1 (K v0 v1)
@[congr] theorem JJ {R:Type} {x y:D} (h:x = y) (K:_):tk6 (R:=R) x K = tk6 y K:=by rw [h]
abbrev uu : A := .undef
abbrev V:=Vn Try.prog cf0
abbrev R:=Rn Try.prog cf0
def yb (p0:ByteArray) (p1 p2:Int) (p3 p4:List D):Option Ret:=R 3 Try.f3 [] (wU Try.f3 11) ⟨[uu,uu,uu,uu,.d (.str p0),.ref 0 0 0,.asl 1 none,uu,.d (iN p1),uu,uu,uu,uu,.d (iN p2),uu,uu,uu,uu,uu,uu,uu,uu,uu,uu,uu,uu,uu,uu,uu,uu,uu,uu,uu,uu,uu,uu,uu,uu,uu,uu,uu,uu,uu,uu,uu,uu,uu,uu,uu,uu,uu,uu,uu,uu,uu,uu,uu,uu,uu,uu,uu,uu,uu,uu,uu,uu,uu,uu,uu,uu,uu,uu,uu,uu,uu,uu,uu,uu,uu,uu,uu,uu,uu,uu,uu,uu,uu,uu,uu,uu,uu,uu,uu,uu,uu,uu,uu,uu,uu,uu,uu,uu,uu,uu,uu,uu,uu,uu,uu,uu,uu,uu,uu,uu,uu,uu,uu,uu,uu,uu,uu,uu,uu,uu,uu,uu,uu,uu,uu,uu,uu,uu,uu],[(0,some (.var [.asl 2 none])),(1,some (.arr (1,0) p3)),(2,some (.arr (5,0) p4))],3,[]⟩
def xt (p0:ByteArray) (p1:List D) (p2 p3:Int) (p4:List D):Option Ret:=R 5 Try.f5 [] (wU Try.f5 10) ⟨[uu,uu,.ref 0 0 0,uu,.ref 1 0 0,.ref 2 0 0,.d (.str p0),uu,uu,uu,uu,uu,uu,uu,uu,uu,uu,uu,uu,uu,uu,uu,uu,uu,uu,uu,uu,uu,uu,uu,uu,uu,uu,uu,uu,uu,uu,uu,uu,uu,uu,uu,uu,uu],[(0,some (.var [.d .nl])),(1,some (.var [.d (.rs (1,0) p1),.d (iN p2),.d (iN p3)])),(2,some (.var [.asl 3 none])),(3,some (.arr (5,0) p4))],4,[]⟩
def xp (p0:ByteArray) (p1:Int) (p2 p3 p4 p5:List D):Option Ret:=R 7 Try.f7 [] (wU Try.f7 9) ⟨[uu,.d (.str p0),.ref 0 0 0,uu,.ref 1 0 0,uu,uu,uu,.asl 2 none,.ref 3 0 0,.asl 4 none,.d (iN p1),uu,uu,uu,uu,uu,uu,uu,uu,uu,uu,uu,uu,uu,uu,uu,uu,uu,uu,uu,uu,uu,uu,uu,uu,uu,uu,uu,uu,uu,uu,uu,uu,uu,uu,uu,uu,uu,uu,uu,uu,uu,uu,uu,uu,uu,uu,uu,uu,uu,uu,uu,uu,uu,uu,uu,uu,uu,uu,uu,uu,uu,uu,uu,uu,uu,uu,uu,uu,uu,uu,uu,uu,uu,uu,uu,uu,uu,uu,uu,uu,uu,uu,uu,uu,uu,uu,uu,uu,uu,uu,uu,uu,uu,uu,uu,uu,uu,uu,uu,uu,uu,uu,uu,uu,uu,uu,uu,uu,uu,uu,uu,uu,uu,uu,uu,uu,uu,uu,uu,uu,uu,uu,uu,uu,uu,uu,uu,uu,uu,uu,uu,uu,uu,uu,uu,uu,uu,uu,uu,uu,uu,uu,uu,uu,uu,uu,uu,uu,uu,uu,uu,uu,uu,uu,uu,uu,uu,uu],[(0,some (.var [.d (.rs (5,0) p2)])),(1,some (.var [.d .nl])),(2,some (.arr (1,0) p3)),(3,some (.var [.asl 5 none])),(4,some (.arr (2,2) p4)),(5,some (.arr (5,0) p5))],6,[]⟩
def xo (p0:ByteArray) (p1:Nat) (p2:Int) (p3 p4 p5 p6:List D):Option Ret:=R 7 Try.f7 [] (wU Try.f7 9) ⟨[uu,.d (.str p0),.ref 0 0 0,uu,.ref 1 0 0,uu,uu,uu,.asl 2 none,.ref 3 0 0,.asl 4 (some (0,p1)),.d (iN p2),uu,uu,uu,uu,uu,uu,uu,uu,uu,uu,uu,uu,uu,uu,uu,uu,uu,uu,uu,uu,uu,uu,uu,uu,uu,uu,uu,uu,uu,uu,uu,uu,uu,uu,uu,uu,uu,uu,uu,uu,uu,uu,uu,uu,uu,uu,uu,uu,uu,uu,uu,uu,uu,uu,uu,uu,uu,uu,uu,uu,uu,uu,uu,uu,uu,uu,uu,uu,uu,uu,uu,uu,uu,uu,uu,uu,uu,uu,uu,uu,uu,uu,uu,uu,uu,uu,uu,uu,uu,uu,uu,uu,uu,uu,uu,uu,uu,uu,uu,uu,uu,uu,uu,uu,uu,uu,uu,uu,uu,uu,uu,uu,uu,uu,uu,uu,uu,uu,uu,uu,uu,uu,uu,uu,uu,uu,uu,uu,uu,uu,uu,uu,uu,uu,uu,uu,uu,uu,uu,uu,uu,uu,uu,uu,uu,uu,uu,uu,uu,uu,uu,uu,uu,uu,uu,uu,uu,uu],[(0,some (.var [.d (.rs (5,0) p3)])),(1,some (.var [.d .nl])),(2,some (.arr (1,0) p4)),(3,some (.var [.asl 5 none])),(4,some (.arr (2,2) p5)),(5,some (.arr (5,0) p6))],6,[]⟩
def yf (p0:ByteArray) (p1 p2 p3:Int) (p4 p5 p6 p7:List D):Option Ret:=R 7 Try.f7 [] (wU Try.f7 27) ⟨[uu,.d (.str p0),.ref 0 0 0,uu,.ref 1 0 0,uu,uu,uu,.asl 2 none,.ref 3 0 0,.asl 4 none,.d (iN p1),.d (iN p2),uu,uu,.d (iN p3),uu,uu,uu,uu,uu,uu,uu,uu,uu,uu,uu,uu,uu,uu,uu,uu,uu,uu,uu,uu,uu,uu,uu,uu,uu,uu,uu,uu,uu,uu,uu,uu,uu,uu,uu,uu,uu,uu,uu,uu,uu,uu,uu,uu,uu,uu,uu,uu,uu,uu,uu,uu,uu,uu,uu,uu,uu,uu,uu,uu,uu,uu,uu,uu,uu,uu,uu,uu,uu,uu,uu,uu,uu,uu,uu,uu,uu,uu,uu,uu,uu,uu,uu,uu,uu,uu,uu,uu,uu,uu,uu,uu,uu,uu,uu,uu,uu,uu,uu,uu,uu,uu,uu,uu,uu,uu,uu,uu,uu,uu,uu,uu,uu,uu,uu,uu,uu,uu,uu,uu,uu,uu,uu,uu,uu,uu,uu,uu,uu,uu,uu,uu,uu,uu,uu,uu,uu,uu,uu,uu,uu,uu,uu,uu,uu,uu,uu,uu,uu,uu,uu,uu,uu,uu],[(0,some (.var [.d (.rs (5,0) p4)])),(1,some (.var [.d .nl])),(2,some (.arr (1,0) p5)),(3,some (.var [.asl 5 none])),(4,some (.arr (2,2) p6)),(5,some (.arr (5,0) p7))],6,[]⟩
def xL (p0:ByteArray) (p1:Nat) (p2 p3 p4:Int) (p5 p6 p7 p8:List D):Option Ret:=R 7 Try.f7 [] (wU Try.f7 27) ⟨[uu,.d (.str p0),.ref 0 0 0,uu,.ref 1 0 0,uu,uu,uu,.asl 2 none,.ref 3 0 0,.asl 4 (some (0,p1)),.d (iN p2),.d (iN p3),uu,uu,.d (iN p4),uu,uu,uu,uu,uu,uu,uu,uu,uu,uu,uu,uu,uu,uu,uu,uu,uu,uu,uu,uu,uu,uu,uu,uu,uu,uu,uu,uu,uu,uu,uu,uu,uu,uu,uu,uu,uu,uu,uu,uu,uu,uu,uu,uu,uu,uu,uu,uu,uu,uu,uu,uu,uu,uu,uu,uu,uu,uu,uu,uu,uu,uu,uu,uu,uu,uu,uu,uu,uu,uu,uu,uu,uu,uu,uu,uu,uu,uu,uu,uu,uu,uu,uu,uu,uu,uu,uu,uu,uu,uu,uu,uu,uu,uu,uu,uu,uu,uu,uu,uu,uu,uu,uu,uu,uu,uu,uu,uu,uu,uu,uu,uu,uu,uu,uu,uu,uu,uu,uu,uu,uu,uu,uu,uu,uu,uu,uu,uu,uu,uu,uu,uu,uu,uu,uu,uu,uu,uu,uu,uu,uu,uu,uu,uu,uu,uu,uu,uu,uu,uu,uu,uu,uu,uu],[(0,some (.var [.d (.rs (5,0) p5)])),(1,some (.var [.d .nl])),(2,some (.arr (1,0) p6)),(3,some (.var [.asl 5 none])),(4,some (.arr (2,2) p7)),(5,some (.arr (5,0) p8))],6,[]⟩
def yK (p0:List D) (p1 p2:Int) (p3:List D):Option Ret:=R 10 Try.f10 [] (wU Try.f10 2) ⟨[uu,.ref 0 0 0,uu,uu,uu,uu,.d (.rs (5,0) p0),.d (iN p1),.d (iN p2),uu,uu,uu,uu,uu,uu,uu,uu,uu,uu,uu,uu,uu],[(0,some (.var [.d (.rs (5,0) p3)]))],1,[]⟩
def yW (p0:List D) (p1 p2:Int):Option Ret:=R 11 Try.f11 [] (wU Try.f11 3) ⟨[.d (.rs (1,0) p0),uu,uu,.d (iN p1),.d (iN p2),uu,uu,uu,uu,uu,uu,uu,uu,uu,uu,uu,uu,uu,uu,uu,uu,uu,uu,uu,uu,uu,uu,uu,uu,uu,uu,uu],[],0,[]⟩
def xR (p0:Int) (p1:List D) (p2 p3:Int) (p4:List D):Option Ret:=R 12 Try.f12 [35] (wU Try.f12 8) ⟨[uu,uu,.ref 0 0 0,.ref 1 0 0,uu,.d (iN p0),uu,uu,uu,uu,uu,uu,uu,uu,uu,uu,uu,uu,uu,uu,uu,uu,uu,uu,uu,uu,uu,uu,uu,uu,uu,uu,uu,uu,uu,uu,uu,uu,uu,uu,uu,uu,uu,uu,uu,uu,uu,uu,uu,uu,uu,uu],[(0,some (.var [.d .nl])),(1,some (.var [.asl 3 none])),(2,some (.var [.d (.rs (1,0) p1),.d (iN p2),.d (iN p3)])),(3,some (.arr (5,0) p4))],4,[.ref 2 0 0]⟩
def xT (p0:Int) (p1:ByteArray) (p2 p3:Int) (p4:List D) (p5 p6:Int):Option Ret:=R 13 Try.f13 [35] (wU Try.f13 6) ⟨[.ref 0 0 0,.d (iN p0),uu,uu,uu,.d (.str p1),.d (iN p2),.d (iN p3),uu,uu,uu,uu,uu,uu,uu,uu,uu,uu,uu,uu,uu,uu,uu,uu,uu,uu,uu,uu,uu,uu,uu,uu,uu,uu,uu,uu,uu,uu,uu],[(0,some (.var [.d (.rs (1,0) p4),.d (iN p5),.d (iN p6)]))],1,[.ref 0 0 0]⟩
def xl (p0:ByteArray) (p1:Int) (p2 p3 p4:List D):Option Ret:=R 18 Try.f18 [((Go.Func.params Try.f18).toList.getD 0 0)] (wU Try.f18 2) ⟨[.ref 0 0 0,.d (.str p0),uu,uu,uu,uu,.d (iN p1),uu,uu,uu,uu,uu,uu,uu,uu,uu,uu,uu,uu,uu,uu,uu,uu,uu,uu,uu,uu,uu,uu,uu,uu,uu,uu,uu,uu,uu,uu,uu,uu,uu,uu,uu,uu,uu,uu,uu,uu,uu,uu,uu,uu,uu,uu,uu,uu,uu,uu,uu,uu,uu,uu,uu,uu,uu,uu,uu,uu,uu,uu,uu,uu,uu,uu,uu,uu,uu,uu,uu,uu,uu,uu,uu,uu,uu,uu,uu,uu,uu,uu,uu,uu,uu,uu,uu,uu,uu,uu,uu,uu,uu,uu,uu,uu,uu,uu,uu,uu,uu,uu,uu,uu,uu,uu],[(0,some (.var [.asl 1 none,.asl 2 none,.asl 3 none])),(1,some (.arr (5,0) p2)),(2,some (.arr (1,2) p3)),(3,some (.arr (1,0) p4))],4,[.ref 0 0 0]⟩
def xI (p0:ByteArray) (p1 p2:Int) (p3 p4 p5:List D):Option Ret:=R 18 Try.f18 [((Go.Func.params Try.f18).toList.getD 0 0)] (wU Try.f18 5) ⟨[.ref 0 0 0,.d (.str p0),uu,uu,uu,uu,.d (iN p1),uu,.d (iN p2),uu,uu,uu,uu,uu,uu,uu,uu,uu,uu,uu,uu,uu,uu,uu,uu,uu,uu,uu,uu,uu,uu,uu,uu,uu,uu,uu,uu,uu,uu,uu,uu,uu,uu,uu,uu,uu,uu,uu,uu,uu,uu,uu,uu,uu,uu,uu,uu,uu,uu,uu,uu,uu,uu,uu,uu,uu,uu,uu,uu,uu,uu,uu,uu,uu,uu,uu,uu,uu,uu,uu,uu,uu,uu,uu,uu,uu,uu,uu,uu,uu,uu,uu,uu,uu,uu,uu,uu,uu,uu,uu,uu,uu,uu,uu,uu,uu,uu,uu,uu,uu,uu,uu,uu],[(0,some (.var [.asl 1 none,.asl 2 none,.asl 3 none])),(1,some (.arr (5,0) p3)),(2,some (.arr (1,2) p4)),(3,some (.arr (1,0) p5))],4,[.ref 0 0 0]⟩
def yL (p0:Int) (p1:List D):Option Ret:=R 19 Try.f19 [] (wU Try.f19 2) ⟨[uu,.ref 0 0 0,uu,.d (iN p0),uu,uu,uu,uu,uu,uu,uu,uu,uu,uu,uu,uu,uu,uu,uu,uu,uu,uu,uu],[(0,some (.var [.d (.rs (5,0) p1)]))],1,[]⟩
def yM (p0:List D) (p1 p2:Int) (p3:List D):Option Ret:=R 21 Try.f21 [((Go.Func.params Try.f21).toList.getD 0 0)] (wU Try.f21 3) ⟨[.ref 0 0 0,.d (.rs (1,0) p0),uu,uu,uu,.d (iN p1),.d (iN p2),uu,uu,uu,uu,uu,uu,uu,uu,uu,uu,uu,uu,uu,uu,uu,uu,uu,uu,uu],[(0,some (.var [.asl 1 none])),(1,some (.arr (5,0) p3))],2,[.ref 0 0 0]⟩
def xm (p0:List D) (p1 p2:Int) (p3 p4:List D):Option Ret:=R 28 Try.f28 [] (wU Try.f28 4) ⟨[uu,uu,uu,.mp 0,.asl 1 none,uu,uu,uu,uu,uu,uu,uu,.d (.rs (5,0) p0),.d (iN p1),.d (iN p2),uu,uu,uu,uu,uu,uu,uu,uu,uu,uu,uu,uu,uu,uu,uu,uu,uu,uu,uu,uu,uu,uu,uu,uu,uu,uu,uu,uu,uu,uu,uu,uu,uu,uu,uu,uu,uu,uu,uu,uu,uu,uu,uu,uu,uu,uu,uu],[(0,some (.mp [iN 0,iN 0,.str ⟨#[]⟩,iN 0,iN 0] p3)),(1,some (.arr (1,0) p4))],2,[]⟩
def y3 (p0 p1:Int) (p2:List D) (p3 p4:Int):Option Ret:=R 30 Try.f30 [35] (wU Try.f30 4) ⟨[.ref 0 0 0,uu,.ref 1 0 0,.ref 2 0 0,.d (iN p0),.d (iN p1),uu,uu,uu,uu,uu,uu,uu,uu,uu,uu,uu,uu,uu],[(0,some (.var [.d (.rs (1,0) p2),.d (iN p3),.d (iN p4)])),(1,some (.var [.d .nl])),(2,some (.var [.d .nl]))],3,[.ref 0 0 0]⟩
def xW (p0 p1:Int) (p2:List D) (p3 p4:Int) (p5:List D):Option Ret:=R 30 Try.f30 [35] (wU Try.f30 4) ⟨[.ref 0 0 0,uu,.ref 1 0 0,.ref 2 0 0,.d (iN p0),.d (iN p1),uu,uu,uu,uu,uu,uu,uu,uu,uu,uu,uu,uu,uu],[(0,some (.var [.d (.rs (1,0) p2),.d (iN p3),.d (iN p4)])),(1,some (.var [.d .nl])),(2,some (.var [.asl 3 none])),(3,some (.arr (5,0) p5))],4,[.ref 0 0 0]⟩
def xP (p0 p1:ByteArray) (p2 p3:Int):Option Ret:=R 44 Try.f44 [] (wU Try.f44 8) ⟨[.d (.str p0),uu,uu,uu,.d (.str p1),.d (iN p2),.d (iN p3),uu,uu,uu,uu,uu,uu,uu,uu,uu,uu,uu,uu,uu,uu,uu,uu,uu,uu,uu,uu,uu,uu,uu,uu,uu,uu,uu,uu,uu,uu,uu,uu,uu,uu,uu,uu,uu,uu,uu,uu,uu,uu,uu,uu,uu,uu,uu,uu,uu,uu,uu,uu,uu,uu],[],0,[]⟩
def yv (p0:ByteArray) (p1:Int):Option Ret:=R 45 Try.f45 [] (wU Try.f45 2) ⟨[.d (.str p0),uu,uu,.d (iN p1),uu,uu,uu,uu,uu,uu,uu,uu,uu,uu,uu,uu,uu,uu],[],0,[]⟩
def xG (p0:Int) (p1:Bool) (p2 p3:List D):Option Ret:=R 48 Try.f48 [((Go.Func.params Try.f48).toList.getD 0 0)] (wU Try.f48 1) ⟨[.ref 0 0 0,.d (iN p0),uu,uu,.d (.bool p1),uu,uu,uu,uu,uu,uu,uu,uu,uu,uu,uu,uu,uu,uu,uu,uu,uu,uu,uu,uu,uu,uu,uu,uu,uu,uu,uu,uu,uu,uu,uu,uu,uu,uu,uu,uu,uu,uu,uu,uu,uu,uu,uu,uu,uu,uu,uu,uu,uu,uu,uu,uu,uu,uu,uu,uu,uu,uu,uu,uu],[(0,some (.var [.d (.rs (5,0) p2),.asl 1 none])),(1,some (.arr (1,0) p3))],2,[.ref 0 0 0]⟩
def yu (p0:ByteArray) (p1 p2:Int):Option Ret:=R 50 Try.f50 [] (wU Try.f50 4) ⟨[.d (.str p0),uu,uu,uu,uu,uu,uu,uu,uu,.d (iN p1),.d (iN p2),uu,uu,uu,uu,uu,uu,uu,uu],[],0,[]⟩
def yq (p0:List D) (p1 p2:Int) (p3:List D):Option Ret:=R 53 Try.f53 [((Go.Func.params Try.f53).toList.getD 0 0)] (wU Try.f53 3) ⟨[.ref 0 0 0,.d (.rs (1,0) p0),uu,uu,uu,.d (iN p1),.d (iN p2),uu,uu,uu,uu,uu,uu,uu,uu,uu,uu,uu,uu,uu,uu,uu,uu,uu,uu],[(0,some (.var [.asl 1 none])),(1,some (.arr (5,0) p3))],2,[.ref 0 0 0]⟩
def ya (p0:ByteArray) (p1 p2 p3:Int):Option Ret:=R 56 Try.f56 [] (wU Try.f56 5) ⟨[.d (.str p0),uu,uu,uu,uu,uu,.d (iN p1),uu,uu,uu,uu,uu,uu,uu,uu,uu,uu,uu,uu,uu,uu,uu,uu,uu,uu,uu,uu,.d (iN p2),.d (iN p3),uu,uu,uu,uu,uu,uu,uu,uu,uu,uu,uu,uu,uu,uu,uu,uu,uu],[],0,[]⟩
def yz (p0:Int) (p1:ByteArray):Option Ret:=R 58 Try.f58 [] (wU Try.f58 6) ⟨[.d (iN p0),uu,uu,.d (.str p1),uu,uu,uu,uu,uu,uu,uu,uu,uu,uu,uu,uu,uu,uu,uu,uu,uu,uu,uu,uu,uu],[],0,[]⟩
def xF (p0:List D) (p1 p2 p3:Int):Option Ret:=R 62 Try.f62 [] (wU Try.f62 2) ⟨[.d (.rs (1,0) p0),.d (.int .u8 p1),uu,uu,uu,uu,uu,.d (iN p2),.d (iN p3),uu,uu,uu,uu,uu,uu,uu,uu,uu,uu],[],0,[]⟩
end
end Go.Eng
/-! the functions as the interpreter has them -/
namespace Go.Eng
open Go.Proofs Go.Proofs.Try
set_option maxRecDepth 100000
theorem yD (p o:List D) (v:Int):V 26 [.op [.rs (5,0) p,.os (1,0) o],iN v] =
 grd (decide (0 <= v) && decide (v < ni p.length)) (cD p v.toNat fun a=>
 tk1 a fun b c d _ _=>(ib V 27 [.op [.rs (5,0) p,.os (1,0) o]] fun e f=>
 asB e fun g=>unc f fun h i=>tk6 h fun j k=>(unn i (br g
 (some ((.tup []),[.op [.rs (5,0) j,.os (1,0) k]]))
 (
 br (b == 1)
 (
 ib V 47 [.op [.rs (5,0) j,.os (1,0) k],.str ({ data:=#[40] })] fun l m=>
 gZ l fun n=>unn n (unc m fun q r=>tk6 q fun s t=>(unn r (ib V 48 [.op [.rs (5,0) s,.os (1,0) t],iN v] fun u w=>
 gZ u fun x=>unn x (unc w fun y z=>tk6 y fun A B=>(unn z (ib V 47 [.op [.rs (5,0) A,.os (1,0) B],.str ({ data:=#[41] })] fun C E=>
 gZ C fun F=>unn F (unc E fun G H=>tk6 G fun I J=>(unn H (some ((.tup []),[.op [.rs (5,0) I,.os (1,0) J]])))))))))))
 (
 br (b == 5)
 (
 ib V 47 [.op [.rs (5,0) j,.os (1,0) k],.str ({ data:=#[40] })] fun l m=>
 gZ l fun n=>unn n (unc m fun q r=>tk6 q fun s t=>(unn r (ib V 48 [.op [.rs (5,0) s,.os (1,0) t],iN v] fun u w=>
 gZ u fun x=>unn x (unc w fun y z=>tk6 y fun A B=>(unn z (ib V 47 [.op [.rs (5,0) A,.os (1,0) B],.str ({ data:=#[41] })] fun C E=>
 gZ C fun F=>unn F (unc E fun G H=>tk6 G fun I J=>(unn H (some ((.tup []),[.op [.rs (5,0) I,.os (1,0) J]])))))))))))
 (
 br (b == 2)
 (
 br (c == 1)
 (
 ib V 47 [.op [.rs (5,0) j,.os (1,0) k],.str ({ data:=#[35,116] })] fun l m=>
 gZ l fun n=>unn n (unc m fun q r=>tk6 q fun s t=>(unn r (some ((.tup []),[.op [.rs (5,0) s,.os (1,0) t]])))))
 (
 br (b == 2)
 (
 ib V 47 [.op [.rs (5,0) j,.os (1,0) k],.str ({ data:=#[35,102] })] fun l m=>
 gZ l fun n=>unn n (unc m fun q r=>tk6 q fun s t=>(unn r (some ((.tup []),[.op [.rs (5,0) s,.os (1,0) t]])))))
 (
 br (b == 3)
 (
 ib V 49 [iN c] fun l m=>
 asS l fun n=>unn m (ib V 47 [.op [.rs (5,0) j,.os (1,0) k],.str n] fun q r=>
 gZ q fun s=>unn s (unc r fun t u=>tk6 t fun w x=>(unn u (some ((.tup []),[.op [.rs (5,0) w,.os (1,0) x]]))))))
 (
 br (b == 4)
 (
 ib V 47 [.op [.rs (5,0) j,.os (1,0) k],.str d] fun l m=>
 gZ l fun n=>unn n (unc m fun q r=>tk6 q fun s t=>(unn r (some ((.tup []),[.op [.rs (5,0) s,.os (1,0) t]])))))
 (
 grd (decide (0 <= w6 (b - 6)) && decide (w6 (b - 6) < ni 4)) (cD ([D.str { data:=#[35,102,117,110] },D.str { data:=#[35,107,111,110,116] },D.str { data:=#[35,112,114,105,109] },D.str { data:=#[35,112,105,100] }]) (Int.toNat (w6 (b - 6))) fun l=>
 asS l fun m=>ib V 49 [iN c] fun n q=>
 asS n fun r=>unn q (grd (decide (ni (ByteArray.size m + ByteArray.size r) <= LIM)) (ib V 47 [.op [.rs (5,0) j,.os (1,0) k],.str (m++r)] fun s t=>
 gZ s fun u=>unn u (unc t fun w x=>tk6 w fun y z=>(unn x (some ((.tup []),[.op [.rs (5,0) y,.os (1,0) z]]))))))))))))
 (
 br (b == 2)
 (
 ib V 47 [.op [.rs (5,0) j,.os (1,0) k],.str ({ data:=#[35,102] })] fun l m=>
 gZ l fun n=>unn n (unc m fun q r=>tk6 q fun s t=>(unn r (some ((.tup []),[.op [.rs (5,0) s,.os (1,0) t]])))))
 (
 br (b == 3)
 (
 ib V 49 [iN c] fun l m=>
 asS l fun n=>unn m (ib V 47 [.op [.rs (5,0) j,.os (1,0) k],.str n] fun q r=>
 gZ q fun s=>unn s (unc r fun t u=>tk6 t fun w x=>(unn u (some ((.tup []),[.op [.rs (5,0) w,.os (1,0) x]]))))))
 (
 br (b == 4)
 (
 ib V 47 [.op [.rs (5,0) j,.os (1,0) k],.str d] fun l m=>
 gZ l fun n=>unn n (unc m fun q r=>tk6 q fun s t=>(unn r (some ((.tup []),[.op [.rs (5,0) s,.os (1,0) t]])))))
 (
 grd (decide (0 <= w6 (b - 6)) && decide (w6 (b - 6) < ni 4)) (cD ([D.str { data:=#[35,102,117,110] },D.str { data:=#[35,107,111,110,116] },D.str { data:=#[35,112,114,105,109] },D.str { data:=#[35,112,105,100] }]) (Int.toNat (w6 (b - 6))) fun l=>
 asS l fun m=>ib V 49 [iN c] fun n q=>
 asS n fun r=>unn q (grd (decide (ni (ByteArray.size m + ByteArray.size r) <= LIM)) (ib V 47 [.op [.rs (5,0) j,.os (1,0) k],.str (m++r)] fun s t=>
 gZ s fun u=>unn u (unc t fun w x=>tk6 w fun y z=>(unn x (some ((.tup []),[.op [.rs (5,0) y,.os (1,0) z]])))))))))))))))))):=by
 exact (w8 Try.func26 rfl _).trans (by kernel_rfl)
theorem BD (p0:ByteArray) (p1 p2 p3:Int) (p4 p5 p6 p7:List D):yf p0 p1 p2 p3 p4 p5 p6 p7 =
 br (decide (p1 < ni (ByteArray.size p0)))
 (
 grd (decide (0 <= p1) && decide (p1 < ni (ByteArray.size p0))) (ib V 22 [.int .u8 (bt p0 p1)] fun a b=>
 asB a fun c=>unn b (br c
 (yf p0 (w6 (p1 + 1)) p2 p3 p4 p5 p6 p7)
 (
 grd (cG (ByteArray.size p0) (some p3) (some p1)) (ib V 23 [(.str (ByteArray.extract p0 p3.toNat p1.toNat))] fun d e=>
 gZ d fun f=>unc f fun g h=>tk1 g fun i j k l m=>(unc h fun n o=>asB n fun p=>unn o (unn e (br (!p)
 (
 ib V 20 [.agg [.rs (5,0) p4]] fun q r=>
 asAgg q fun s=>unc s fun t u=>im (5,0) t fun v=>unn u (unn r (some ((.tup [.agg [.os (5,0) v],.os (1,0) p5,iN (3),iN p3]),[]))))
 (
 grd (decide (0 <= p2) && decide (p2 < ni p6.length)) (cD p6 p2.toNat fun q=>
 asAgg q fun r=>cD r 1 fun s=>
 im (1,0) s fun t=>asAgg q fun u=>ib V 24 [.op [.os (5,0) p7],.agg [iN i,iN j,.str k,iN l,iN m]] fun v w=>
 asI .i64 v fun x=>unc w fun y z=>mj y fun A=>unc A fun B C=>im (5,0) B fun E=>unn C (unn z (grd (decide (ni (List.length (t++[iN x])) <= LIM)) (nam (t++[iN x]) fun F=>
 grd (decide (0 <= p2) && decide (p2 < ni (List.length (List.set p6 p2.toNat (D.agg (List.take 1 u++[D.dead]++List.drop 2 u)))))) (cD (List.set p6 p2.toNat (D.agg (List.take 1 u++[D.dead]++List.drop 2 u))) p2.toNat fun G=>
 asAgg G fun H=>nam (List.set (List.set p6 p2.toNat (D.agg (List.take 1 u++[D.dead]++List.drop 2 u))) p2.toNat
 (D.agg
 (List.take 1 H ++
 [D.os
 (TypeInfo.size (Tables.types (Program.toTables Try.prog))[3],
 match pH Try.prog (3) with
 | true=>0
 | false=>1)
 F] ++
 List.drop 2 H))) fun I=>
 xp p0 p1 p4 p5 I E))))))))))))))
 (
 grd (cG (ByteArray.size p0) (some p3) (some p1)) (ib V 23 [(.str (ByteArray.extract p0 p3.toNat p1.toNat))] fun a b=>
 gZ a fun c=>unc c fun d e=>tk1 d fun f g h i j=>(unc e fun k l=>asB k fun m=>unn l (unn b (br (!m)
 (
 ib V 20 [.agg [.rs (5,0) p4]] fun n o=>
 asAgg n fun p=>unc p fun q r=>im (5,0) q fun s=>unn r (unn o (some ((.tup [.agg [.os (5,0) s],.os (1,0) p5,iN (3),iN p3]),[]))))
 (
 grd (decide (0 <= p2) && decide (p2 < ni p6.length)) (cD p6 p2.toNat fun n=>
 asAgg n fun o=>cD o 1 fun p=>
 im (1,0) p fun q=>asAgg n fun r=>ib V 24 [.op [.os (5,0) p7],.agg [iN f,iN g,.str h,iN i,iN j]] fun s t=>
 asI .i64 s fun u=>unc t fun v w=>mj v fun x=>unc x fun y z=>im (5,0) y fun A=>unn z (unn w (grd (decide (ni (List.length (q++[iN u])) <= LIM)) (nam (q++[iN u]) fun B=>
 grd (decide (0 <= p2) && decide (p2 < ni (List.length (List.set p6 p2.toNat (D.agg (List.take 1 r++[D.dead]++List.drop 2 r)))))) (cD (List.set p6 p2.toNat (D.agg (List.take 1 r++[D.dead]++List.drop 2 r))) p2.toNat fun C=>
 asAgg C fun E=>nam (List.set (List.set p6 p2.toNat (D.agg (List.take 1 r++[D.dead]++List.drop 2 r))) p2.toNat
 (D.agg
 (List.take 1 E ++
 [D.os
 (TypeInfo.size (Tables.types (Program.toTables Try.prog))[3],
 match pH Try.prog (3) with
 | true=>0
 | false=>1)
 B] ++
 List.drop 2 E))) fun F=>
 xp p0 p1 p4 p5 F A))))))))))):=by
 exact (w7 _ _ _).trans (by kernel_rfl)
theorem D4 (a0_0 a0_1:Int) (a0_2:ByteArray) (a0_3 a0_4 a1_:Int):V 29 [.agg [iN a0_0,iN a0_1,.str a0_2,iN a0_3,iN a0_4],iN a1_] =
 br (a0_0 == 1)
 (
 ib V 46 [iN a0_1,iN (0),iN (0)] fun a b=>
 asB a fun c=>unn b (br c
 (
 br (jt a0_2 { data:=#[] })
 (
 br (a0_3 == 0)
 (some ((.bool (a0_4 == 0)),[]))
 (some ((.bool false),[])))
 (some ((.bool false),[])))
 (some ((.bool false),[]))))
 (
 br (a0_0 == 2)
 (
 ib V 46 [iN a0_1,iN (0),iN (1)] fun a b=>
 asB a fun c=>unn b (br c
 (
 br (jt a0_2 { data:=#[] })
 (
 br (a0_3 == 0)
 (some ((.bool (a0_4 == 0)),[]))
 (some ((.bool false),[])))
 (some ((.bool false),[])))
 (some ((.bool false),[]))))
 (
 br (a0_0 == 3)
 (
 ib V 46 [iN a0_1,iN (-1000000000),iN (1000000000)] fun a b=>
 asB a fun c=>unn b (br c
 (
 br (jt a0_2 { data:=#[] })
 (
 br (a0_3 == 0)
 (some ((.bool (a0_4 == 0)),[]))
 (some ((.bool false),[])))
 (some ((.bool false),[])))
 (some ((.bool false),[]))))
 (
 br (a0_0 == 4)
 (
 ib V 50 [.str a0_2] fun a b=>
 asB a fun c=>unn b (ib V 46 [iN a0_1,iN (0),iN (0)] fun d e=>
 asB d fun f=>unn e (br f
 (
 br c
 (
 br (a0_3 == 0)
 (some ((.bool (a0_4 == 0)),[]))
 (some ((.bool false),[])))
 (some ((.bool false),[])))
 (some ((.bool false),[])))))
 (
 br (a0_0 == 5)
 (
 ib V 46 [iN a0_3,iN (0),(iN (w6 (a1_ - 1)))] fun a b=>
 asB a fun c=>unn b (ib V 46 [iN a0_4,iN (0),(iN (w6 (a1_ - 1)))] fun d e=>
 asB d fun f=>unn e (ib V 46 [iN a0_1,iN (0),iN (0)] fun g h=>
 asB g fun i=>unn h (br i
 (
 br (jt a0_2 { data:=#[] })
 (
 br c
 (some ((.bool f),[]))
 (some ((.bool false),[])))
 (some ((.bool false),[])))
 (some ((.bool false),[]))))))
 (
 br (a0_0 == 6)
 (
 ib V 46 [iN a0_3,iN (0),(iN (w6 (a1_ - 1)))] fun a b=>
 asB a fun c=>unn b (ib V 46 [iN a0_1,iN (0),iN (1000000000)] fun d e=>
 asB d fun f=>unn e (br f
 (
 br (jt a0_2 { data:=#[] })
 (
 br c
 (some ((.bool (a0_4 == 0)),[]))
 (some ((.bool false),[])))
 (some ((.bool false),[])))
 (some ((.bool false),[])))))
 (
 br (a0_0 == 7)
 (
 ib V 46 [iN a0_3,iN (0),(iN (w6 (a1_ - 1)))] fun a b=>
 asB a fun c=>unn b (ib V 46 [iN a0_1,iN (0),iN (0)] fun d e=>
 asB d fun f=>unn e (br f
 (
 br (jt a0_2 { data:=#[] })
 (
 br c
 (some ((.bool (a0_4 == 0)),[]))
 (some ((.bool false),[])))
 (some ((.bool false),[])))
 (some ((.bool false),[])))))
 (
 br (a0_0 == 8)
 (
 ib V 46 [iN a0_1,iN (0),iN (99)] fun a b=>
 asB a fun c=>unn b (br c
 (
 br (jt a0_2 { data:=#[] })
 (
 br (a0_3 == 0)
 (some ((.bool (a0_4 == 0)),[]))
 (some ((.bool false),[])))
 (some ((.bool false),[])))
 (some ((.bool false),[]))))
 (
 br (a0_0 == 9)
 (
 ib V 46 [iN a0_1,iN (0),iN (1000000000)] fun a b=>
 asB a fun c=>unn b (br c
 (
 br (jt a0_2 { data:=#[] })
 (
 br (a0_3 == 0)
 (some ((.bool (a0_4 == 0)),[]))
 (some ((.bool false),[])))
 (some ((.bool false),[])))
 (some ((.bool false),[]))))
 (some ((.bool false),[])))))))))):=by
 exact (w8 Try.func29 rfl _).trans (by kernel_rfl)
theorem BL (a0_0:List D) (a0_1 a0_2:Int):V 59 [.op [.rs (1,0) a0_0,iN a0_1,iN a0_2]] =
 ib V 16 [.op [.rs (1,0) a0_0,iN a0_1,iN a0_2],iN (8)] fun a b=>
 asI .i64 a fun c=>unc b fun d e=>mj d fun f=>unc f fun g h=>jE (1,0) g fun i=>unc h fun j k=>asI .i64 j fun l=>unc k fun m n=>asI .i64 m fun o=>unn n (unn e (br (c == 0)
 (some ((.agg [iN (1),iN (0),.str ({ data:=#[] }),iN (0),iN (0)]),[.op [.rs (1,0) i,iN l,iN o]]))
 (
 br (c == 1)
 (
 ib V 16 [.op [.rs (1,0) i,iN l,iN o],iN (2)] fun p q=>
 asI .i64 p fun r=>unc q fun s t=>mj s fun u=>unc u fun v w=>jE (1,0) v fun x=>unc w fun y z=>asI .i64 y fun A=>unc z fun B C=>asI .i64 B fun E=>unn C (unn t (some ((.agg [iN (2),iN r,.str ({ data:=#[] }),iN (0),iN (0)]),[.op [.rs (1,0) x,iN A,iN E]]))))
 (
 br (c == 2)
 (
 ib V 32 [.op [.rs (1,0) i,iN l,iN o],(.rs (1,0) [.str ({ data:=#[97] }),.str ({ data:=#[98,99] }),.str ({ data:=#[120] }),.str ({ data:=#[102] }),.str ({ data:=#[43] }),.str ({ data:=#[108,105,115,116] })])] fun p q=>
 asS p fun r=>unc q fun s t=>mj s fun u=>unc u fun v w=>jE (1,0) v fun x=>unc w fun y z=>asI .i64 y fun A=>unc z fun B C=>asI .i64 B fun E=>unn C (unn t (some ((.agg [iN (4),iN (0),.str r,iN (0),iN (0)]),[.op [.rs (1,0) x,iN A,iN E]]))))
 (
 br (c == 3)
 (
 ib V 16 [.op [.rs (1,0) i,iN l,iN o],iN (5)] fun p q=>
 asI .i64 p fun r=>unc q fun s t=>mj s fun u=>unc u fun v w=>jE (1,0) v fun x=>unc w fun y z=>asI .i64 y fun A=>unc z fun B C=>asI .i64 B fun E=>unn C (unn t (some ((.agg [iN (9),iN r,.str ({ data:=#[] }),iN (0),iN (0)]),[.op [.rs (1,0) x,iN A,iN E]]))))
 (
 br (c == 4)
 (
 ib V 16 [.op [.rs (1,0) i,iN l,iN o],iN (5)] fun p q=>
 asI .i64 p fun r=>unc q fun s t=>mj s fun u=>unc u fun v w=>jE (1,0) v fun x=>unc w fun y z=>asI .i64 y fun A=>unc z fun B C=>asI .i64 B fun E=>unn C (unn t (some ((.agg [iN (8),iN r,.str ({ data:=#[] }),iN (0),iN (0)]),[.op [.rs (1,0) x,iN A,iN E]]))))
 (
 ib V 16 [.op [.rs (1,0) i,iN l,iN o],iN (12)] fun p q=>
 asI .i64 p fun r=>unc q fun s t=>mj s fun u=>unc u fun v w=>jE (1,0) v fun x=>unc w fun y z=>asI .i64 y fun A=>unc z fun B C=>asI .i64 B fun E=>unn C (unn t (some ((.agg [iN (3),(iN (w6 (r - 3))),.str ({ data:=#[] }),iN (0),iN (0)]),[.op [.rs (1,0) x,iN A,iN E]])))))))))):=by
 exact (w8 Try.func59 rfl _).trans (by kernel_rfl)
theorem zO (a0_0:List D) (a0_1 a0_2 a1_:Int):V 13 [.op [.rs (1,0) a0_0,iN a0_1,iN a0_2],iN a1_] =
 br (decide (a1_ <= 0))
 (
 ib V 32 [.op [.rs (1,0) a0_0,iN a0_1,iN a0_2],(.rs (1,0) [.str ({ data:=#[97] }),.str ({ data:=#[98,99] }),.str ({ data:=#[49,50] }),.str ({ data:=#[45,51] }),.str ({ data:=#[48] }),.str ({ data:=#[35,116] }),.str ({ data:=#[35,102] }),.str ({ data:=#[40,41] }),.str ({ data:=#[43] }),.str ({ data:=#[105,102] }),.str ({ data:=#[120] }),.str ({ data:=#[110,117,108,108,63] }),.str ({ data:=#[49,48,48,48,48,48,48,48,48,48] })])] fun a b=>
 asS a fun c=>unc b fun d e=>mj d fun f=>unc f fun g h=>jE (1,0) g fun i=>unc h fun j k=>asI .i64 j fun l=>unc k fun m n=>asI .i64 m fun o=>unn n (unn e (some ((.str c),[.op [.rs (1,0) i,iN l,iN o]]))))
 (
 ib V 14 [.op [.rs (1,0) a0_0,iN a0_1,iN a0_2],iN (3)] fun a b=>
 asB a fun c=>unc b fun d e=>mj d fun f=>unc f fun g h=>jE (1,0) g fun i=>unc h fun j k=>asI .i64 j fun l=>unc k fun m n=>asI .i64 m fun o=>unn n (unn e (br c
 (
 ib V 32 [.op [.rs (1,0) i,iN l,iN o],(.rs (1,0) [.str ({ data:=#[97] }),.str ({ data:=#[98,99] }),.str ({ data:=#[49,50] }),.str ({ data:=#[45,51] }),.str ({ data:=#[48] }),.str ({ data:=#[35,116] }),.str ({ data:=#[35,102] }),.str ({ data:=#[40,41] }),.str ({ data:=#[43] }),.str ({ data:=#[105,102] }),.str ({ data:=#[120] }),.str ({ data:=#[110,117,108,108,63] }),.str ({ data:=#[49,48,48,48,48,48,48,48,48,48] })])] fun p q=>
 asS p fun r=>unc q fun s t=>mj s fun u=>unc u fun v w=>jE (1,0) v fun x=>unc w fun y z=>asI .i64 y fun A=>unc z fun B C=>asI .i64 B fun E=>unn C (unn t (some ((.str r),[.op [.rs (1,0) x,iN A,iN E]]))))
 (
 ib V 16 [.op [.rs (1,0) i,iN l,iN o],iN (5)] fun p q=>
 asI .i64 p fun r=>unc q fun s t=>mj s fun u=>unc u fun v w=>jE (1,0) v fun x=>unc w fun y z=>asI .i64 y fun A=>unc z fun B C=>asI .i64 B fun E=>unn C (unn t (xT a1_ ({ data:=#[40] }) r (0) x A E)))))):=by
 exact (w8 Try.func13 rfl _).trans (by kernel_rfl)
theorem AH (a0_:Int):V 49 [iN a0_] =
 br (decide (a0_ < 0))
 (
 br (decide (a0_ > -10))
 (
 ib V 49 [(iN (w6 (0 - a0_)))] fun a b=>
 asS a fun c=>unn b (grd (decide (ni (ByteArray.size { data:=#[45] } + ByteArray.size c) <= LIM)) (some ((.str ({ data:=#[45] }++c)),[]))))
 (
 br (decide (a0_ < 0))
 (
 grd (!decide (10 = 0)) (ib V 49 [(iN (w6 (Int.tdiv a0_ (10))))] fun a b=>
 asS a fun c=>unn b (grd (!decide (10 = 0)) (ib V 49 [(iN (w6 (0 - Int.tmod a0_ (10))))] fun d e=>
 asS d fun f=>unn e (grd (decide (ni (ByteArray.size c + ByteArray.size f) <= LIM)) (some ((.str (c++f)),[])))))))
 (
 br (decide (a0_ < 10))
 (some ((.str (Utf8.encode (IntKind.wrap IntKind.i32 (w6 (48 + a0_))))),[]))
 (
 grd (!decide (10 = 0)) (ib V 49 [(iN (w6 (Int.tdiv a0_ (10))))] fun a b=>
 asS a fun c=>unn b (grd (!decide (10 = 0)) (grd (decide (ni (ByteArray.size c + ByteArray.size (Utf8.encode (IntKind.wrap IntKind.i32 (w6 (48 + Int.tmod a0_ (10)))))) <= LIM)) (some ((.str (c++Utf8.encode (IntKind.wrap IntKind.i32 (w6 (48 + Int.tmod a0_ (10)))))),[])))))))))
 (
 br (decide (a0_ < 0))
 (
 grd (!decide (10 = 0)) (ib V 49 [(iN (w6 (Int.tdiv a0_ (10))))] fun a b=>
 asS a fun c=>unn b (grd (!decide (10 = 0)) (ib V 49 [(iN (w6 (0 - Int.tmod a0_ (10))))] fun d e=>
 asS d fun f=>unn e (grd (decide (ni (ByteArray.size c + ByteArray.size f) <= LIM)) (some ((.str (c++f)),[])))))))
 (
 br (decide (a0_ < 10))
 (some ((.str (Utf8.encode (IntKind.wrap IntKind.i32 (w6 (48 + a0_))))),[]))
 (
 grd (!decide (10 = 0)) (ib V 49 [(iN (w6 (Int.tdiv a0_ (10))))] fun a b=>
 asS a fun c=>unn b (grd (!decide (10 = 0)) (grd (decide (ni (ByteArray.size c + ByteArray.size (Utf8.encode (IntKind.wrap IntKind.i32 (w6 (48 + Int.tmod a0_ (10)))))) <= LIM)) (some ((.str (c++Utf8.encode (IntKind.wrap IntKind.i32 (w6 (48 + Int.tmod a0_ (10)))))),[])))))))):=by
 exact (w8 Try.func49 rfl _).trans (by kernel_rfl)
theorem y5 (p o t:List D) :V 36 [.op [.os (5,0) p,.os (1,2) o,.os (1,0) t]] =
 br (w6 (ni o.length - 1) == 0)
 (some ((.bool false),[.op [.os (5,0) p,.os (1,2) o,.os (1,0) t]]))
 (
 grd (decide (0 <= w6 (ni o.length - 1)) && decide (w6 (ni o.length - 1) < ni o.length)) (cD o (Int.toNat (w6 (ni o.length - 1))) fun a=>
 im (1,0) a fun b=>ib V 53 [.op [.os (5,0) p],.rs (1,0) b] fun c d=>
 asI .i64 c fun e=>unc d fun f g=>mj f fun h=>unc h fun i j=>im (5,0) i fun k=>unn j (unn g (grd (cG (List.length (List.set o (Int.toNat (w6 (ni o.length - 1))) D.dead)) none (some (w6 (ni o.length - 1)))) (grd (cG t.length none (some (w6 (ni t.length - 1)))) (ib V 39 [(.op [.os (5,0) k,(.os (1,2) (part (List.set o (Int.toNat (w6 (ni o.length - 1))) D.dead) (some (0,Int.toNat (w6 (ni o.length - 1)))))),(.os (1,0) (part t (some (0,Int.toNat (w6 (ni t.length - 1))))))]),iN e] fun l m=>
 gZ l fun n=>unn n (unc m fun q r=>tk3 q fun s u v=>(unn r (some ((.bool true),[.op [.os (5,0) s,.os (1,2) u,.os (1,0) v]])))))))))):=by
 exact (w8 Try.func36 rfl _).trans (by kernel_rfl)
theorem Bg (p o t:List D) (v:Int):V 39 [.op [.os (5,0) p,.os (1,2) o,.os (1,0) t],iN v] =
 grd (decide (0 <= w6 (ni o.length - 1)) && decide (w6 (ni o.length - 1) < ni o.length)) (cD o (Int.toNat (w6 (ni o.length - 1))) fun a=>
 im (1,0) a fun b=>grd (decide (ni (List.length (b++[iN v])) <= LIM)) (nam (b++[iN v]) fun c=>
 grd (decide (0 <= w6 (ni o.length - 1)) && decide (w6 (ni o.length - 1) < ni (List.length (List.set o (Int.toNat (w6 (ni o.length - 1))) D.dead)))) (cD (List.set o (Int.toNat (w6 (ni o.length - 1))) D.dead) (Int.toNat (w6 (ni o.length - 1))) fun _=>
 nam (List.set (List.set o (Int.toNat (w6 (ni o.length - 1))) D.dead) (Int.toNat (w6 (ni o.length - 1)))
 (D.os
 (TypeInfo.size (Tables.types (Program.toTables Try.prog))[3],
 match pH Try.prog (3) with
 | true=>0
 | false=>1)
 c)) fun d=>
 some ((.tup []),[.op [.os (5,0) p,.os (1,2) d,.os (1,0) t]])))):=by
 exact (w8 Try.func39 rfl _).trans (by kernel_rfl)
theorem BN (a0_:Int):V 42 [.int .u8 a0_] =
 br (decide (a0_ >= 97))
 (
 br (decide (a0_ <= 122))
 (some ((.bool true),[]))
 (
 br (a0_ == 43)
 (some ((.bool true),[]))
 (
 br (a0_ == 45)
 (some ((.bool true),[]))
 (
 br (a0_ == 42)
 (some ((.bool true),[]))
 (
 br (a0_ == 60)
 (some ((.bool true),[]))
 (
 br (a0_ == 61)
 (some ((.bool true),[]))
 (
 br (a0_ == 63)
 (some ((.bool true),[]))
 (
 br (a0_ == 33)
 (some ((.bool true),[]))
 (some ((.bool (a0_ == 47)),[]))))))))))
 (
 br (a0_ == 43)
 (some ((.bool true),[]))
 (
 br (a0_ == 45)
 (some ((.bool true),[]))
 (
 br (a0_ == 42)
 (some ((.bool true),[]))
 (
 br (a0_ == 60)
 (some ((.bool true),[]))
 (
 br (a0_ == 61)
 (some ((.bool true),[]))
 (
 br (a0_ == 63)
 (some ((.bool true),[]))
 (
 br (a0_ == 33)
 (some ((.bool true),[]))
 (some ((.bool (a0_ == 47)),[]))))))))):=by
 exact (w8 Try.func42 rfl _).trans (by kernel_rfl)
theorem Eo (a0_:ByteArray):V 23 [.str a0_] =
 br (jt a0_ { data:=#[35,116] })
 (some ((.tup [.agg [iN (2),iN (1),.str ({ data:=#[] }),iN (0),iN (0)],.bool true]),[]))
 (
 br (jt a0_ { data:=#[35,102] })
 (some ((.tup [.agg [iN (2),iN (0),.str ({ data:=#[] }),iN (0),iN (0)],.bool true]),[]))
 (
 ib V 44 [.str a0_] fun a b=>
 tk4 a fun c d=>(unn b (br d
 (some ((.tup [.agg [iN (3),iN c,.str ({ data:=#[] }),iN (0),iN (0)],.bool true]),[]))
 (
 ib V 45 [.str a0_] fun e f=>
 asB e fun g=>unn f (some ((.tup [.agg [iN (4),iN (0),.str a0_,iN (0),iN (0)],.bool g]),[]))))))):=by
 exact (w8 Try.func23 rfl _).trans (by kernel_rfl)
theorem Ee (a0_0:List D) (a0_1 a0_2:Int) (a1_:List D):V 32 [.op [.rs (1,0) a0_0,iN a0_1,iN a0_2],.rs (1,0) a1_] =
 ib V 16 [.op [.rs (1,0) a0_0,iN a0_1,iN a0_2],(iN (ni a1_.length))] fun a b=>
 asI .i64 a fun c=>unc b fun d e=>mj d fun f=>unc f fun g h=>jE (1,0) g fun i=>unc h fun j k=>asI .i64 j fun l=>unc k fun m n=>asI .i64 m fun o=>unn n (unn e (grd (decide (0 <= c) && decide (c < ni a1_.length)) (cD a1_ c.toNat fun p=>
 asS p fun q=>some ((.str q),[.op [.rs (1,0) i,iN l,iN o]])))):=by
 exact (w8 Try.func32 rfl _).trans (by kernel_rfl)
theorem y0 (p0:List D) (p1 p2:Int) (p3:List D):yq p0 p1 p2 p3 =
 br (decide (p2 >= 0))
 (
 grd (decide (0 <= p2) && decide (p2 < ni p0.length)) (cD p0 p2.toNat fun a=>
 asI .i64 a fun b=>ib V 60 [.op [.os (5,0) p3],iN b,iN p1] fun c d=>
 asI .i64 c fun e=>unc d fun f g=>mj f fun h=>unc h fun i j=>im (5,0) i fun k=>unn j (unn g (yq p0 e (w6 (p2 - 1)) k))))
 (some ((iN p1),[.op [.os (5,0) p3]])):=by
 exact (w7 _ _ _).trans (by kernel_rfl)
theorem zw (p0:Int) (p1:List D) (p2 p3:Int) (p4:List D):xR p0 p1 p2 p3 p4 =
 br (decide (p0 < ni p4.length))
 (
 grd (decide (0 <= p0) && decide (p0 < ni p4.length)) (cD p4 p0.toNat fun a=>
 asAgg a fun b=>nam (List.set p4 p0.toNat (D.agg (List.take 0 b++[iN (1)]++List.drop 1 b))) fun c=>
 xR (w6 (p0 + 1)) p1 p2 p3 c))
 (some ((.agg [.os (5,0) p4]),[.op [.rs (1,0) p1,iN p2,iN p3]])):=by
 exact (w7 _ _ _).trans (by kernel_rfl)
theorem Bh (a0_0:List D) (a0_1 a0_2:Int):V 30 [.op [.rs (1,0) a0_0,iN a0_1,iN a0_2]] =
 ib V 16 [.op [.rs (1,0) a0_0,iN a0_1,iN a0_2],iN (16)] fun a b=>
 asI .i64 a fun c=>unc b fun d e=>mj d fun f=>unc f fun g h=>jE (1,0) g fun i=>unc h fun j k=>asI .i64 j fun l=>unc k fun m n=>asI .i64 m fun o=>unn n (unn e (y3 c (0) i l o)):=by
 exact (w8 Try.func30 rfl _).trans (by kernel_rfl)
theorem Aj (a0_:Int):V 58 [iN a0_] =
 br (decide (a0_ < 0))
 (
 ib V 58 [(iN (w6 (0 - a0_)))] fun a b=>
 asS a fun c=>unn b (grd (decide (ni (ByteArray.size { data:=#[45] } + ByteArray.size c) <= LIM)) (some ((.str ({ data:=#[45] }++c)),[]))))
 (
 br (a0_ == 0)
 (some ((.str ({ data:=#[48] })),[]))
 (yz a0_ ({ data:=#[] }))):=by
 exact (w8 Try.func58 rfl _).trans (by kernel_rfl)
theorem BJ (a0_:Int):V 37 [.int .u8 a0_] =
 ib V 54 [.int .u8 a0_] fun a b=>
 asB a fun c=>unn b (br c
 (some ((.bool true),[]))
 (
 ib V 55 [.int .u8 a0_] fun d e=>
 asB d fun f=>unn e (br f
 (some ((.bool true),[]))
 (some ((.bool (a0_ == 35)),[]))))):=by
 exact (w8 Try.func37 rfl _).trans (by kernel_rfl)
theorem yJ (a0_:List D):V 35 [.rs (5,0) a0_] =
 ue a0_
 (some ((.os (5,0) []),[]))
 (
 grd (decide (ni (List.length ([]++a0_)) <= LIM)) (nam ([]++a0_) fun a=>
 some ((.os (5,0) a),[]))):=by
 exact (w8 Try.func35 rfl _).trans (by kernel_rfl)
theorem D5 (a0_ a1_ a2_:Int):V 46 [iN a0_,iN a1_,iN a2_] =
 br (decide (a0_ >= a1_))
 (some ((.bool (decide (a0_ <= a2_))),[]))
 (some ((.bool false),[])):=by
 exact (w8 Try.func46 rfl _).trans (by kernel_rfl)
theorem Ef (a0_0:List D):V 20 [.agg [.rs (5,0) a0_0]] =
 grd (decide (ni (List.length ([]++a0_0)) <= LIM)) (nam ([]++a0_0) fun a=>
 some ((.agg [.os (5,0) a]),[])):=by
 exact (w8 Try.func20 rfl _).trans (by kernel_rfl)
theorem Ff (a0_:List D):V 11 [.rs (1,0) a0_] =
 yW a0_ (w6 (17000 + ni a0_.length)) (0):=by
 exact (w8 Try.func11 rfl _).trans (by kernel_rfl)
theorem D0 (a0_0:List D):V 10 [.agg [.rs (5,0) a0_0]] =
 yK a0_0 (ni a0_0.length) (0) a0_0:=by
 exact (w8 Try.func10 rfl _).trans (by kernel_rfl)

end Go.Eng
/-! the functions as the interpreter has them -/
namespace Go.Eng
open Go.Proofs Go.Proofs.Try
set_option maxRecDepth 100000
theorem CR (a0_:List D):V 5 [.rs (1,0) a0_] =
 ib V 11 [.rs (1,0) a0_] fun a b=>
 mj a fun c=>unc c fun d e=>jE (1,0) d fun f=>unc e fun g h=>asI .i64 g fun i=>unc h fun j k=>asI .i64 j fun l=>unn k (unn b (ib V 12 [.op [.rs (1,0) f,iN i,iN l]] fun m n=>
 asAgg m fun o=>unc o fun p q=>im (5,0) p fun r=>unn q (unc n fun s t=>mj s fun u=>unc u fun v w=>jE (1,0) v fun x=>unc w fun y z=>asI .i64 y fun A=>unc z fun B C=>asI .i64 B fun E=>unn C (unn t (ib V 13 [.op [.rs (1,0) x,iN A,iN E],iN (3)] fun F G=>
 asS F fun H=>unc G fun I J=>mj I fun K=>unc K fun L M=>jE (1,0) L fun N=>unc M fun O P=>asI .i64 O fun Q=>unc P fun R S=>asI .i64 R fun T=>unn S (unn J (ib V 14 [.op [.rs (1,0) N,iN Q,iN T],iN (3)] fun U W=>
 asB U fun X=>unc W fun Y Z=>mj Y fun a0=>unc a0 fun a1 a2=>jE (1,0) a1 fun a3=>unc a2 fun a4 a5=>asI .i64 a4 fun a6=>unc a5 fun a7 a8=>asI .i64 a7 fun a9=>unn a8 (unn Z (br X
 (
 grd (decide (ni (ByteArray.size H + ByteArray.size { data:=#[32] }) <= LIM)) (ib V 13 [.op [.rs (1,0) a3,iN a6,iN a9],iN (2)] fun b0 b1=>
 asS b0 fun b2=>unc b1 fun b3 b4=>mj b3 fun b5=>unc b5 fun b6 b7=>jE (1,0) b6 fun b8=>unc b7 fun b9 c0=>asI .i64 b9 fun c1=>unc c0 fun c2 c3=>asI .i64 c2 fun c4=>unn c3 (unn b4 (grd (decide (ni (ByteArray.size (H++{ data:=#[32] }) + ByteArray.size b2) <= LIM)) (ib V 14 [.op [.rs (1,0) b8,iN c1,iN c4],iN (3)] fun c5 c6=>
 asB c5 fun c7=>unc c6 fun c8 c9=>mj c8 fun d0=>unc d0 fun d1 d2=>jE (1,0) d1 fun d3=>unc d2 fun d4 d5=>asI .i64 d4 fun d6=>unc d5 fun d7 d8=>asI .i64 d7 fun d9=>unn d8 (unn c9 (br c7
 (
 ib V 15 [.op [.rs (1,0) d3,iN d6,iN d9],.str (H++{ data:=#[32] }++b2),(.rs (1,0) [.str ({ data:=#[40] }),.str ({ data:=#[41] }),.str ({ data:=#[32] }),.str ({ data:=#[48,53] }),.str ({ data:=#[45] }),.str ({ data:=#[35] }),.str ({ data:=#[65] }),.str ({ data:=#[46] }),.str ({ data:=#[49,48,48,48,48,48,48,48,48,49] }),.str ({ data:=#[97,49] }),.str ({ data:=#[45,45,53] })])] fun e0 e1=>
 asS e0 fun e2=>unc e1 fun e3 e4=>mj e3 fun e5=>unc e5 fun e6 e7=>jE (1,0) e6 fun e8=>unc e7 fun e9 f0=>asI .i64 e9 fun f1=>unc f0 fun f2 f3=>asI .i64 f2 fun f4=>unn f3 (unn e4 (ib V 14 [.op [.rs (1,0) e8,iN f1,iN f4],iN (40)] fun f5 f6=>
 asB f5 fun f7=>unc f6 fun f8 f9=>mj f8 fun g0=>unc g0 fun g1 g2=>jE (1,0) g1 fun g3=>unc g2 fun g4 g5=>asI .i64 g4 fun g6=>unc g5 fun g7 g8=>asI .i64 g7 fun g9=>unn g8 (unn f9 (br f7
 (xt ({ data:=#[] }) g3 g6 g9 r)
 (some ((.tup [.agg [.os (5,0) r],.str e2]),[])))))))
 (
 ib V 14 [.op [.rs (1,0) d3,iN d6,iN d9],iN (40)] fun e0 e1=>
 asB e0 fun e2=>unc e1 fun e3 e4=>mj e3 fun e5=>unc e5 fun e6 e7=>jE (1,0) e6 fun e8=>unc e7 fun e9 f0=>asI .i64 e9 fun f1=>unc f0 fun f2 f3=>asI .i64 f2 fun f4=>unn f3 (unn e4 (br e2
 (xt ({ data:=#[] }) e8 f1 f4 r)
 (some ((.tup [.agg [.os (5,0) r],.str (H++{ data:=#[32] }++b2)]),[]))))))))))))
 (
 ib V 14 [.op [.rs (1,0) a3,iN a6,iN a9],iN (3)] fun b0 b1=>
 asB b0 fun b2=>unc b1 fun b3 b4=>mj b3 fun b5=>unc b5 fun b6 b7=>jE (1,0) b6 fun b8=>unc b7 fun b9 c0=>asI .i64 b9 fun c1=>unc c0 fun c2 c3=>asI .i64 c2 fun c4=>unn c3 (unn b4 (br b2
 (
 ib V 15 [.op [.rs (1,0) b8,iN c1,iN c4],.str H,(.rs (1,0) [.str ({ data:=#[40] }),.str ({ data:=#[41] }),.str ({ data:=#[32] }),.str ({ data:=#[48,53] }),.str ({ data:=#[45] }),.str ({ data:=#[35] }),.str ({ data:=#[65] }),.str ({ data:=#[46] }),.str ({ data:=#[49,48,48,48,48,48,48,48,48,49] }),.str ({ data:=#[97,49] }),.str ({ data:=#[45,45,53] })])] fun c5 c6=>
 asS c5 fun c7=>unc c6 fun c8 c9=>mj c8 fun d0=>unc d0 fun d1 d2=>jE (1,0) d1 fun d3=>unc d2 fun d4 d5=>asI .i64 d4 fun d6=>unc d5 fun d7 d8=>asI .i64 d7 fun d9=>unn d8 (unn c9 (ib V 14 [.op [.rs (1,0) d3,iN d6,iN d9],iN (40)] fun e0 e1=>
 asB e0 fun e2=>unc e1 fun e3 e4=>mj e3 fun e5=>unc e5 fun e6 e7=>jE (1,0) e6 fun e8=>unc e7 fun e9 f0=>asI .i64 e9 fun f1=>unc f0 fun f2 f3=>asI .i64 f2 fun f4=>unn f3 (unn e4 (br e2
 (xt ({ data:=#[] }) e8 f1 f4 r)
 (some ((.tup [.agg [.os (5,0) r],.str c7]),[])))))))
 (
 ib V 14 [.op [.rs (1,0) b8,iN c1,iN c4],iN (40)] fun c5 c6=>
 asB c5 fun c7=>unc c6 fun c8 c9=>mj c8 fun d0=>unc d0 fun d1 d2=>jE (1,0) d1 fun d3=>unc d2 fun d4 d5=>asI .i64 d4 fun d6=>unc d5 fun d7 d8=>asI .i64 d7 fun d9=>unn d8 (unn c9 (br c7
 (xt ({ data:=#[] }) d3 d6 d9 r)
 (some ((.tup [.agg [.os (5,0) r],.str H]),[]))))))))))))))))):=by
 exact (w8 Try.func5 rfl _).trans (by kernel_rfl)
theorem AP (p0:ByteArray) (p1:Nat) (p2 p3 p4:Int) (p5 p6 p7 p8:List D):xL p0 p1 p2 p3 p4 p5 p6 p7 p8 =
 br (decide (p2 < ni (ByteArray.size p0)))
 (
 grd (decide (0 <= p2) && decide (p2 < ni (ByteArray.size p0))) (ib V 22 [.int .u8 (bt p0 p2)] fun a b=>
 asB a fun c=>unn b (br c
 (xL p0 p1 (w6 (p2 + 1)) p3 p4 p5 p6 p7 p8)
 (
 grd (cG (ByteArray.size p0) (some p4) (some p2)) (ib V 23 [(.str (ByteArray.extract p0 p4.toNat p2.toNat))] fun d e=>
 gZ d fun f=>unc f fun g h=>tk1 g fun i j k l m=>(unc h fun n o=>asB n fun p=>unn o (unn e (br (!p)
 (
 ib V 20 [.agg [.rs (5,0) p5]] fun q r=>
 asAgg q fun s=>unc s fun t u=>im (5,0) t fun v=>unn u (unn r (some ((.tup [.agg [.os (5,0) v],.os (1,0) p6,iN (3),iN p4]),[]))))
 (
 grd (decide (0 <= p3) && decide (p3 < ni p1) && decide (0 + p1 <= List.length p7)) (cD p7 (0 + Int.toNat p3) fun q=>
 asAgg q fun r=>cD r 1 fun s=>
 im (1,0) s fun t=>asAgg q fun u=>ib V 24 [.op [.os (5,0) p8],.agg [iN i,iN j,.str k,iN l,iN m]] fun v w=>
 asI .i64 v fun x=>unc w fun y z=>mj y fun A=>unc A fun B C=>im (5,0) B fun E=>unn C (unn z (grd (decide (ni (List.length (t++[iN x])) <= LIM)) (nam (t++[iN x]) fun F=>
 grd (decide (0 <= p3) && decide (p3 < ni p1) && decide (0 + p1 <= List.length (List.set p7 (0 + Int.toNat p3) (D.agg (List.take 1 u++[D.dead]++List.drop 2 u))))) (cD (List.set p7 (0 + Int.toNat p3) (D.agg (List.take 1 u++[D.dead]++List.drop 2 u))) (0 + Int.toNat p3) fun G=>
 asAgg G fun H=>nam (List.set (List.set p7 (0 + Int.toNat p3) (D.agg (List.take 1 u++[D.dead]++List.drop 2 u))) (0 + Int.toNat p3)
 (D.agg
 (List.take 1 H ++
 [D.os
 (TypeInfo.size (Tables.types (Program.toTables Try.prog))[3],
 match pH Try.prog (3) with
 | true=>0
 | false=>1)
 F] ++
 List.drop 2 H))) fun I=>
 xo p0 p1 p2 p5 p6 I E))))))))))))))
 (
 grd (cG (ByteArray.size p0) (some p4) (some p2)) (ib V 23 [(.str (ByteArray.extract p0 p4.toNat p2.toNat))] fun a b=>
 gZ a fun c=>unc c fun d e=>tk1 d fun f g h i j=>(unc e fun k l=>asB k fun m=>unn l (unn b (br (!m)
 (
 ib V 20 [.agg [.rs (5,0) p5]] fun n o=>
 asAgg n fun p=>unc p fun q r=>im (5,0) q fun s=>unn r (unn o (some ((.tup [.agg [.os (5,0) s],.os (1,0) p6,iN (3),iN p4]),[]))))
 (
 grd (decide (0 <= p3) && decide (p3 < ni p1) && decide (0 + p1 <= List.length p7)) (cD p7 (0 + Int.toNat p3) fun n=>
 asAgg n fun o=>cD o 1 fun p=>
 im (1,0) p fun q=>asAgg n fun r=>ib V 24 [.op [.os (5,0) p8],.agg [iN f,iN g,.str h,iN i,iN j]] fun s t=>
 asI .i64 s fun u=>unc t fun v w=>mj v fun x=>unc x fun y z=>im (5,0) y fun A=>unn z (unn w (grd (decide (ni (List.length (q++[iN u])) <= LIM)) (nam (q++[iN u]) fun B=>
 grd (decide (0 <= p3) && decide (p3 < ni p1) && decide (0 + p1 <= List.length (List.set p7 (0 + Int.toNat p3) (D.agg (List.take 1 r++[D.dead]++List.drop 2 r))))) (cD (List.set p7 (0 + Int.toNat p3) (D.agg (List.take 1 r++[D.dead]++List.drop 2 r))) (0 + Int.toNat p3) fun C=>
 asAgg C fun E=>nam (List.set (List.set p7 (0 + Int.toNat p3) (D.agg (List.take 1 r++[D.dead]++List.drop 2 r))) (0 + Int.toNat p3)
 (D.agg
 (List.take 1 E ++
 [D.os
 (TypeInfo.size (Tables.types (Program.toTables Try.prog))[3],
 match pH Try.prog (3) with
 | true=>0
 | false=>1)
 B] ++
 List.drop 2 E))) fun F=>
 xo p0 p1 p2 p5 p6 F A))))))))))):=by
 exact (w7 _ _ _).trans (by kernel_rfl)
theorem CQ (a0_:ByteArray):V 38 [.str a0_] =
 br (jt a0_ { data:=#[35,116] })
 (some ((.tup [.agg [iN (2),iN (1),.str ({ data:=#[] }),iN (0),iN (0)],.bool true]),[]))
 (
 br (jt a0_ { data:=#[35,102] })
 (some ((.tup [.agg [iN (2),iN (0),.str ({ data:=#[] }),iN (0),iN (0)],.bool true]),[]))
 (
 br (decide (ni (ByteArray.size a0_) > 1))
 (
 grd (decide (0 <= 0) && decide (0 < ni (ByteArray.size a0_))) (br (bt a0_ (0) == 45)
 (
 grd (decide (0 <= 1) && decide (1 < ni (ByteArray.size a0_))) (ib V 55 [(.int .u8 (bt a0_ (1)))] fun a b=>
 asB a fun c=>unn b (br c
 (
 grd (cG (ByteArray.size a0_) (some (1)) none) (ib V 56 [(.str (ByteArray.extract a0_ (Int.toNat (1)) (ByteArray.size a0_))),iN (10)] fun d e=>
 tk4 d fun f g=>(unn e (br g
 (
 br (decide (f <= 1000000000))
 (
 br (decide (f > 0))
 (some ((.tup [(.agg [iN (3),(iN (w6 (-1 * f))),.str ({ data:=#[] }),iN (0),iN (0)]),.bool true]),[]))
 (some ((.tup [(.agg [iN (3),(iN (w6 (-1 * f))),.str ({ data:=#[] }),iN (0),iN (0)]),.bool false]),[])))
 (some ((.tup [(.agg [iN (3),(iN (w6 (-1 * f))),.str ({ data:=#[] }),iN (0),iN (0)]),.bool false]),[])))
 (some ((.tup [.agg [iN (4),iN (0),.str a0_,iN (0),iN (0)],.bool false]),[]))))))
 (
 ib V 56 [.str a0_,iN (10)] fun d e=>
 tk4 d fun f g=>(unn e (br g
 (
 br (decide (f <= 1000000000))
 (
 br (decide (f > 0))
 (some ((.tup [(.agg [iN (3),(iN (w6 (1 * f))),.str ({ data:=#[] }),iN (0),iN (0)]),.bool true]),[]))
 (some ((.tup [(.agg [iN (3),(iN (w6 (1 * f))),.str ({ data:=#[] }),iN (0),iN (0)]),.bool true]),[])))
 (some ((.tup [(.agg [iN (3),(iN (w6 (1 * f))),.str ({ data:=#[] }),iN (0),iN (0)]),.bool false]),[])))
 (
 ib V 50 [.str a0_] fun h i=>
 asB h fun j=>unn i (some ((.tup [.agg [iN (4),iN (0),.str a0_,iN (0),iN (0)],.bool j]),[])))))))))
 (
 ib V 56 [.str a0_,iN (10)] fun a b=>
 tk4 a fun c d=>(unn b (br d
 (
 br (decide (c <= 1000000000))
 (
 br (decide (c > 0))
 (some ((.tup [(.agg [iN (3),(iN (w6 (1 * c))),.str ({ data:=#[] }),iN (0),iN (0)]),.bool true]),[]))
 (some ((.tup [(.agg [iN (3),(iN (w6 (1 * c))),.str ({ data:=#[] }),iN (0),iN (0)]),.bool true]),[])))
 (some ((.tup [(.agg [iN (3),(iN (w6 (1 * c))),.str ({ data:=#[] }),iN (0),iN (0)]),.bool false]),[])))
 (
 ib V 50 [.str a0_] fun e f=>
 asB e fun g=>unn f (some ((.tup [.agg [iN (4),iN (0),.str a0_,iN (0),iN (0)],.bool g]),[]))))))))
 (
 ib V 56 [.str a0_,iN (10)] fun a b=>
 tk4 a fun c d=>(unn b (br d
 (
 br (decide (c <= 1000000000))
 (
 br (decide (c > 0))
 (some ((.tup [(.agg [iN (3),(iN (w6 (1 * c))),.str ({ data:=#[] }),iN (0),iN (0)]),.bool true]),[]))
 (some ((.tup [(.agg [iN (3),(iN (w6 (1 * c))),.str ({ data:=#[] }),iN (0),iN (0)]),.bool true]),[])))
 (some ((.tup [(.agg [iN (3),(iN (w6 (1 * c))),.str ({ data:=#[] }),iN (0),iN (0)]),.bool false]),[])))
 (
 ib V 50 [.str a0_] fun e f=>
 asB e fun g=>unn f (some ((.tup [.agg [iN (4),iN (0),.str a0_,iN (0),iN (0)],.bool g]),[])))))))):=by
 exact (w8 Try.func38 rfl _).trans (by kernel_rfl)
theorem Dn (a0_0:List D) (a0_1 a0_2 a1_0 a1_1:Int) (a1_2:ByteArray) (a1_3 a1_4:Int):V 31 [.op [.rs (1,0) a0_0,iN a0_1,iN a0_2],.agg [iN a1_0,iN a1_1,.str a1_2,iN a1_3,iN a1_4]] =
 ib V 16 [.op [.rs (1,0) a0_0,iN a0_1,iN a0_2],iN (8)] fun a b=>
 asI .i64 a fun c=>unc b fun d e=>tk2 d fun f g h=>(unn e (br (c == 0)
 (
 ib V 16 [.op [.rs (1,0) f,iN g,iN h],iN (11)] fun i j=>
 asI .i64 i fun k=>unc j fun l m=>tk2 l fun n o p=>(unn m (some ((.agg [iN k,iN a1_1,.str a1_2,iN a1_3,iN a1_4]),[.op [.rs (1,0) n,iN o,iN p]]))))
 (
 br (c == 1)
 (
 ib V 16 [.op [.rs (1,0) f,iN g,iN h],iN (20)] fun i j=>
 asI .i64 i fun k=>unc j fun l m=>tk2 l fun n o p=>(unn m (some ((.agg [iN a1_0,iN a1_1,.str a1_2,(iN (w6 (k - 1))),iN a1_4]),[.op [.rs (1,0) n,iN o,iN p]]))))
 (
 br (c == 2)
 (
 ib V 16 [.op [.rs (1,0) f,iN g,iN h],iN (20)] fun i j=>
 asI .i64 i fun k=>unc j fun l m=>tk2 l fun n o p=>(unn m (some ((.agg [iN a1_0,iN a1_1,.str a1_2,iN a1_3,(iN (w6 (k - 1)))]),[.op [.rs (1,0) n,iN o,iN p]]))))
 (
 br (c == 3)
 (
 ib V 52 [.op [.rs (1,0) f,iN g,iN h],(.rs (1,0) [iN (-1),iN (2),iN (99),iN (100),iN (1000000000),iN (1000000001),iN (-1000000000),iN (-1000000001)])] fun i j=>
 asI .i64 i fun k=>unc j fun l m=>tk2 l fun n o p=>(unn m (some ((.agg [iN a1_0,iN k,.str a1_2,iN a1_3,iN a1_4]),[.op [.rs (1,0) n,iN o,iN p]]))))
 (
 br (c == 4)
 (
 ib V 32 [.op [.rs (1,0) f,iN g,iN h],(.rs (1,0) [.str ({ data:=#[] }),.str ({ data:=#[97] }),.str ({ data:=#[65,98] }),.str ({ data:=#[97,98,99,100,101,102,103,104,105,106,107,108] }),.str ({ data:=#[97,98,99,100,101,102,103,104,105,106,107,108,109] }),.str ({ data:=#[97,49] })])] fun i j=>
 asS i fun k=>unc j fun l m=>tk2 l fun n o p=>(unn m (some ((.agg [iN a1_0,iN a1_1,.str k,iN a1_3,iN a1_4]),[.op [.rs (1,0) n,iN o,iN p]]))))
 (some ((.agg [iN a1_0,iN a1_1,.str a1_2,iN a1_3,iN a1_4]),[.op [.rs (1,0) f,iN g,iN h]])))))))):=by
 exact (w8 Try.func31 rfl _).trans (by kernel_rfl)
theorem zJ (p0:ByteArray) (p1:Int) (p2 p3 p4:List D):xl p0 p1 p2 p3 p4 =
 br (decide (p1 < ni (ByteArray.size p0)))
 (
 grd (decide (0 <= p1) && decide (p1 < ni (ByteArray.size p0))) (br (bt p0 p1 == 32)
 (xl p0 (w6 (p1 + 1)) p2 p3 p4)
 (
 br (bt p0 p1 == 40)
 (grd (decide
 (ni
 (List.length
 (p3 ++
 [D.os
 (TypeInfo.size (Tables.types (Program.toTables Try.prog))[3],
 match pH Try.prog (3) with
 | true=>0
 | false=>1)
 []])) <=
 LIM)) (nam (p3 ++
 [D.os
 (TypeInfo.size (Tables.types (Program.toTables Try.prog))[3],
 match pH Try.prog (3) with
 | true=>0
 | false=>1)
 []]) fun a=>
 grd (decide (ni (List.length (p4++[iN p1])) <= LIM)) (nam (p4++[iN p1]) fun b=>
 xl p0 (w6 (p1 + 1)) p2 a b)))
 (
 br (bt p0 p1 == 41)
 (
 ib V 36 [.op [.os (5,0) p2,.os (1,2) p3,.os (1,0) p4]] fun a b=>
 asB a fun c=>unc b fun d e=>tk3 d fun f g h=>(unn e (br (!c)
 (some ((.tup [iN (5),iN p1]),[.op [.os (5,0) f,.os (1,2) g,.os (1,0) h]]))
 (xl p0 (w6 (p1 + 1)) f g h))))
 (
 ib V 37 [.int .u8 (bt p0 p1)] fun a b=>
 asB a fun c=>unn b (br (!c)
 (some ((.tup [iN (2),iN p1]),[.op [.os (5,0) p2,.os (1,2) p3,.os (1,0) p4]]))
 (xI p0 p1 p1 p2 p3 p4)))))))
 (
 br (decide (ni p4.length > 0))
 (
 grd (decide (0 <= w6 (ni p4.length - 1)) && decide (w6 (ni p4.length - 1) < ni p4.length)) (cD p4 (Int.toNat (w6 (ni p4.length - 1))) fun a=>
 asI .i64 a fun b=>some ((.tup [iN (4),iN b]),[.op [.os (5,0) p2,.os (1,2) p3,.os (1,0) p4]])))
 (some ((.tup [iN (0),(iN (ni (ByteArray.size p0)))]),[.op [.os (5,0) p2,.os (1,2) p3,.os (1,0) p4]]))):=by
 exact (w7 _ _ _).trans (by kernel_rfl)
theorem Dm (a0_0:List D) (a0_1 a0_2 a1_:Int):V 16 [.op [.rs (1,0) a0_0,iN a0_1,iN a0_2],iN a1_] =
 br (decide (a1_ <= 0))
 (some ((iN (0)),[.op [.rs (1,0) a0_0,iN a0_1,iN a0_2]]))
 (
 br (decide (a1_ <= 256))
 (
 ib V 34 [.op [.rs (1,0) a0_0,iN a0_1,iN a0_2]] fun a b=>
 asI .i64 a fun c=>unc b fun d e=>mj d fun f=>unc f fun g h=>jE (1,0) g fun i=>unc h fun j k=>asI .i64 j fun l=>unc k fun m n=>asI .i64 m fun o=>unn n (unn e (grd (!decide (a1_ = 0)) (some ((iN (Int.tmod c a1_)),[.op [.rs (1,0) i,iN l,iN o]])))))
 (
 ib V 34 [.op [.rs (1,0) a0_0,iN a0_1,iN a0_2]] fun a b=>
 asI .i64 a fun c=>unc b fun d e=>mj d fun f=>unc f fun g h=>jE (1,0) g fun i=>unc h fun j k=>asI .i64 j fun l=>unc k fun m n=>asI .i64 m fun o=>unn n (unn e (ib V 34 [.op [.rs (1,0) i,iN l,iN o]] fun p q=>
 asI .i64 p fun r=>unc q fun s t=>mj s fun u=>unc u fun v w=>jE (1,0) v fun x=>unc w fun y z=>asI .i64 y fun A=>unc z fun B C=>asI .i64 B fun E=>unn C (unn t (ib V 34 [.op [.rs (1,0) x,iN A,iN E]] fun F G=>
 asI .i64 F fun H=>unc G fun I J=>mj I fun K=>unc K fun L M=>jE (1,0) L fun N=>unc M fun O P=>asI .i64 O fun Q=>unc P fun R S=>asI .i64 R fun T=>unn S (unn J (ib V 34 [.op [.rs (1,0) N,iN Q,iN T]] fun U W=>
 asI .i64 U fun X=>unc W fun Y Z=>mj Y fun a0=>unc a0 fun a1 a2=>jE (1,0) a1 fun a3=>unc a2 fun a4 a5=>asI .i64 a4 fun a6=>unc a5 fun a7 a8=>asI .i64 a7 fun a9=>unn a8 (unn Z (grd (!decide (a1_ = 0)) (some ((iN (Int.tmod (w6 (w6 (w6 (w6 (c * 16777216) + w6 (r * 65536)) + w6 (H * 256)) + X)) a1_)),[.op [.rs (1,0) a3,iN a6,iN a9]])))))))))))):=by
 exact (w8 Try.func16 rfl _).trans (by kernel_rfl)
theorem yR (p0:Int) (p1:ByteArray) (p2 p3:Int) (p4:List D) (p5 p6:Int):xT p0 p1 p2 p3 p4 p5 p6 =
 br (decide (p3 < p2))
 (
 br (decide (p3 > 0))
 (
 ib V 32 [.op [.rs (1,0) p4,iN p5,iN p6],(.rs (1,0) [.str ({ data:=#[32] }),.str ({ data:=#[32] }),.str ({ data:=#[32,32] })])] fun a b=>
 asS a fun c=>unc b fun d e=>mj d fun f=>unc f fun g h=>jE (1,0) g fun i=>unc h fun j k=>asI .i64 j fun l=>unc k fun m n=>asI .i64 m fun o=>unn n (unn e (grd (decide (ni (ByteArray.size p1 + ByteArray.size c) <= LIM)) (ib V 13 [.op [.rs (1,0) i,iN l,iN o],(iN (w6 (p0 - 1)))] fun p q=>
 asS p fun r=>unc q fun s t=>mj s fun u=>unc u fun v w=>jE (1,0) v fun x=>unc w fun y z=>asI .i64 y fun A=>unc z fun B C=>asI .i64 B fun E=>unn C (unn t (grd (decide (ni (ByteArray.size (p1++c) + ByteArray.size r) <= LIM)) (xT p0 (p1++c++r) p2 (w6 (p3 + 1)) x A E)))))))
 (
 ib V 13 [.op [.rs (1,0) p4,iN p5,iN p6],(iN (w6 (p0 - 1)))] fun a b=>
 asS a fun c=>unc b fun d e=>mj d fun f=>unc f fun g h=>jE (1,0) g fun i=>unc h fun j k=>asI .i64 j fun l=>unc k fun m n=>asI .i64 m fun o=>unn n (unn e (grd (decide (ni (ByteArray.size p1 + ByteArray.size c) <= LIM)) (xT p0 (p1++c) p2 (w6 (p3 + 1)) i l o)))))
 (grd (decide (ni (ByteArray.size p1 + ByteArray.size { data:=#[41] }) <= LIM)) (some ((.str (p1++{ data:=#[41] })),[.op [.rs (1,0) p4,iN p5,iN p6]]))):=by
 exact (w7 _ _ _).trans (by kernel_rfl)
theorem z0 (p0 p1:Int) (p2:List D) (p3 p4:Int):y3 p0 p1 p2 p3 p4 =
 br (decide (p1 < p0))
 (
 ib V 51 [.op [.rs (1,0) p2,iN p3,iN p4],iN p1] fun a b=>
 asAgg a fun c=>unc c fun d e=>asI .i64 d fun f=>unc e fun g h=>asI .i64 g fun i=>unc h fun j k=>asS j fun l=>unc k fun m n=>asI .i64 m fun o=>unc n fun p q=>asI .i64 p fun r=>unn q (unc b fun s t=>mj s fun u=>unc u fun v w=>jE (1,0) v fun x=>unc w fun y z=>asI .i64 y fun A=>unc z fun B C=>asI .i64 B fun E=>unn C (unn t (ib V 24 [.op [.os (5,0) []],.agg [iN f,iN i,.str l,iN o,iN r]] fun F G=>
 asI .i64 F fun _=>unc G fun H I=>mj H fun J=>unc J fun K L=>im (5,0) K fun M=>unn L (unn I (xW p0 (w6 (p1 + 1)) x A E M))))))
 (some ((.agg [.os (5,0) []]),[.op [.rs (1,0) p2,iN p3,iN p4]])):=by
 exact (w7 _ _ _).trans (by kernel_rfl)
theorem Fh (a0_:ByteArray):V 44 [.str a0_] =
 br (decide (ni (ByteArray.size a0_) > 1))
 (
 grd (decide (0 <= 0) && decide (0 < ni (ByteArray.size a0_))) (br (bt a0_ (0) == 45)
 (
 grd (cG (ByteArray.size a0_) (some (1)) none) (br (decide (ni (ByteArray.size (ByteArray.extract a0_ (Int.toNat (1)) (ByteArray.size a0_))) > 10))
 (some ((.tup [iN (0),.bool false]),[]))
 (
 br (ni (ByteArray.size (ByteArray.extract a0_ (Int.toNat (1)) (ByteArray.size a0_))) == 0)
 (some ((.tup [iN (0),.bool false]),[]))
 (xP a0_ (ByteArray.extract a0_ (Int.toNat (1)) (ByteArray.size a0_)) (0) (0)))))
 (
 br (decide (ni (ByteArray.size a0_) > 10))
 (some ((.tup [iN (0),.bool false]),[]))
 (
 br (ni (ByteArray.size a0_) == 0)
 (some ((.tup [iN (0),.bool false]),[]))
 (xP a0_ a0_ (0) (0))))))
 (
 br (decide (ni (ByteArray.size a0_) > 10))
 (some ((.tup [iN (0),.bool false]),[]))
 (
 br (ni (ByteArray.size a0_) == 0)
 (some ((.tup [iN (0),.bool false]),[]))
 (xP a0_ a0_ (0) (0)))):=by
 exact (w8 Try.func44 rfl _).trans (by kernel_rfl)
theorem zu (p0:Int) (p1:List D):yL p0 p1 =
 br (decide (p0 < ni p1.length))
 (
 grd (decide (0 <= p0) && decide (p0 < ni p1.length)) (cD p1 p0.toNat fun a=>
 tk1 a fun b c d e f=>(ib V 41 [.agg [iN b,iN c,.str d,iN e,iN f],iN p0] fun g h=>
 asB g fun i=>unn h (br (!i)
 (some ((.bool false),[]))
 (yL (w6 (p0 + 1)) p1)))))
 (some ((.bool (decide (ni p1.length <= 3000))),[])):=by
 exact (w7 _ _ _).trans (by kernel_rfl)
theorem Cu (a0_0:List D) (a0_1 a0_2:Int) (a1_:List D):V 52 [.op [.rs (1,0) a0_0,iN a0_1,iN a0_2],.rs (1,0) a1_] =
 ib V 16 [.op [.rs (1,0) a0_0,iN a0_1,iN a0_2],(iN (ni a1_.length))] fun a b=>
 asI .i64 a fun c=>unc b fun d e=>mj d fun f=>unc f fun g h=>jE (1,0) g fun i=>unc h fun j k=>asI .i64 j fun l=>unc k fun m n=>asI .i64 m fun o=>unn n (unn e (grd (decide (0 <= c) && decide (c < ni a1_.length)) (cD a1_ c.toNat fun p=>
 asI .i64 p fun q=>some ((iN q),[.op [.rs (1,0) i,iN l,iN o]])))):=by
 exact (w8 Try.func52 rfl _).trans (by kernel_rfl)
theorem zx (p0:List D) (p1 p2:Int) (p3:List D):yM p0 p1 p2 p3 =
 br (decide (p2 >= 0))
 (
 grd (decide (0 <= p2) && decide (p2 < ni p0.length)) (cD p0 p2.toNat fun a=>
 asI .i64 a fun b=>ib V 24 [.op [.os (5,0) p3],(.agg [iN (5),iN (0),.str ({ data:=#[] }),iN b,iN p1])] fun c d=>
 asI .i64 c fun e=>unc d fun f g=>mj f fun h=>unc h fun i j=>im (5,0) i fun k=>unn j (unn g (yM p0 e (w6 (p2 - 1)) k))))
 (some ((iN p1),[.op [.os (5,0) p3]])):=by
 exact (w7 _ _ _).trans (by kernel_rfl)
theorem CN (p:List D) (k n:Int) (s:ByteArray) (a b:Int):V 40 [.op [.os (5,0) p],.agg [iN k,iN n,.str s,iN a,iN b]] =
 grd (decide (ni (List.length (p++[D.agg [iN k,iN n,D.str s,iN a,iN b]])) <= LIM)) (nam (p++[D.agg [iN k,iN n,D.str s,iN a,iN b]]) fun c=>
 some ((iN (w6 (ni c.length - 1))),[.op [.os (5,0) c]])):=by
 exact (w8 Try.func40 rfl _).trans (by kernel_rfl)
theorem Cr (p l:List D):V 53 [.op [.os (5,0) p],.rs (1,0) l] =
 ib V 40 [.op [.os (5,0) p],(.agg [iN (1),iN (0),.str ({ data:=#[] }),iN (0),iN (0)])] fun a b=>
 asI .i64 a fun c=>unc b fun d e=>mj d fun f=>unc f fun g h=>im (5,0) g fun i=>unn h (unn e (yq l c (w6 (ni l.length - 1)) i)):=by
 exact (w8 Try.func53 rfl _).trans (by kernel_rfl)
theorem Ct (p:List D) (a b:Int):V 60 [.op [.os (5,0) p],iN a,iN b] =
 ib V 40 [.op [.os (5,0) p],(.agg [iN (5),iN (0),.str ({ data:=#[] }),iN a,iN b])] fun c d=>
 asI .i64 c fun e=>unc d fun f g=>mj f fun h=>unc h fun i j=>im (5,0) i fun k=>unn j (unn g (some ((iN e),[.op [.os (5,0) k]]))):=by
 exact (w8 Try.func60 rfl _).trans (by kernel_rfl)
theorem BQ (a0_:Int):V 22 [.int .u8 a0_] =
 ib V 42 [.int .u8 a0_] fun a b=>
 asB a fun c=>unn b (br c
 (some ((.bool true),[]))
 (
 ib V 43 [.int .u8 a0_] fun d e=>
 asB d fun f=>unn e (br f
 (some ((.bool true),[]))
 (some ((.bool (a0_ == 35)),[]))))):=by
 exact (w8 Try.func22 rfl _).trans (by kernel_rfl)
theorem AU (p o:List D) (s:ByteArray):V 47 [.op [.rs (5,0) p,.os (1,0) o],.str s] =
 grd (decide (ni (List.length (o++gn s)) <= LIM)) (nam (o++gn s) fun a=>
 some ((.tup []),[.op [.rs (5,0) p,.os (1,0) a]])):=by
 exact (w8 Try.func47 rfl _).trans (by kernel_rfl)
theorem AR (p o:List D) :V 27 [.op [.rs (5,0) p,.os (1,0) o]] =
 some ((.bool (decide (ni o.length > 400))),[.op [.rs (5,0) p,.os (1,0) o]]):=by
 exact (w8 Try.func27 rfl _).trans (by kernel_rfl)
theorem AQ (p o t:List D) (s:ByteArray):V 18 [.op [.os (5,0) p,.os (1,2) o,.os (1,0) t],.str s] =
 xl s (0) p o t:=by
 exact (w8 Try.func18 rfl _).trans (by kernel_rfl)
theorem AC (p o:List D) (v:Int):V 48 [.op [.rs (5,0) p,.os (1,0) o],iN v] =
 xG v true p o:=by
 exact (w8 Try.func48 rfl _).trans (by kernel_rfl)
theorem D9 (a0_0:List D):V 19 [.agg [.rs (5,0) a0_0]] =
 yL (0) a0_0:=by
 exact (w8 Try.func19 rfl _).trans (by kernel_rfl)
theorem D8 (a0_:ByteArray):V 45 [.str a0_] =
 yv a0_ (0):=by
 exact (w8 Try.func45 rfl _).trans (by kernel_rfl)

end Go.Eng
/-! the functions as the interpreter has them -/
namespace Go.Eng
open Go.Proofs Go.Proofs.Try
set_option maxRecDepth 100000
theorem Cq (p0:ByteArray) (p1:Int) (p2 p3 p4 p5:List D):xp p0 p1 p2 p3 p4 p5 =
 br (decide (p1 < ni (ByteArray.size p0)))
 (
 grd (decide (0 <= p1) && decide (p1 < ni (ByteArray.size p0))) (br (bt p0 p1 == 32)
 (xp p0 (w6 (p1 + 1)) p2 p3 p4 p5)
 (
 br (bt p0 p1 == 40)
 (grd (decide
 (ni
 (List.length
 (p4 ++
 [D.agg
 [iN p1,
 D.os
 (TypeInfo.size (Tables.types (Program.toTables Try.prog))[3],
 match pH Try.prog (3) with
 | true=>0
 | false=>1)
 []]])) <=
 LIM)) (nam (p4 ++
 [D.agg
 [iN p1,
 D.os
 (TypeInfo.size (Tables.types (Program.toTables Try.prog))[3],
 match pH Try.prog (3) with
 | true=>0
 | false=>1)
 []]]) fun a=>
 xp p0 (w6 (p1 + 1)) p2 p3 a p5))
 (
 br (bt p0 p1 == 41)
 (
 br (w6 (ni p4.length - 1) == 0)
 (
 ib V 20 [.agg [.rs (5,0) p2]] fun a b=>
 asAgg a fun c=>unc c fun d e=>im (5,0) d fun f=>unn e (unn b (some ((.tup [.agg [.os (5,0) f],.os (1,0) p3,iN (5),iN p1]),[]))))
 (
 grd (decide (0 <= w6 (ni p4.length - 1)) && decide (w6 (ni p4.length - 1) < ni p4.length)) (cD p4 (Int.toNat (w6 (ni p4.length - 1))) fun a=>
 asAgg a fun b=>cD b 1 fun c=>
 im (1,0) c fun d=>asAgg a fun e=>ib V 21 [.op [.os (5,0) p5],.rs (1,0) d] fun f g=>
 asI .i64 f fun h=>unc g fun i j=>mj i fun k=>unc k fun l m=>im (5,0) l fun n=>unn m (unn j (grd (cG (List.length (List.set p4 (Int.toNat (w6 (ni p4.length - 1))) (D.agg (List.take 1 e++[D.dead]++List.drop 2 e)))) none (some (w6 (ni p4.length - 1)))) (grd (decide (0 <= w6 (w6 (ni p4.length - 1) - 1)) && decide (w6 (w6 (ni p4.length - 1) - 1) < ni (Int.toNat (w6 (ni p4.length - 1)))) && decide (0 + Int.toNat (w6 (ni p4.length - 1)) <= List.length (List.set p4 (Int.toNat (w6 (ni p4.length - 1))) (D.agg (List.take 1 e++[D.dead]++List.drop 2 e))))) (cD (List.set p4 (Int.toNat (w6 (ni p4.length - 1))) (D.agg (List.take 1 e++[D.dead]++List.drop 2 e))) (0 + Int.toNat (w6 (w6 (ni p4.length - 1) - 1))) fun o=>
 asAgg o fun p=>cD p 1 fun q=>
 im (1,0) q fun r=>asAgg o fun s=>grd (decide (ni (List.length (r++[iN h])) <= LIM)) (nam (r++[iN h]) fun t=>
 grd (decide (0 <= w6 (w6 (ni p4.length - 1) - 1)) && decide (w6 (w6 (ni p4.length - 1) - 1) < ni (Int.toNat (w6 (ni p4.length - 1)))) && decide (0 + Int.toNat (w6 (ni p4.length - 1)) <= List.length (List.set (List.set p4 (Int.toNat (w6 (ni p4.length - 1))) (D.agg (List.take 1 e++[D.dead]++List.drop 2 e))) (0 + Int.toNat (w6 (w6 (ni p4.length - 1) - 1))) (D.agg (List.take 1 s++[D.dead]++List.drop 2 s))))) (cD (List.set (List.set p4 (Int.toNat (w6 (ni p4.length - 1))) (D.agg (List.take 1 e++[D.dead]++List.drop 2 e))) (0 + Int.toNat (w6 (w6 (ni p4.length - 1) - 1))) (D.agg (List.take 1 s++[D.dead]++List.drop 2 s))) (0 + Int.toNat (w6 (w6 (ni p4.length - 1) - 1))) fun u=>
 asAgg u fun v=>nam (List.set (List.set (List.set p4 (Int.toNat (w6 (ni p4.length - 1))) (D.agg (List.take 1 e++[D.dead]++List.drop 2 e))) (0 + Int.toNat (w6 (w6 (ni p4.length - 1) - 1))) (D.agg (List.take 1 s++[D.dead]++List.drop 2 s))) (0 + Int.toNat (w6 (w6 (ni p4.length - 1) - 1)))
 (D.agg
 (List.take 1 v ++
 [D.os
 (TypeInfo.size (Tables.types (Program.toTables Try.prog))[3],
 match pH Try.prog (3) with
 | true=>0
 | false=>1)
 t] ++
 List.drop 2 v))) fun w=>
 xo p0 (Int.toNat (w6 (ni p4.length - 1))) (w6 (p1 + 1)) p2 p3 w n)))))))))
 (
 ib V 22 [.int .u8 (bt p0 p1)] fun a b=>
 asB a fun c=>unn b (br c
 (yf p0 p1 (w6 (ni p4.length - 1)) p1 p2 p3 p4 p5)
 (
 ib V 20 [.agg [.rs (5,0) p2]] fun d e=>
 asAgg d fun f=>unc f fun g h=>im (5,0) g fun i=>unn h (unn e (some ((.tup [.agg [.os (5,0) i],.os (1,0) p3,iN (2),iN p1]),[]))))))))))
 (
 br (decide (ni p4.length > 1))
 (
 ib V 20 [.agg [.rs (5,0) p2]] fun a b=>
 asAgg a fun c=>unc c fun d e=>im (5,0) d fun f=>unn e (unn b (grd (decide (0 <= w6 (ni p4.length - 1)) && decide (w6 (ni p4.length - 1) < ni p4.length)) (cD p4 (Int.toNat (w6 (ni p4.length - 1))) fun g=>
 asAgg g fun h=>cD h 0 fun i=>
 asI .i64 i fun j=>some ((.tup [.agg [.os (5,0) f],.os (1,0) p3,iN (4),iN j]),[])))))
 (
 ib V 19 [.agg [.rs (5,0) p5]] fun a b=>
 asB a fun c=>unn b (br (!c)
 (
 ib V 20 [.agg [.rs (5,0) p2]] fun d e=>
 asAgg d fun f=>unc f fun g h=>im (5,0) g fun i=>unn h (unn e (some ((.tup [.agg [.os (5,0) i],.os (1,0) p3,iN (6),iN (0)]),[]))))
 (
 grd (decide (0 <= 0) && decide (0 < ni p4.length)) (cD p4 0 fun d=>
 asAgg d fun e=>cD e 1 fun f=>
 im (1,0) f fun g=>asAgg d fun h=>grd (decide (ni (List.length ([]++g)) <= LIM)) (nam ([]++g) fun i=>
 some ((.tup [.agg [.os (5,0) p5],.os (1,0) i,iN (0),(iN (ni (ByteArray.size p0)))]),[]))))))):=by
 exact (w7 _ _ _).trans (by kernel_rfl)
theorem zf (p0:List D) (p1 p2:Int) (p3 p4:List D):xm p0 p1 p2 p3 p4 =
 br (decide (p2 < p1))
 (
 grd (decide (0 <= p2) && decide (p2 < ni p0.length)) (cD p0 p2.toNat fun a=>
 tk1 a fun b c d e f=>(br (b == 5)
 (
 grd (decide (0 <= e) && decide (e < ni p4.length)) (cD p4 e.toNat fun g=>
 asI .i64 g fun h=>grd (decide (0 <= f) && decide (f < ni p4.length)) (cD p4 f.toNat fun i=>
 asI .i64 i fun j=>br (!ia p3 [iN b,iN c,D.str d,iN h,iN j])
 (
 grd (!ia p3 [iN b,iN c,D.str d,iN h,iN j]) (nam (ub p3 [iN b,iN c,D.str d,iN h,iN j] p2) fun k=>
 grd (decide (ni (List.length (p4++[iN p2])) <= LIM)) (nam (p4++[iN p2]) fun l=>
 xm p0 p1 (w6 (p2 + 1)) k l)))
 (
 grd (decide (ni (List.length (p4++[iN (lz p3 [iN b,iN c,D.str d,iN h,iN j])])) <= LIM)) (nam (p4++[iN (lz p3 [iN b,iN c,D.str d,iN h,iN j])]) fun k=>
 xm p0 p1 (w6 (p2 + 1)) p3 k)))))
 (
 br (b == 6)
 (
 br (b == 6)
 (
 grd (decide (0 <= e) && decide (e < ni p4.length)) (cD p4 e.toNat fun g=>
 asI .i64 g fun h=>br (!ia p3 [iN b,iN c,D.str d,iN h,iN f])
 (
 grd (!ia p3 [iN b,iN c,D.str d,iN h,iN f]) (nam (ub p3 [iN b,iN c,D.str d,iN h,iN f] p2) fun i=>
 grd (decide (ni (List.length (p4++[iN p2])) <= LIM)) (nam (p4++[iN p2]) fun j=>
 xm p0 p1 (w6 (p2 + 1)) i j)))
 (
 grd (decide (ni (List.length (p4++[iN (lz p3 [iN b,iN c,D.str d,iN h,iN f])])) <= LIM)) (nam (p4++[iN (lz p3 [iN b,iN c,D.str d,iN h,iN f])]) fun i=>
 xm p0 p1 (w6 (p2 + 1)) p3 i))))
 (
 br (!ia p3 [iN b,iN c,D.str d,iN e,iN f])
 (
 grd (!ia p3 [iN b,iN c,D.str d,iN e,iN f]) (nam (ub p3 [iN b,iN c,D.str d,iN e,iN f] p2) fun g=>
 grd (decide (ni (List.length (p4++[iN p2])) <= LIM)) (nam (p4++[iN p2]) fun h=>
 xm p0 p1 (w6 (p2 + 1)) g h)))
 (
 grd (decide (ni (List.length (p4++[iN (lz p3 [iN b,iN c,D.str d,iN e,iN f])])) <= LIM)) (nam (p4++[iN (lz p3 [iN b,iN c,D.str d,iN e,iN f])]) fun g=>
 xm p0 p1 (w6 (p2 + 1)) p3 g))))
 (
 br (b == 7)
 (
 grd (decide (0 <= e) && decide (e < ni p4.length)) (cD p4 e.toNat fun g=>
 asI .i64 g fun h=>br (!ia p3 [iN b,iN c,D.str d,iN h,iN f])
 (
 grd (!ia p3 [iN b,iN c,D.str d,iN h,iN f]) (nam (ub p3 [iN b,iN c,D.str d,iN h,iN f] p2) fun i=>
 grd (decide (ni (List.length (p4++[iN p2])) <= LIM)) (nam (p4++[iN p2]) fun j=>
 xm p0 p1 (w6 (p2 + 1)) i j)))
 (
 grd (decide (ni (List.length (p4++[iN (lz p3 [iN b,iN c,D.str d,iN h,iN f])])) <= LIM)) (nam (p4++[iN (lz p3 [iN b,iN c,D.str d,iN h,iN f])]) fun i=>
 xm p0 p1 (w6 (p2 + 1)) p3 i))))
 (
 br (!ia p3 [iN b,iN c,D.str d,iN e,iN f])
 (
 grd (!ia p3 [iN b,iN c,D.str d,iN e,iN f]) (nam (ub p3 [iN b,iN c,D.str d,iN e,iN f] p2) fun g=>
 grd (decide (ni (List.length (p4++[iN p2])) <= LIM)) (nam (p4++[iN p2]) fun h=>
 xm p0 p1 (w6 (p2 + 1)) g h)))
 (
 grd (decide (ni (List.length (p4++[iN (lz p3 [iN b,iN c,D.str d,iN e,iN f])])) <= LIM)) (nam (p4++[iN (lz p3 [iN b,iN c,D.str d,iN e,iN f])]) fun g=>
 xm p0 p1 (w6 (p2 + 1)) p3 g))))))))
 (some ((.os (1,0) p4),[])):=by
 exact (w7 _ _ _).trans (by kernel_rfl)
theorem zF (p0:Int) (p1:Bool) (p2 p3:List D):xG p0 p1 p2 p3 =
 grd (decide (0 <= p0) && decide (p0 < ni p2.length)) (cD p2 p0.toNat fun a=>
 asAgg a fun b=>cD b 0 fun c=>
 asI .i64 c fun d=>br (d == 5)
 (
 ib V 27 [.op [.rs (5,0) p2,.os (1,0) p3]] fun e f=>
 asB e fun g=>unc f fun h i=>tk6 h fun j k=>(unn i (br (!g)
 (
 br (!p1)
 (
 ib V 47 [.op [.rs (5,0) j,.os (1,0) k],.str ({ data:=#[32] })] fun l m=>
 gZ l fun n=>unn n (unc m fun o p=>tk6 o fun q r=>(unn p (grd (decide (0 <= p0) && decide (p0 < ni q.length)) (cD q p0.toNat fun s=>
 asAgg s fun t=>cD t 3 fun u=>
 asI .i64 u fun v=>ib V 26 [.op [.rs (5,0) q,.os (1,0) r],iN v] fun w x=>
 gZ w fun y=>unn y (unc x fun z A=>tk6 z fun B C=>(unn A (grd (decide (0 <= p0) && decide (p0 < ni B.length)) (cD B p0.toNat fun E=>
 asAgg E fun F=>cD F 4 fun G=>
 asI .i64 G fun H=>xG H false B C)))))))))
 (
 grd (decide (0 <= p0) && decide (p0 < ni j.length)) (cD j p0.toNat fun l=>
 asAgg l fun m=>cD m 3 fun n=>
 asI .i64 n fun o=>ib V 26 [.op [.rs (5,0) j,.os (1,0) k],iN o] fun p q=>
 gZ p fun r=>unn r (unc q fun s t=>tk6 s fun u v=>(unn t (grd (decide (0 <= p0) && decide (p0 < ni u.length)) (cD u p0.toNat fun w=>
 asAgg w fun x=>cD x 4 fun y=>
 asI .i64 y fun z=>xG z false u v)))))))
 (
 grd (decide (0 <= p0) && decide (p0 < ni j.length)) (cD j p0.toNat fun l=>
 asAgg l fun m=>cD m 0 fun n=>
 asI .i64 n fun o=>br (o != 1)
 (
 br (o != 5)
 (
 ib V 47 [.op [.rs (5,0) j,.os (1,0) k],.str ({ data:=#[32,46,32] })] fun p q=>
 gZ p fun r=>unn r (unc q fun s t=>tk6 s fun u v=>(unn t (ib V 26 [.op [.rs (5,0) u,.os (1,0) v],iN p0] fun w x=>
 gZ w fun y=>unn y (unc x fun z A=>tk6 z fun B C=>(unn A (some ((.tup []),[.op [.rs (5,0) B,.os (1,0) C]]))))))))
 (some ((.tup []),[.op [.rs (5,0) j,.os (1,0) k]])))
 (some ((.tup []),[.op [.rs (5,0) j,.os (1,0) k]])))))))
 (
 grd (decide (0 <= p0) && decide (p0 < ni p2.length)) (cD p2 p0.toNat fun e=>
 asAgg e fun f=>cD f 0 fun g=>
 asI .i64 g fun h=>br (h != 1)
 (
 br (h != 5)
 (
 ib V 47 [.op [.rs (5,0) p2,.os (1,0) p3],.str ({ data:=#[32,46,32] })] fun i j=>
 gZ i fun k=>unn k (unc j fun l m=>tk6 l fun n o=>(unn m (ib V 26 [.op [.rs (5,0) n,.os (1,0) o],iN p0] fun p q=>
 gZ p fun r=>unn r (unc q fun s t=>tk6 s fun u v=>(unn t (some ((.tup []),[.op [.rs (5,0) u,.os (1,0) v]]))))))))
 (some ((.tup []),[.op [.rs (5,0) p2,.os (1,0) p3]])))
 (some ((.tup []),[.op [.rs (5,0) p2,.os (1,0) p3]]))))):=by
 exact (w7 _ _ _).trans (by kernel_rfl)
theorem Ej (a0_0 a0_1:Int) (a0_2:ByteArray) (a0_3 a0_4 a1_:Int):V 41 [.agg [iN a0_0,iN a0_1,.str a0_2,iN a0_3,iN a0_4],iN a1_] =
 ib V 57 [iN a0_3,iN (0),(iN (w6 (a1_ - 1)))] fun a b=>
 asB a fun c=>unn b (ib V 57 [iN a0_4,iN (0),(iN (w6 (a1_ - 1)))] fun d e=>
 asB d fun f=>unn e (br (a0_0 == 1)
 (some ((.bool (a0_0 == 1 && (a0_1 == 0 && (jt a0_2 { data:=#[] } && (a0_3 == 0 && (a0_4 == 0 && true)))))),[]))
 (
 br (a0_0 == 2)
 (
 ib V 57 [iN a0_1,iN (0),iN (1)] fun g h=>
 asB g fun i=>unn h (br i
 (some ((.bool (a0_0 == 2 && (a0_1 == a0_1 && (jt a0_2 { data:=#[] } && (a0_3 == 0 && (a0_4 == 0 && true)))))),[]))
 (some ((.bool false),[]))))
 (
 br (a0_0 == 3)
 (
 ib V 57 [iN a0_1,iN (-1000000000),iN (1000000000)] fun g h=>
 asB g fun i=>unn h (br i
 (some ((.bool (a0_0 == 3 && (a0_1 == a0_1 && (jt a0_2 { data:=#[] } && (a0_3 == 0 && (a0_4 == 0 && true)))))),[]))
 (some ((.bool false),[]))))
 (
 br (a0_0 == 4)
 (
 ib V 45 [.str a0_2] fun g h=>
 asB g fun i=>unn h (br i
 (some ((.bool (a0_0 == 4 && (a0_1 == 0 && (jt a0_2 a0_2 && (a0_3 == 0 && (a0_4 == 0 && true)))))),[]))
 (some ((.bool false),[]))))
 (
 br (a0_0 == 5)
 (
 br c
 (
 br f
 (
 br (a0_1 == 0)
 (some ((.bool (jt a0_2 { data:=#[] })),[]))
 (some ((.bool false),[])))
 (some ((.bool false),[])))
 (some ((.bool false),[])))
 (
 br (a0_0 == 6)
 (
 br c
 (
 ib V 57 [iN a0_1,iN (0),iN (1000000000)] fun g h=>
 asB g fun i=>unn h (br i
 (
 br (a0_4 == 0)
 (some ((.bool (jt a0_2 { data:=#[] })),[]))
 (some ((.bool false),[])))
 (some ((.bool false),[]))))
 (some ((.bool false),[])))
 (
 br (a0_0 == 7)
 (
 br c
 (
 br (a0_1 == 0)
 (
 br (a0_4 == 0)
 (some ((.bool (jt a0_2 { data:=#[] })),[]))
 (some ((.bool false),[])))
 (some ((.bool false),[])))
 (some ((.bool false),[])))
 (
 br (a0_0 == 8)
 (
 ib V 57 [iN a0_1,iN (0),iN (99)] fun g h=>
 asB g fun i=>unn h (br i
 (some ((.bool (a0_0 == 8 && (a0_1 == a0_1 && (jt a0_2 { data:=#[] } && (a0_3 == 0 && (a0_4 == 0 && true)))))),[]))
 (some ((.bool false),[]))))
 (
 br (a0_0 == 9)
 (
 ib V 57 [iN a0_1,iN (0),iN (1000000000)] fun g h=>
 asB g fun i=>unn h (br i
 (some ((.bool (a0_0 == 9 && (a0_1 == a0_1 && (jt a0_2 { data:=#[] } && (a0_3 == 0 && (a0_4 == 0 && true)))))),[]))
 (some ((.bool false),[]))))
 (some ((.bool false),[])))))))))))):=by
 exact (w8 Try.func41 rfl _).trans (by kernel_rfl)
theorem FW (a0_0:List D) (a1_:ByteArray):V 6 [.agg [.rs (5,0) a0_0],.str a1_] =
 ib V 10 [.agg [.rs (5,0) a0_0]] fun a b=>
 asB a fun c=>unn b (br (!c)
 (some ((.tup [.agg [.os (5,0) []],.os (1,0) [],iN (6),iN (0)]),[]))
 (
 br (decide (ni (ByteArray.size a1_) > 400))
 (
 ib V 17 [.agg [.rs (5,0) a0_0]] fun d e=>
 asAgg d fun f=>unc f fun g h=>im (5,0) g fun i=>unn h (unn e (some ((.tup [.agg [.os (5,0) i],.os (1,0) [],iN (1),iN (0)]),[]))))
 (
 ib V 17 [.agg [.rs (5,0) a0_0]] fun d e=>
 asAgg d fun f=>unc f fun g h=>im (5,0) g fun i=>unn h (unn e (ib V 18 [(.op [.os (5,0) i,(.os (1,2) [.os (1,0) []]),.os (1,0) []]),.str a1_] fun j k=>
 tk5 j fun l m=>(unc k fun n o=>tk3 n fun p q _=>(unn o (br (l == 0)
 (
 ib V 10 [.agg [.rs (5,0) p]] fun r s=>
 asB r fun t=>unn s (br (!t)
 (
 ib V 17 [.agg [.rs (5,0) a0_0]] fun u v=>
 asAgg u fun w=>unc w fun x y=>im (5,0) x fun z=>unn y (unn v (some ((.tup [.agg [.os (5,0) z],.os (1,0) [],iN (6),iN (0)]),[]))))
 (
 br (l != 0)
 (
 ib V 17 [.agg [.rs (5,0) a0_0]] fun u v=>
 asAgg u fun w=>unc w fun x y=>im (5,0) x fun z=>unn y (unn v (some ((.tup [.agg [.os (5,0) z],.os (1,0) [],iN l,iN m]),[]))))
 (
 grd (decide (0 <= 0) && decide (0 < ni q.length)) (cD q 0 fun u=>
 im (1,0) u fun v=>some ((.tup [.agg [.os (5,0) p],.os (1,0) v,iN (0),iN m]),[]))))))
 (
 br (l != 0)
 (
 ib V 17 [.agg [.rs (5,0) a0_0]] fun r s=>
 asAgg r fun t=>unc t fun u v=>im (5,0) u fun w=>unn v (unn s (some ((.tup [.agg [.os (5,0) w],.os (1,0) [],iN l,iN m]),[]))))
 (
 grd (decide (0 <= 0) && decide (0 < ni q.length)) (cD q 0 fun r=>
 im (1,0) r fun s=>some ((.tup [.agg [.os (5,0) p],.os (1,0) s,iN (0),iN m]),[])))))))))))):=by
 exact (w8 Try.func6 rfl _).trans (by kernel_rfl)
theorem Ec (a0_0:List D) (a0_1 a0_2:Int):V 34 [.op [.rs (1,0) a0_0,iN a0_1,iN a0_2]] =
 grd (!decide (33 < 0)) (grd (!decide (45 < 0)) (br (decide (a0_1 < ni a0_0.length))
 (
 grd (decide (0 <= a0_1) && decide (a0_1 < ni a0_0.length)) (cD a0_0 a0_1.toNat fun a=>
 asI .u8 a fun b=>some ((iN (w6 (ni (BitVec.toNat (BitVec.ofInt (IntKind.bits IntKind.i64) (w6 (w6 (ni (BitVec.toNat (BitVec.ofInt (IntKind.bits IntKind.i64) (w6 (ni (BitVec.toNat (BitVec.ofInt (IntKind.bits IntKind.i64) (Int.fdiv (w6 (w6 (a0_2 * 6364136223846793005) + 1442695040888963407)) (2 ^ min (Int.toNat (33)) (IntKind.bits IntKind.i64))) ^^^ BitVec.ofInt (IntKind.bits IntKind.i64) (Int.fdiv (w6 (w6 (a0_2 * 6364136223846793005) + 1442695040888963407)) (2 ^ min (Int.toNat (45)) (IntKind.bits IntKind.i64))))))) &&& BitVec.ofInt (IntKind.bits IntKind.i64) (255)))) + w6 b)) &&& BitVec.ofInt (IntKind.bits IntKind.i64) (255)))))),[(.op [.rs (1,0) a0_0,(iN (w6 (a0_1 + 1))),(iN (w6 (w6 (a0_2 * 6364136223846793005) + 1442695040888963407)))])])))
 (some ((iN (w6 (ni (BitVec.toNat (BitVec.ofInt (IntKind.bits IntKind.i64) (w6 (ni (BitVec.toNat (BitVec.ofInt (IntKind.bits IntKind.i64) (Int.fdiv (w6 (w6 (a0_2 * 6364136223846793005) + 1442695040888963407)) (2 ^ min (Int.toNat (33)) (IntKind.bits IntKind.i64))) ^^^ BitVec.ofInt (IntKind.bits IntKind.i64) (Int.fdiv (w6 (w6 (a0_2 * 6364136223846793005) + 1442695040888963407)) (2 ^ min (Int.toNat (45)) (IntKind.bits IntKind.i64))))))) &&& BitVec.ofInt (IntKind.bits IntKind.i64) (255)))))),[(.op [.rs (1,0) a0_0,iN a0_1,(iN (w6 (w6 (a0_2 * 6364136223846793005) + 1442695040888963407)))])])))):=by
 exact (w8 Try.func34 rfl _).trans (by kernel_rfl)
theorem zh (p0:ByteArray) (p1 p2:Int) (p3 p4:List D):yb p0 p1 p2 p3 p4 =
 br (decide (p2 < ni p3.length))
 (
 grd (decide (0 <= p2) && decide (p2 < ni p3.length)) (cD p3 p2.toNat fun a=>
 asI .i64 a fun b=>ib V 8 [.agg [.rs (5,0) p4],iN b] fun c d=>
 asS c fun e=>unn d (ib V 6 [.agg [.rs (5,0) p4],.str e] fun f g=>
 gZ f fun h=>unc h fun i j=>asAgg i fun k=>unc k fun l m=>im (5,0) l fun n=>unn m (unc j fun o p=>im (1,0) o fun q=>unc p fun r s=>asI .i64 r fun t=>unc s fun u v=>asI .i64 u fun _=>unn v (unn g (br (jt e { data:=#[] })
 (yb p0 p1 (w6 (p2 + 1)) p3 p4)
 (
 br (t == 6)
 (yb p0 p1 (w6 (p2 + 1)) p3 p4)
 (
 br (t != 0)
 (some ((.bool false),[]))
 (
 br (ni q.length != 1)
 (some ((.bool false),[]))
 (
 grd (decide (0 <= p2) && decide (p2 < ni p3.length)) (cD p3 p2.toNat fun w=>
 asI .i64 w fun x=>grd (decide (0 <= 0) && decide (0 < ni q.length)) (cD q 0 fun y=>
 asI .i64 y fun z=>ib V 9 [.agg [.rs (5,0) n],iN x,iN z] fun A B=>
 asB A fun C=>unn B (br (!C)
 (some ((.bool false),[]))
 (yb p0 p1 (w6 (p2 + 1)) p3 p4))))))))))))))
 (
 br (p1 == ni (ByteArray.size p0))
 (
 ib V 10 [.agg [.rs (5,0) p4]] fun a b=>
 asB a fun c=>unn b (some ((.bool c),[])))
 (some ((.bool false),[]))):=by
 exact (w7 _ _ _).trans (by kernel_rfl)
theorem yF (p0 p1:Int) (p2:List D) (p3 p4:Int) (p5:List D):xW p0 p1 p2 p3 p4 p5 =
 br (decide (p1 < p0))
 (
 ib V 51 [.op [.rs (1,0) p2,iN p3,iN p4],iN p1] fun a b=>
 asAgg a fun c=>unc c fun d e=>asI .i64 d fun f=>unc e fun g h=>asI .i64 g fun i=>unc h fun j k=>asS j fun l=>unc k fun m n=>asI .i64 m fun o=>unc n fun p q=>asI .i64 p fun r=>unn q (unc b fun s t=>mj s fun u=>unc u fun v w=>jE (1,0) v fun x=>unc w fun y z=>asI .i64 y fun A=>unc z fun B C=>asI .i64 B fun E=>unn C (unn t (ib V 24 [.op [.os (5,0) p5],.agg [iN f,iN i,.str l,iN o,iN r]] fun F G=>
 asI .i64 F fun _=>unc G fun H I=>mj H fun J=>unc J fun K L=>im (5,0) K fun M=>unn L (unn I (xW p0 (w6 (p1 + 1)) x A E M))))))
 (some ((.agg [.os (5,0) p5]),[.op [.rs (1,0) p2,iN p3,iN p4]])):=by
 exact (w7 _ _ _).trans (by kernel_rfl)
theorem Af (p0:ByteArray) (p1:List D) (p2 p3:Int) (p4:List D):xt p0 p1 p2 p3 p4 =
 ib V 16 [.op [.rs (1,0) p1,iN p2,iN p3],iN (2)] fun a b=>
 asI .i64 a fun c=>unc b fun d e=>mj d fun f=>unc f fun g h=>jE (1,0) g fun i=>unc h fun j k=>asI .i64 j fun l=>unc k fun m n=>asI .i64 m fun o=>unn n (unn e (br (decide (ni (ByteArray.size p0) < w6 (400 + c)))
 (
 grd (decide (ni (ByteArray.size p0 + ByteArray.size { data:=#[97] }) <= LIM)) (grd (!decide (9 = 0)) (br (Int.tmod (ni (ByteArray.size (p0++{ data:=#[97] }))) (9) == 0)
 (grd (decide (ni (ByteArray.size (p0++{ data:=#[97] }) + ByteArray.size { data:=#[32] }) <= LIM)) (xt (p0++{ data:=#[97] }++{ data:=#[32] }) i l o p4))
 (xt (p0++{ data:=#[97] }) i l o p4))))
 (some ((.tup [.agg [.os (5,0) p4],.str p0]),[])))):=by
 exact (w7 _ _ _).trans (by kernel_rfl)
theorem zr (p0:List D) (p1 p2:Int) (p3:List D):yK p0 p1 p2 p3 =
 br (decide (p2 < p1))
 (
 grd (decide (0 <= p2) && decide (p2 < ni p0.length)) (cD p0 p2.toNat fun a=>
 tk1 a fun b c d e f=>(ib V 29 [.agg [iN b,iN c,.str d,iN e,iN f],iN p2] fun g h=>
 asB g fun i=>unn h (br (!i)
 (some ((.bool false),[]))
 (yK p0 p1 (w6 (p2 + 1)) p3)))))
 (some ((.bool (decide (ni p3.length <= 3000))),[])):=by
 exact (w7 _ _ _).trans (by kernel_rfl)
theorem zK (p0:List D) (p1 p2:Int):yW p0 p1 p2 =
 br (decide (p2 < ni p0.length))
 (
 br (decide (p2 < 4000))
 (
 grd (decide (0 <= p2) && decide (p2 < ni p0.length)) (cD p0 p2.toNat fun a=>
 asI .u8 a fun b=>yW p0 (w6 (ni (BitVec.toNat (BitVec.ofInt (IntKind.bits IntKind.i64) (w6 (w6 (w6 (p1 * 131) + w6 b) + 7)) &&& BitVec.ofInt (IntKind.bits IntKind.i64) (1073741823))))) (w6 (p2 + 1))))
 (some ((.op [.rs (1,0) p0,iN (0),iN p1]),[])))
 (some ((.op [.rs (1,0) p0,iN (0),iN p1]),[])):=by
 exact (w7 _ _ _).trans (by kernel_rfl)
theorem zg (p0:ByteArray) (p1 p2 p3:Int):ya p0 p1 p2 p3 =
 br (decide (p3 < p2))
 (
 grd (decide (0 <= p3) && decide (p3 < ni (ByteArray.size p0))) (ib V 55 [.int .u8 (bt p0 p3)] fun a b=>
 asB a fun c=>unn b (br (!c)
 (some ((.tup [iN (0),.bool false]),[]))
 (grd (decide (0 <= p3) && decide (p3 < ni (ByteArray.size p0))) (ya p0 (w6 (w6 (10 * p1) + w6 (IntKind.wrap IntKind.u8 (bt p0 p3 - 48)))) p2 (w6 (p3 + 1)))))))
 (some ((.tup [iN p1,.bool true]),[])):=by
 exact (w7 _ _ _).trans (by kernel_rfl)
theorem Fg (p:List D) (k n:Int) (s:ByteArray) (a b:Int):V 24 [.op [.os (5,0) p],.agg [iN k,iN n,.str s,iN a,iN b]] =
 grd (decide (ni (List.length (p++[D.agg [iN k,iN n,D.str s,iN a,iN b]])) <= LIM)) (nam (p++[D.agg [iN k,iN n,D.str s,iN a,iN b]]) fun c=>
 some ((iN (w6 (ni c.length - 1))),[.op [.os (5,0) c]])):=by
 exact (w8 Try.func24 rfl _).trans (by kernel_rfl)
theorem Ei (p l:List D):V 21 [.op [.os (5,0) p],.rs (1,0) l] =
 ib V 24 [.op [.os (5,0) p],(.agg [iN (1),iN (0),.str ({ data:=#[] }),iN (0),iN (0)])] fun a b=>
 asI .i64 a fun c=>unc b fun d e=>mj d fun f=>unc f fun g h=>im (5,0) g fun i=>unn h (unn e (yM l c (w6 (ni l.length - 1)) i)):=by
 exact (w8 Try.func21 rfl _).trans (by kernel_rfl)
theorem y4 (p0:Int) (p1:ByteArray):yz p0 p1 =
 br (decide (p0 > 0))
 (grd (!decide (10 = 0)) (fW ([D.int IntKind.u8 (IntKind.wrap IntKind.u8 (w6 (48 + Int.tmod p0 (10))))]) fun a=>grd (decide (ni (ByteArray.size a + ByteArray.size p1) <= LIM)) (grd (!decide (10 = 0)) (yz (w6 (Int.tdiv p0 (10))) (a++p1)))))
 (some ((.str p1),[])):=by
 exact (w7 _ _ _).trans (by kernel_rfl)
theorem zq (p0:ByteArray) (p1 p2:Int):yu p0 p1 p2 =
 br (decide (p2 < p1))
 (
 grd (decide (0 <= p2) && decide (p2 < ni (ByteArray.size p0))) (ib V 54 [.int .u8 (bt p0 p2)] fun a b=>
 asB a fun c=>unn b (br (!c)
 (some ((.bool false),[]))
 (yu p0 p1 (w6 (p2 + 1))))))
 (some ((.bool true),[])):=by
 exact (w7 _ _ _).trans (by kernel_rfl)
theorem zi (a0_:List D) (a1_:Int):V 61 [.rs (1,0) a0_,.int .u8 a1_] =
 ib V 62 [.rs (1,0) a0_,.int .u8 a1_] fun a b=>
 asI .i64 a fun c=>unn b (some ((.bool (decide (c >= 0))),[])):=by
 exact (w8 Try.func61 rfl _).trans (by kernel_rfl)
theorem CP (a0_0:List D):V 17 [.agg [.rs (5,0) a0_0]] =
 ib V 35 [.rs (5,0) a0_0] fun a b=>
 im (5,0) a fun c=>unn b (some ((.agg [.os (5,0) c]),[])):=by
 exact (w8 Try.func17 rfl _).trans (by kernel_rfl)
theorem zN (a0_:List D) (a1_:Int):V 62 [.rs (1,0) a0_,.int .u8 a1_] =
 xF a0_ a1_ (ni a0_.length) (0):=by
 exact (w8 Try.func62 rfl _).trans (by kernel_rfl)
theorem Dp (a0_:Int):V 43 [.int .u8 a0_] =
 br (decide (a0_ >= 48))
 (some ((.bool (decide (a0_ <= 57))),[]))
 (some ((.bool false),[])):=by
 exact (w8 Try.func43 rfl _).trans (by kernel_rfl)
theorem Di (a0_0:List D):V 28 [.agg [.rs (5,0) a0_0]] =
 xm a0_0 (ni a0_0.length) (0) [] []:=by
 exact (w8 Try.func28 rfl _).trans (by kernel_rfl)

end Go.Eng
/-! the functions as the interpreter has them -/
namespace Go.Eng
open Go.Proofs Go.Proofs.Try
set_option maxRecDepth 100000
theorem A8 (p0:ByteArray) (p1:Nat) (p2:Int) (p3 p4 p5 p6:List D):xo p0 p1 p2 p3 p4 p5 p6 =
 br (decide (p2 < ni (ByteArray.size p0)))
 (
 grd (decide (0 <= p2) && decide (p2 < ni (ByteArray.size p0))) (br (bt p0 p2 == 32)
 (xo p0 p1 (w6 (p2 + 1)) p3 p4 p5 p6)
 (
 br (bt p0 p2 == 40)
 (grd (decide
 (ni
 (List.length
 (part p5 (some (0,p1)) ++
 [D.agg
 [iN p2,
 D.os
 (TypeInfo.size (Tables.types (Program.toTables Try.prog))[3],
 match pH Try.prog (3) with
 | true=>0
 | false=>1)
 []]])) <=
 LIM)) (nam (part p5 (some (0,p1)) ++
 [D.agg
 [iN p2,
 D.os
 (TypeInfo.size (Tables.types (Program.toTables Try.prog))[3],
 match pH Try.prog (3) with
 | true=>0
 | false=>1)
 []]]) fun a=>
 xp p0 (w6 (p2 + 1)) p3 p4 a p6))
 (
 br (bt p0 p2 == 41)
 (
 br (w6 (ni p1 - 1) == 0)
 (
 ib V 20 [.agg [.rs (5,0) p3]] fun a b=>
 asAgg a fun c=>unc c fun d e=>im (5,0) d fun f=>unn e (unn b (some ((.tup [.agg [.os (5,0) f],.os (1,0) p4,iN (5),iN p2]),[]))))
 (
 grd (decide (0 <= w6 (ni p1 - 1)) && decide (w6 (ni p1 - 1) < ni p1) && decide (0 + p1 <= List.length p5)) (cD p5 (0 + Int.toNat (w6 (ni p1 - 1))) fun a=>
 asAgg a fun b=>cD b 1 fun c=>
 im (1,0) c fun d=>asAgg a fun e=>ib V 21 [.op [.os (5,0) p6],.rs (1,0) d] fun f g=>
 asI .i64 f fun h=>unc g fun i j=>mj i fun k=>unc k fun l m=>im (5,0) l fun n=>unn m (unn j (grd (gq p1 (List.length (List.set p5 (0 + Int.toNat (w6 (ni p1 - 1))) (D.agg (List.take 1 e++[D.dead]++List.drop 2 e))) - 0) none (some (w6 (ni p1 - 1)))) (grd (decide (0 <= w6 (w6 (ni p1 - 1) - 1)) && decide (w6 (w6 (ni p1 - 1) - 1) < ni (Int.toNat (w6 (ni p1 - 1)))) && decide (0 + Int.toNat (w6 (ni p1 - 1)) <= List.length (List.set p5 (0 + Int.toNat (w6 (ni p1 - 1))) (D.agg (List.take 1 e++[D.dead]++List.drop 2 e))))) (cD (List.set p5 (0 + Int.toNat (w6 (ni p1 - 1))) (D.agg (List.take 1 e++[D.dead]++List.drop 2 e))) (0 + Int.toNat (w6 (w6 (ni p1 - 1) - 1))) fun o=>
 asAgg o fun p=>cD p 1 fun q=>
 im (1,0) q fun r=>asAgg o fun s=>grd (decide (ni (List.length (r++[iN h])) <= LIM)) (nam (r++[iN h]) fun t=>
 grd (decide (0 <= w6 (w6 (ni p1 - 1) - 1)) && decide (w6 (w6 (ni p1 - 1) - 1) < ni (Int.toNat (w6 (ni p1 - 1)))) && decide (0 + Int.toNat (w6 (ni p1 - 1)) <= List.length (List.set (List.set p5 (0 + Int.toNat (w6 (ni p1 - 1))) (D.agg (List.take 1 e++[D.dead]++List.drop 2 e))) (0 + Int.toNat (w6 (w6 (ni p1 - 1) - 1))) (D.agg (List.take 1 s++[D.dead]++List.drop 2 s))))) (cD (List.set (List.set p5 (0 + Int.toNat (w6 (ni p1 - 1))) (D.agg (List.take 1 e++[D.dead]++List.drop 2 e))) (0 + Int.toNat (w6 (w6 (ni p1 - 1) - 1))) (D.agg (List.take 1 s++[D.dead]++List.drop 2 s))) (0 + Int.toNat (w6 (w6 (ni p1 - 1) - 1))) fun u=>
 asAgg u fun v=>nam (List.set (List.set (List.set p5 (0 + Int.toNat (w6 (ni p1 - 1))) (D.agg (List.take 1 e++[D.dead]++List.drop 2 e))) (0 + Int.toNat (w6 (w6 (ni p1 - 1) - 1))) (D.agg (List.take 1 s++[D.dead]++List.drop 2 s))) (0 + Int.toNat (w6 (w6 (ni p1 - 1) - 1)))
 (D.agg
 (List.take 1 v ++
 [D.os
 (TypeInfo.size (Tables.types (Program.toTables Try.prog))[3],
 match pH Try.prog (3) with
 | true=>0
 | false=>1)
 t] ++
 List.drop 2 v))) fun w=>
 xo p0 (Int.toNat (w6 (ni p1 - 1))) (w6 (p2 + 1)) p3 p4 w n)))))))))
 (
 ib V 22 [.int .u8 (bt p0 p2)] fun a b=>
 asB a fun c=>unn b (br c
 (xL p0 p1 p2 (w6 (ni p1 - 1)) p2 p3 p4 p5 p6)
 (
 ib V 20 [.agg [.rs (5,0) p3]] fun d e=>
 asAgg d fun f=>unc f fun g h=>im (5,0) g fun i=>unn h (unn e (some ((.tup [.agg [.os (5,0) i],.os (1,0) p4,iN (2),iN p2]),[]))))))))))
 (
 br (decide (ni p1 > 1))
 (
 ib V 20 [.agg [.rs (5,0) p3]] fun a b=>
 asAgg a fun c=>unc c fun d e=>im (5,0) d fun f=>unn e (unn b (grd (decide (0 <= w6 (ni p1 - 1)) && decide (w6 (ni p1 - 1) < ni p1) && decide (0 + p1 <= List.length p5)) (cD p5 (0 + Int.toNat (w6 (ni p1 - 1))) fun g=>
 asAgg g fun h=>cD h 0 fun i=>
 asI .i64 i fun j=>some ((.tup [.agg [.os (5,0) f],.os (1,0) p4,iN (4),iN j]),[])))))
 (
 ib V 19 [.agg [.rs (5,0) p6]] fun a b=>
 asB a fun c=>unn b (br (!c)
 (
 ib V 20 [.agg [.rs (5,0) p3]] fun d e=>
 asAgg d fun f=>unc f fun g h=>im (5,0) g fun i=>unn h (unn e (some ((.tup [.agg [.os (5,0) i],.os (1,0) p4,iN (6),iN (0)]),[]))))
 (
 grd (decide (0 <= 0) && decide (0 < ni p1) && decide (0 + p1 <= List.length p5)) (cD p5 0 fun d=>
 asAgg d fun e=>cD e 1 fun f=>
 im (1,0) f fun g=>asAgg d fun h=>grd (decide (ni (List.length ([]++g)) <= LIM)) (nam ([]++g) fun i=>
 some ((.tup [.agg [.os (5,0) p6],.os (1,0) i,iN (0),(iN (ni (ByteArray.size p0)))]),[]))))))):=by
 exact (w7 _ _ _).trans (by kernel_rfl)
theorem Eh (a0_0:List D) (a0_1 a0_2:Int):V 12 [.op [.rs (1,0) a0_0,iN a0_1,iN a0_2]] =
 ib V 30 [.op [.rs (1,0) a0_0,iN a0_1,iN a0_2]] fun a b=>
 asAgg a fun c=>unc c fun d e=>im (5,0) d fun f=>unn e (unc b fun g h=>mj g fun i=>unc i fun j k=>jE (1,0) j fun l=>unc k fun m n=>asI .i64 m fun o=>unc n fun p q=>asI .i64 p fun r=>unn q (unn h (br (decide (ni f.length > 0))
 (
 ib V 14 [.op [.rs (1,0) l,iN o,iN r],iN (12)] fun s t=>
 asB s fun u=>unc t fun v w=>mj v fun x=>unc x fun y z=>jE (1,0) y fun A=>unc z fun B C=>asI .i64 B fun E=>unc C fun F G=>asI .i64 F fun H=>unn G (unn w (br u
 (
 ib V 16 [.op [.rs (1,0) A,iN E,iN H],(iN (ni f.length))] fun I J=>
 asI .i64 I fun K=>unc J fun L M=>mj L fun N=>unc N fun O P=>jE (1,0) O fun Q=>unc P fun R S=>asI .i64 R fun T=>unc S fun U W=>asI .i64 U fun X=>unn W (unn M (grd (decide (0 <= K) && decide (K < ni f.length)) (cD f K.toNat fun Y=>
 asAgg Y fun Z=>unc Z fun a0 a1=>asI .i64 a0 fun a2=>unc a1 fun a3 a4=>asI .i64 a3 fun a5=>unc a4 fun a6 a7=>asS a6 fun a8=>unc a7 fun a9 b0=>asI .i64 a9 fun b1=>unc b0 fun b2 b3=>asI .i64 b2 fun b4=>unn b3 (ib V 31 [.op [.rs (1,0) Q,iN T,iN X],.agg [iN a2,iN a5,.str a8,iN b1,iN b4]] fun b5 b6=>
 asAgg b5 fun b7=>unc b7 fun b8 b9=>asI .i64 b8 fun c0=>unc b9 fun c1 c2=>asI .i64 c1 fun c3=>unc c2 fun c4 c5=>asS c4 fun c6=>unc c5 fun c7 c8=>asI .i64 c7 fun c9=>unc c8 fun d0 d1=>asI .i64 d0 fun d2=>unn d1 (unc b6 fun d3 d4=>mj d3 fun d5=>unc d5 fun d6 d7=>jE (1,0) d6 fun d8=>unc d7 fun d9 e0=>asI .i64 d9 fun e1=>unc e0 fun e2 e3=>asI .i64 e2 fun e4=>unn e3 (unn d4 (grd (decide (0 <= K) && decide (K < ni f.length)) (cD f K.toNat fun _=>
 nam (List.set f K.toNat (D.agg [iN c0,iN c3,D.str c6,iN c9,iN d2])) fun e5=>
 ib V 14 [.op [.rs (1,0) d8,iN e1,iN e4],iN (60)] fun e6 e7=>
 asB e6 fun e8=>unc e7 fun e9 f0=>mj e9 fun f1=>unc f1 fun f2 f3=>jE (1,0) f2 fun f4=>unc f3 fun f5 f6=>asI .i64 f5 fun f7=>unc f6 fun f8 f9=>asI .i64 f8 fun g0=>unn f9 (unn f0 (br e8
 (
 ib V 16 [.op [.rs (1,0) f4,iN f7,iN g0],iN (2)] fun g1 g2=>
 asI .i64 g1 fun g3=>unc g2 fun g4 g5=>mj g4 fun g6=>unc g6 fun g7 g8=>jE (1,0) g7 fun g9=>unc g8 fun h0 h1=>asI .i64 h0 fun h2=>unc h1 fun h3 h4=>asI .i64 h3 fun h5=>unn h4 (unn g5 (grd (decide (0 <= w6 (3000 + g3)) && decide (w6 (3000 + g3) <= LIM)) (xR (0) g9 h2 h5 (List.replicate (Int.toNat (w6 (3000 + g3))) (D.agg [iN (0),iN (0),D.str { data:=#[] },iN (0),iN (0)]))))))
 (some ((.agg [.os (5,0) e5]),[.op [.rs (1,0) f4,iN f7,iN g0]])))))))))))))
 (
 ib V 14 [.op [.rs (1,0) A,iN E,iN H],iN (60)] fun I J=>
 asB I fun K=>unc J fun L M=>mj L fun N=>unc N fun O P=>jE (1,0) O fun Q=>unc P fun R S=>asI .i64 R fun T=>unc S fun U W=>asI .i64 U fun X=>unn W (unn M (br K
 (
 ib V 16 [.op [.rs (1,0) Q,iN T,iN X],iN (2)] fun Y Z=>
 asI .i64 Y fun a0=>unc Z fun a1 a2=>mj a1 fun a3=>unc a3 fun a4 a5=>jE (1,0) a4 fun a6=>unc a5 fun a7 a8=>asI .i64 a7 fun a9=>unc a8 fun b0 b1=>asI .i64 b0 fun b2=>unn b1 (unn a2 (grd (decide (0 <= w6 (3000 + a0)) && decide (w6 (3000 + a0) <= LIM)) (xR (0) a6 a9 b2 (List.replicate (Int.toNat (w6 (3000 + a0))) (D.agg [iN (0),iN (0),D.str { data:=#[] },iN (0),iN (0)]))))))
 (some ((.agg [.os (5,0) f]),[.op [.rs (1,0) Q,iN T,iN X]]))))))))
 (
 ib V 14 [.op [.rs (1,0) l,iN o,iN r],iN (60)] fun s t=>
 asB s fun u=>unc t fun v w=>mj v fun x=>unc x fun y z=>jE (1,0) y fun A=>unc z fun B C=>asI .i64 B fun E=>unc C fun F G=>asI .i64 F fun H=>unn G (unn w (br u
 (
 ib V 16 [.op [.rs (1,0) A,iN E,iN H],iN (2)] fun I J=>
 asI .i64 I fun K=>unc J fun L M=>mj L fun N=>unc N fun O P=>jE (1,0) O fun Q=>unc P fun R S=>asI .i64 R fun T=>unc S fun U W=>asI .i64 U fun X=>unn W (unn M (grd (decide (0 <= w6 (3000 + K)) && decide (w6 (3000 + K) <= LIM)) (xR (0) Q T X (List.replicate (Int.toNat (w6 (3000 + K))) (D.agg [iN (0),iN (0),D.str { data:=#[] },iN (0),iN (0)]))))))
 (some ((.agg [.os (5,0) f]),[.op [.rs (1,0) A,iN E,iN H]])))))))):=by
 exact (w8 Try.func12 rfl _).trans (by kernel_rfl)
theorem BM (a0_0:List D) (a0_1 a0_2 a1_:Int):V 51 [.op [.rs (1,0) a0_0,iN a0_1,iN a0_2],iN a1_] =
 br (a1_ == 0)
 (
 ib V 59 [.op [.rs (1,0) a0_0,iN a0_1,iN a0_2]] fun a b=>
 asAgg a fun c=>unc c fun d e=>asI .i64 d fun f=>unc e fun g h=>asI .i64 g fun i=>unc h fun j k=>asS j fun l=>unc k fun m n=>asI .i64 m fun o=>unc n fun p q=>asI .i64 p fun r=>unn q (unc b fun s t=>mj s fun u=>unc u fun v w=>jE (1,0) v fun x=>unc w fun y z=>asI .i64 y fun A=>unc z fun B C=>asI .i64 B fun E=>unn C (unn t (some ((.agg [iN f,iN i,.str l,iN o,iN r]),[.op [.rs (1,0) x,iN A,iN E]])))))
 (
 ib V 14 [.op [.rs (1,0) a0_0,iN a0_1,iN a0_2],iN (2)] fun a b=>
 asB a fun c=>unc b fun d e=>mj d fun f=>unc f fun g h=>jE (1,0) g fun i=>unc h fun j k=>asI .i64 j fun l=>unc k fun m n=>asI .i64 m fun o=>unn n (unn e (br c
 (
 ib V 59 [.op [.rs (1,0) i,iN l,iN o]] fun p q=>
 asAgg p fun r=>unc r fun s t=>asI .i64 s fun u=>unc t fun v w=>asI .i64 v fun x=>unc w fun y z=>asS y fun A=>unc z fun B C=>asI .i64 B fun E=>unc C fun F G=>asI .i64 F fun H=>unn G (unc q fun I J=>mj I fun K=>unc K fun L M=>jE (1,0) L fun N=>unc M fun O P=>asI .i64 O fun Q=>unc P fun R S=>asI .i64 R fun T=>unn S (unn J (some ((.agg [iN u,iN x,.str A,iN E,iN H]),[.op [.rs (1,0) N,iN Q,iN T]])))))
 (
 ib V 33 [iN a1_,iN (5)] fun p q=>
 asI .i64 p fun r=>unn q (ib V 16 [.op [.rs (1,0) i,iN l,iN o],iN r] fun s t=>
 asI .i64 s fun u=>unc t fun v w=>mj v fun x=>unc x fun y z=>jE (1,0) y fun A=>unc z fun B C=>asI .i64 B fun E=>unc C fun F G=>asI .i64 F fun H=>unn G (unn w (ib V 16 [.op [.rs (1,0) A,iN E,iN H],iN (8)] fun I J=>
 asI .i64 I fun K=>unc J fun L M=>mj L fun N=>unc N fun O P=>jE (1,0) O fun Q=>unc P fun R S=>asI .i64 R fun T=>unc S fun U W=>asI .i64 U fun X=>unn W (unn M (br (K == 0)
 (
 ib V 16 [.op [.rs (1,0) Q,iN T,iN X],iN (9)] fun Y Z=>
 asI .i64 Y fun a0=>unc Z fun a1 a2=>mj a1 fun a3=>unc a3 fun a4 a5=>jE (1,0) a4 fun a6=>unc a5 fun a7 a8=>asI .i64 a7 fun a9=>unc a8 fun b0 b1=>asI .i64 b0 fun b2=>unn b1 (unn a2 (some ((.agg [iN (6),iN a0,.str ({ data:=#[] }),(iN (w6 (w6 (a1_ - 1) - u))),iN (0)]),[.op [.rs (1,0) a6,iN a9,iN b2]]))))
 (
 br (K == 1)
 (some ((.agg [iN (7),iN (0),.str ({ data:=#[] }),(iN (w6 (w6 (a1_ - 1) - u))),iN (0)]),[.op [.rs (1,0) Q,iN T,iN X]]))
 (
 ib V 33 [iN a1_,iN (4)] fun Y Z=>
 asI .i64 Y fun a0=>unn Z (ib V 16 [.op [.rs (1,0) Q,iN T,iN X],iN a0] fun a1 a2=>
 asI .i64 a1 fun a3=>unc a2 fun a4 a5=>mj a4 fun a6=>unc a6 fun a7 a8=>jE (1,0) a7 fun a9=>unc a8 fun b0 b1=>asI .i64 b0 fun b2=>unc b1 fun b3 b4=>asI .i64 b3 fun b5=>unn b4 (unn a5 (some ((.agg [iN (5),iN (0),.str ({ data:=#[] }),(iN (w6 (w6 (a1_ - 1) - u))),(iN (w6 (w6 (a1_ - 1) - a3)))]),[.op [.rs (1,0) a9,iN b2,iN b5]]))))))))))))))):=by
 exact (w8 Try.func51 rfl _).trans (by kernel_rfl)
theorem yI (p0:ByteArray) (p1 p2:Int) (p3 p4 p5:List D):xI p0 p1 p2 p3 p4 p5 =
 br (decide (p2 < ni (ByteArray.size p0)))
 (
 grd (decide (0 <= p2) && decide (p2 < ni (ByteArray.size p0))) (ib V 37 [.int .u8 (bt p0 p2)] fun a b=>
 asB a fun c=>unn b (br c
 (xI p0 p1 (w6 (p2 + 1)) p3 p4 p5)
 (
 grd (cG (ByteArray.size p0) (some p1) (some p2)) (ib V 38 [(.str (ByteArray.extract p0 p1.toNat p2.toNat))] fun d e=>
 gZ d fun f=>unc f fun g h=>tk1 g fun i j k l m=>(unc h fun n o=>asB n fun p=>unn o (unn e (br (!p)
 (some ((.tup [iN (3),iN p1]),[.op [.os (5,0) p3,.os (1,2) p4,.os (1,0) p5]]))
 (
 ib V 40 [.op [.os (5,0) p3],.agg [iN i,iN j,.str k,iN l,iN m]] fun q r=>
 asI .i64 q fun s=>unc r fun t u=>mj t fun v=>unc v fun w x=>im (5,0) w fun y=>unn x (unn u (ib V 39 [.op [.os (5,0) y,.os (1,2) p4,.os (1,0) p5],iN s] fun z A=>
 gZ z fun B=>unn B (unc A fun C E=>tk3 C fun F G H=>(unn E (xl p0 p2 F G H))))))))))))))
 (
 grd (cG (ByteArray.size p0) (some p1) (some p2)) (ib V 38 [(.str (ByteArray.extract p0 p1.toNat p2.toNat))] fun a b=>
 gZ a fun c=>unc c fun d e=>tk1 d fun f g h i j=>(unc e fun k l=>asB k fun m=>unn l (unn b (br (!m)
 (some ((.tup [iN (3),iN p1]),[.op [.os (5,0) p3,.os (1,2) p4,.os (1,0) p5]]))
 (
 ib V 40 [.op [.os (5,0) p3],.agg [iN f,iN g,.str h,iN i,iN j]] fun n o=>
 asI .i64 n fun p=>unc o fun q r=>mj q fun s=>unc s fun t u=>im (5,0) t fun v=>unn u (unn r (ib V 39 [.op [.os (5,0) v,.os (1,2) p4,.os (1,0) p5],iN p] fun w x=>
 gZ w fun y=>unn y (unc x fun z A=>tk3 z fun B C E=>(unn A (xl p0 p2 B C E))))))))))):=by
 exact (w7 _ _ _).trans (by kernel_rfl)
theorem Ek (a0_0:List D) (a0_1 a0_2:Int) (a1_:ByteArray) (a2_:List D):V 15 [.op [.rs (1,0) a0_0,iN a0_1,iN a0_2],.str a1_,.rs (1,0) a2_] =
 ib V 16 [.op [.rs (1,0) a0_0,iN a0_1,iN a0_2],(iN (w6 (ni (ByteArray.size a1_) + 1)))] fun a b=>
 asI .i64 a fun c=>unc b fun d e=>tk2 d fun f g h=>(unn e (ib V 16 [.op [.rs (1,0) f,iN g,iN h],iN (3)] fun i j=>
 asI .i64 i fun k=>unc j fun l m=>tk2 l fun n o p=>(unn m (br (k == 0)
 (grd (cG (ByteArray.size a1_) none (some c)) (some ((.str (ByteArray.extract a1_ (0) c.toNat)),[.op [.rs (1,0) n,iN o,iN p]])))
 (
 br (k == 1)
 (
 grd (cG (ByteArray.size a1_) none (some c)) (ib V 32 [.op [.rs (1,0) n,iN o,iN p],.rs (1,0) a2_] fun q r=>
 asS q fun s=>unc r fun t u=>tk2 t fun v w x=>(unn u (grd (decide (ni (ByteArray.size (ByteArray.extract a1_ (0) c.toNat) + ByteArray.size s) <= LIM)) (ib V 33 [(iN (w6 (c + 1))),(iN (ni (ByteArray.size a1_)))] fun y z=>
 asI .i64 y fun A=>unn z (grd (cG (ByteArray.size a1_) (some A) none) (grd (decide (ni (ByteArray.size (ByteArray.extract a1_ (0) c.toNat++s) + ByteArray.size (ByteArray.extract a1_ A.toNat (ByteArray.size a1_))) <= LIM)) (some ((.str (ByteArray.extract a1_ (0) c.toNat++s++ByteArray.extract a1_ A.toNat (ByteArray.size a1_))),[.op [.rs (1,0) v,iN w,iN x]])))))))))
 (
 grd (cG (ByteArray.size a1_) none (some c)) (ib V 32 [.op [.rs (1,0) n,iN o,iN p],.rs (1,0) a2_] fun q r=>
 asS q fun s=>unc r fun t u=>tk2 t fun v w x=>(unn u (grd (decide (ni (ByteArray.size (ByteArray.extract a1_ (0) c.toNat) + ByteArray.size s) <= LIM)) (grd (cG (ByteArray.size a1_) (some c) none) (grd (decide (ni (ByteArray.size (ByteArray.extract a1_ (0) c.toNat++s) + ByteArray.size (ByteArray.extract a1_ c.toNat (ByteArray.size a1_))) <= LIM)) (some ((.str (ByteArray.extract a1_ (0) c.toNat++s++ByteArray.extract a1_ c.toNat (ByteArray.size a1_))),[.op [.rs (1,0) v,iN w,iN x]]))))))))))))):=by
 exact (w8 Try.func15 rfl _).trans (by kernel_rfl)
theorem D6 (a0_:List D):V 3 [.rs (1,0) a0_] =
 ib V 4 [.rs (1,0) a0_] fun a b=>
 asB a fun c=>unn b (br c
 (some ((.bool true),[]))
 (
 ib V 5 [.rs (1,0) a0_] fun d e=>
 gZ d fun f=>unc f fun g h=>asAgg g fun i=>unc i fun j k=>kT (5,0) j fun l=>unn k (unc h fun m n=>asS m fun o=>unn n (unn e (ib V 6 [.agg [.rs (5,0) l],.str o] fun p q=>
 gZ p fun r=>unc r fun s t=>asAgg s fun u=>unc u fun v w=>im (5,0) v fun x=>unn w (unc t fun y z=>im (1,0) y fun A=>unc z fun B C=>asI .i64 B fun E=>unc C fun F G=>asI .i64 F fun H=>unn G (unn q (ib V 7 [.agg [.rs (5,0) l],.str o] fun I J=>
 gZ I fun K=>unc K fun L M=>asAgg L fun N=>unc N fun O P=>im (5,0) O fun _=>unn P (unc M fun Q R=>im (1,0) Q fun _=>unc R fun S T=>asI .i64 S fun U=>unc T fun W X=>asI .i64 W fun Y=>unn X (unn J (br (E != U)
 (some ((.bool false),[]))
 (
 br (H != Y)
 (some ((.bool false),[]))
 (
 br (E != 0)
 (
 br (ni A.length == 0)
 (
 br (decide (H >= 0))
 (
 br (decide (H <= ni (ByteArray.size o)))
 (
 br (ni x.length == ni l.length)
 (some ((.bool true),[]))
 (some ((.bool (ni x.length == 0)),[])))
 (some ((.bool false),[])))
 (some ((.bool false),[])))
 (some ((.bool false),[])))
 (yb o H (0) A x)))))))))))))):=by
 exact (w8 Try.func3 rfl _).trans (by kernel_rfl)
theorem zL (p0 p1:ByteArray) (p2 p3:Int):xP p0 p1 p2 p3 =
 br (decide (p3 < ni (ByteArray.size p1)))
 (
 grd (decide (0 <= p3) && decide (p3 < ni (ByteArray.size p1))) (ib V 43 [.int .u8 (bt p1 p3)] fun a b=>
 asB a fun c=>unn b (br (!c)
 (some ((.tup [iN (0),.bool false]),[]))
 (grd (decide (0 <= p3) && decide (p3 < ni (ByteArray.size p1))) (xP p0 p1 (w6 (w6 (w6 (10 * p2) + w6 (bt p1 p3)) - 48)) (w6 (p3 + 1)))))))
 (
 br (ni (ByteArray.size p1) != ni (ByteArray.size p0))
 (
 ib V 58 [(iN (w6 (0 - p2)))] fun a b=>
 asS a fun c=>unn b (br (jt c p0)
 (
 ib V 57 [(iN (w6 (0 - p2))),iN (-1000000000),iN (1000000000)] fun d e=>
 asB d fun f=>unn e (some ((.tup [(iN (w6 (0 - p2))),.bool f]),[])))
 (some ((.tup [(iN (w6 (0 - p2))),.bool false]),[]))))
 (
 ib V 58 [iN p2] fun a b=>
 asS a fun c=>unn b (br (jt c p0)
 (
 ib V 57 [iN p2,iN (-1000000000),iN (1000000000)] fun d e=>
 asB d fun f=>unn e (some ((.tup [iN p2,.bool f]),[])))
 (some ((.tup [iN p2,.bool false]),[]))))):=by
 exact (w7 _ _ _).trans (by kernel_rfl)
theorem Fc (a0_0:List D) (a1_:Int):V 8 [.agg [.rs (5,0) a0_0],iN a1_] =
 ib V 10 [.agg [.rs (5,0) a0_0]] fun a b=>
 asB a fun c=>unn b (br (!c)
 (some ((.str ({ data:=#[] })),[]))
 (
 ib V 25 [.agg [.rs (5,0) a0_0],iN a1_] fun d e=>
 asB d fun f=>unn e (br (!f)
 (some ((.str ({ data:=#[] })),[]))
 (
 grd (decide (0 <= a1_) && decide (a1_ < ni a0_0.length)) (cD a0_0 a1_.toNat fun g=>
 asAgg g fun h=>cD h 0 fun i=>
 asI .i64 i fun j=>br (j == 1)
 (some ((.str ({ data:=#[40,41] })),[]))
 (
 ib V 26 [.op [.rs (5,0) a0_0,.os (1,0) []],iN a1_] fun k l=>
 gZ k fun m=>unn m (unc l fun n o=>tk6 n fun p q=>(unn o (ib V 27 [.op [.rs (5,0) p,.os (1,0) q]] fun r s=>
 asB r fun t=>unc s fun u v=>tk6 u fun _ w=>(unn v (br t
 (some ((.str ({ data:=#[] })),[]))
 (fW w fun x=>some ((.str x),[]))))))))))))):=by
 exact (w8 Try.func8 rfl _).trans (by kernel_rfl)
theorem F4 (a0_0:List D) (a1_:ByteArray):V 7 [.agg [.rs (5,0) a0_0],.str a1_] =
 ib V 19 [.agg [.rs (5,0) a0_0]] fun a b=>
 asB a fun c=>unn b (br (!c)
 (some ((.tup [.agg [.os (5,0) []],.os (1,0) [],iN (6),iN (0)]),[]))
 (
 br (decide (ni (ByteArray.size a1_) > 400))
 (
 ib V 20 [.agg [.rs (5,0) a0_0]] fun d e=>
 asAgg d fun f=>unc f fun g h=>im (5,0) g fun i=>unn h (unn e (some ((.tup [.agg [.os (5,0) i],.os (1,0) [],iN (1),iN (0)]),[]))))
 (
 ib V 20 [.agg [.rs (5,0) a0_0]] fun d e=>
 asAgg d fun f=>unc f fun g h=>im (5,0) g fun i=>unn h (unn e (xp a1_ (0) a0_0 [] ([D.agg
 [iN (0),
 D.os
 (TypeInfo.size (Tables.types (Program.toTables Try.prog))[3],
 match pH Try.prog (3) with
 | true=>0
 | false=>1)
 []]]) i))))):=by
 exact (w8 Try.func7 rfl _).trans (by kernel_rfl)
theorem FX (a0_0:List D) (a1_ a2_:Int):V 9 [.agg [.rs (5,0) a0_0],iN a1_,iN a2_] =
 ib V 10 [.agg [.rs (5,0) a0_0]] fun a b=>
 asB a fun c=>unn b (br (!c)
 (some ((.bool false),[]))
 (
 ib V 25 [.agg [.rs (5,0) a0_0],iN a1_] fun d e=>
 asB d fun f=>unn e (br (!f)
 (some ((.bool false),[]))
 (
 ib V 25 [.agg [.rs (5,0) a0_0],iN a2_] fun g h=>
 asB g fun i=>unn h (br (!i)
 (some ((.bool false),[]))
 (
 ib V 28 [.agg [.rs (5,0) a0_0]] fun j k=>
 im (1,0) j fun l=>unn k (grd (decide (0 <= a1_) && decide (a1_ < ni l.length)) (cD l a1_.toNat fun m=>
 asI .i64 m fun n=>grd (decide (0 <= a2_) && decide (a2_ < ni l.length)) (cD l a2_.toNat fun o=>
 asI .i64 o fun p=>some ((.bool (n == p)),[])))))))))):=by
 exact (w8 Try.func9 rfl _).trans (by kernel_rfl)
theorem BI (a0_:Int):V 54 [.int .u8 a0_] =
 br (decide (a0_ >= 97))
 (
 br (decide (a0_ <= 122))
 (some ((.bool true),[]))
 (
 grd (decide (0 < 8)) (ib V 61 [.rs (1,0) [.int .u8 (43),.int .u8 (45),.int .u8 (42),.int .u8 (60),.int .u8 (61),.int .u8 (63),.int .u8 (33),.int .u8 (47)],.int .u8 a0_] fun a b=>
 asB a fun c=>unn b (some ((.bool c),[])))))
 (
 grd (decide (0 < 8)) (ib V 61 [.rs (1,0) [.int .u8 (43),.int .u8 (45),.int .u8 (42),.int .u8 (60),.int .u8 (61),.int .u8 (63),.int .u8 (33),.int .u8 (47)],.int .u8 a0_] fun a b=>
 asB a fun c=>unn b (some ((.bool c),[])))):=by
 exact (w8 Try.func54 rfl _).trans (by kernel_rfl)
theorem Dl (a0_:ByteArray) (a1_:Int):V 56 [.str a0_,iN a1_] =
 br (jt a0_ { data:=#[] })
 (some ((.tup [iN (0),.bool false]),[]))
 (
 br (decide (ni (ByteArray.size a0_) > a1_))
 (some ((.tup [iN (0),.bool false]),[]))
 (
 grd (decide (0 <= 0) && decide (0 < ni (ByteArray.size a0_))) (br (bt a0_ (0) == 48)
 (
 br (decide (ni (ByteArray.size a0_) > 1))
 (some ((.tup [iN (0),.bool false]),[]))
 (ya a0_ (0) (ni (ByteArray.size a0_)) (0)))
 (ya a0_ (0) (ni (ByteArray.size a0_)) (0))))):=by
 exact (w8 Try.func56 rfl _).trans (by kernel_rfl)
theorem Ed (a0_0:List D) (a0_1 a0_2 a1_:Int):V 14 [.op [.rs (1,0) a0_0,iN a0_1,iN a0_2],iN a1_] =
 ib V 16 [.op [.rs (1,0) a0_0,iN a0_1,iN a0_2],iN a1_] fun a b=>
 asI .i64 a fun c=>unc b fun d e=>mj d fun f=>unc f fun g h=>jE (1,0) g fun i=>unc h fun j k=>asI .i64 j fun l=>unc k fun m n=>asI .i64 m fun o=>unn n (unn e (some ((.bool (c == 0)),[.op [.rs (1,0) i,iN l,iN o]]))):=by
 exact (w8 Try.func14 rfl _).trans (by kernel_rfl)
theorem zt (p0:ByteArray) (p1:Int):yv p0 p1 =
 br (decide (p1 < ni (ByteArray.size p0)))
 (
 grd (decide (0 <= p1) && decide (p1 < ni (ByteArray.size p0))) (ib V 42 [.int .u8 (bt p0 p1)] fun a b=>
 asB a fun c=>unn b (br (!c)
 (some ((.bool false),[]))
 (yv p0 (w6 (p1 + 1))))))
 (
 ib V 57 [(iN (ni (ByteArray.size p0))),iN (1),iN (12)] fun a b=>
 asB a fun c=>unn b (some ((.bool c),[]))):=by
 exact (w7 _ _ _).trans (by kernel_rfl)
theorem yn (p0:List D) (p1 p2 p3:Int):xF p0 p1 p2 p3 =
 br (decide (p3 < p2))
 (
 grd (decide (0 <= p3) && decide (p3 < ni p0.length)) (cD p0 p3.toNat fun a=>
 asI .u8 a fun b=>br (p1 == b)
 (some ((iN p3),[]))
 (xF p0 p1 p2 (w6 (p3 + 1)))))
 (some ((iN (-1)),[])):=by
 exact (w7 _ _ _).trans (by kernel_rfl)
theorem DZ (a0_:ByteArray):V 50 [.str a0_] =
 ib V 46 [(iN (ni (ByteArray.size a0_))),iN (1),iN (12)] fun a b=>
 asB a fun c=>unn b (br (!c)
 (some ((.bool false),[]))
 (yu a0_ (ni (ByteArray.size a0_)) (0))):=by
 exact (w8 Try.func50 rfl _).trans (by kernel_rfl)
theorem D3 (a0_0:List D) (a1_:Int):V 25 [.agg [.rs (5,0) a0_0],iN a1_] =
 ib V 46 [iN a1_,iN (0),(iN (w6 (ni a0_0.length - 1)))] fun a b=>
 asB a fun c=>unn b (some ((.bool c),[])):=by
 exact (w8 Try.func25 rfl _).trans (by kernel_rfl)
theorem F6 (a0_ a1_ a2_:Int):V 57 [iN a0_,iN a1_,iN a2_] =
 br (decide (a0_ >= a1_))
 (some ((.bool (decide (a0_ <= a2_))),[]))
 (some ((.bool false),[])):=by
 exact (w8 Try.func57 rfl _).trans (by kernel_rfl)
theorem Fe (a0_ a1_:Int):V 33 [iN a0_,iN a1_] =
 br (decide (a0_ < a1_))
 (some ((iN a0_),[]))
 (some ((iN a1_),[])):=by
 exact (w8 Try.func33 rfl _).trans (by kernel_rfl)
theorem Dk (a0_:Int):V 55 [.int .u8 a0_] =
 br (decide (a0_ >= 48))
 (some ((.bool (decide (a0_ <= 57))),[]))
 (some ((.bool false),[])):=by
 exact (w8 Try.func55 rfl _).trans (by kernel_rfl)
theorem GG (a0_:List D):V 4 [.rs (1,0) a0_] =
 some ((.bool (decide (ni a0_.length > 1048576))),[]):=by
 exact (w8 Try.func4 rfl _).trans (by kernel_rfl)

end Go.Eng
/-! a call and its results,taken in one step -/
namespace Go.Eng
open Go.Proofs
theorem y8 {ds:List D} {v2:ByteArray} (h:V 49 ds = some (.str v2,[])) (K:ByteArray->Option Ret):ib V 49 ds (fun v0 v1=>asS v0 fun v2=>unn v1 ((K v2))) = K v2:=(vp h _).trans rfl
theorem yc {ds:List D} {v2:Bool} (h:V 22 ds = some (.bool v2,[])) (K:Bool->Option Ret):ib V 22 ds (fun v0 v1=>asB v0 fun v2=>unn v1 ((K v2))) = K v2:=(vp h _).trans rfl
theorem zB {ds:List D} {v8 v11:Int} {v14:ByteArray} {v17 v20:Int} {v23:Bool} (h:V 23 ds = some (.tup [.agg [iN v8,iN v11,.str v14,iN v17,iN v20],.bool v23],[])) (K:Int->Int->ByteArray->Int->Int->Bool->Option Ret):ib V 23 ds (fun v0 v1=>gZ v0 fun v2=>unc v2 fun v3 v4=>tk1 v3 fun v8 v11 v14 v17 v20=>(unc v4 fun v21 v22=>asB v21 fun v23=>unn v22 (unn v1 ((K v8 v11 v14 v17 v20 v23))))) = K v8 v11 v14 v17 v20 v23:=(vp h _).trans rfl
theorem xz {ds v5:List D} (h:V 20 ds = some (.agg [.os (5,0) v5],[])) (K:List D->Option Ret):ib V 20 ds (fun v0 v1=>asAgg v0 fun v2=>unc v2 fun v3 v4=>im (5,0) v3 fun v5=>unn v4 (unn v1 ((K v5)))) = K v5:=(vp h _).trans rfl
theorem yV {ds:List D} {v2:Int} {v8:List D} (h:V 24 ds = some (iN v2,[.op [.os (5,0) v8]])) (K:Int->List D->Option Ret):ib V 24 ds (fun v0 v1=>asI .i64 v0 fun v2=>unc v1 fun v3 v4=>mj v3 fun v5=>unc v5 fun v6 v7=>im (5,0) v6 fun v8=>unn v7 (unn v4 ((K v2 v8)))) = K v2 v8:=(vp h _).trans rfl
theorem xu {ds:List D} {v2:Bool} (h:V 46 ds = some (.bool v2,[])) (K:Bool->Option Ret):ib V 46 ds (fun v0 v1=>asB v0 fun v2=>unn v1 ((K v2))) = K v2:=(vp h _).trans rfl
theorem Cg {ds:List D} {v2:Bool} (h:V 50 ds = some (.bool v2,[])) (K:Bool->Option Ret):ib V 50 ds (fun v0 v1=>asB v0 fun v2=>unn v1 ((K v2))) = K v2:=(vp h _).trans rfl
theorem Bl {ds:List D} {v2:Int} {v8:List D} {v11 v14:Int} (h:V 16 ds = some (iN v2,[.op [.rs (1,0) v8,iN v11,iN v14]])) (K:Int->List D->Int->Int->Option Ret):ib V 16 ds (fun v0 v1=>asI .i64 v0 fun v2=>unc v1 fun v3 v4=>tk2 v3 fun v8 v11 v14=>(unn v4 ((K v2 v8 v11 v14)))) = K v2 v8 v11 v14:=(vp h _).trans rfl
theorem Et {ds:List D} {v2:Int} {v8:List D} (h:V 53 ds = some (iN v2,[.op [.os (5,0) v8]])) (K:Int->List D->Option Ret):ib V 53 ds (fun v0 v1=>asI .i64 v0 fun v2=>unc v1 fun v3 v4=>mj v3 fun v5=>unc v5 fun v6 v7=>im (5,0) v6 fun v8=>unn v7 (unn v4 ((K v2 v8)))) = K v2 v8:=(vp h _).trans rfl
theorem zk {ds v8 v11 v14:List D} (h:V 39 ds = some (.tup [],[.op [.os (5,0) v8,.os (1,2) v11,.os (1,0) v14]])) (K:List D->List D->List D->Option Ret):ib V 39 ds (fun v0 v1=>gZ v0 fun v2=>unn v2 (unc v1 fun v3 v4=>tk3 v3 fun v8 v11 v14=>(unn v4 ((K v8 v11 v14))))) = K v8 v11 v14:=(vp h _).trans rfl
theorem Gi {ds:List D} {v5:Int} {v8:Bool} (h:V 44 ds = some (.tup [iN v5,.bool v8],[])) (K:Int->Bool->Option Ret):ib V 44 ds (fun v0 v1=>tk4 v0 fun v5 v8=>(unn v1 ((K v5 v8)))) = K v5 v8:=(vp h _).trans rfl
theorem Cj {ds:List D} {v2:Bool} (h:V 45 ds = some (.bool v2,[])) (K:Bool->Option Ret):ib V 45 ds (fun v0 v1=>asB v0 fun v2=>unn v1 ((K v2))) = K v2:=(vp h _).trans rfl
theorem Eu {ds:List D} {v2:Int} {v8:List D} (h:V 60 ds = some (iN v2,[.op [.os (5,0) v8]])) (K:Int->List D->Option Ret):ib V 60 ds (fun v0 v1=>asI .i64 v0 fun v2=>unc v1 fun v3 v4=>mj v3 fun v5=>unc v5 fun v6 v7=>im (5,0) v6 fun v8=>unn v7 (unn v4 ((K v2 v8)))) = K v2 v8:=(vp h _).trans rfl
theorem zG {ds:List D} {v2:ByteArray} (h:V 58 ds = some (.str v2,[])) (K:ByteArray->Option Ret):ib V 58 ds (fun v0 v1=>asS v0 fun v2=>unn v1 ((K v2))) = K v2:=(vp h _).trans rfl
theorem z9 {ds:List D} {v2:Bool} (h:V 54 ds = some (.bool v2,[])) (K:Bool->Option Ret):ib V 54 ds (fun v0 v1=>asB v0 fun v2=>unn v1 ((K v2))) = K v2:=(vp h _).trans rfl
theorem z6 {ds:List D} {v2:Bool} (h:V 55 ds = some (.bool v2,[])) (K:Bool->Option Ret):ib V 55 ds (fun v0 v1=>asB v0 fun v2=>unn v1 ((K v2))) = K v2:=(vp h _).trans rfl
theorem y9 {ds:List D} {v5:Int} {v8:Bool} (h:V 56 ds = some (.tup [iN v5,.bool v8],[])) (K:Int->Bool->Option Ret):ib V 56 ds (fun v0 v1=>tk4 v0 fun v5 v8=>(unn v1 ((K v5 v8)))) = K v5 v8:=(vp h _).trans rfl
theorem zU {ds:List D} {v2:Bool} {v8 v11 v14:List D} (h:V 36 ds = some (.bool v2,[.op [.os (5,0) v8,.os (1,2) v11,.os (1,0) v14]])) (K:Bool->List D->List D->List D->Option Ret):ib V 36 ds (fun v0 v1=>asB v0 fun v2=>unc v1 fun v3 v4=>tk3 v3 fun v8 v11 v14=>(unn v4 ((K v2 v8 v11 v14)))) = K v2 v8 v11 v14:=(vp h _).trans rfl
theorem Aa {ds:List D} {v2:Bool} (h:V 37 ds = some (.bool v2,[])) (K:Bool->Option Ret):ib V 37 ds (fun v0 v1=>asB v0 fun v2=>unn v1 ((K v2))) = K v2:=(vp h _).trans rfl
theorem y1 {ds:List D} {v2:Int} {v8:List D} {v11 v14:Int} (h:V 34 ds = some (iN v2,[.op [.rs (1,0) v8,iN v11,iN v14]])) (K:Int->List D->Int->Int->Option Ret):ib V 34 ds (fun v0 v1=>asI .i64 v0 fun v2=>unc v1 fun v3 v4=>tk2 v3 fun v8 v11 v14=>(unn v4 ((K v2 v8 v11 v14)))) = K v2 v8 v11 v14:=(vp h _).trans rfl
theorem FC {ds:List D} {v2:Bool} (h:V 41 ds = some (.bool v2,[])) (K:Bool->Option Ret):ib V 41 ds (fun v0 v1=>asB v0 fun v2=>unn v1 ((K v2))) = K v2:=(vp h _).trans rfl
theorem zz {ds:List D} {v2:Int} {v8:List D} (h:V 40 ds = some (iN v2,[.op [.os (5,0) v8]])) (K:Int->List D->Option Ret):ib V 40 ds (fun v0 v1=>asI .i64 v0 fun v2=>unc v1 fun v3 v4=>mj v3 fun v5=>unc v5 fun v6 v7=>im (5,0) v6 fun v8=>unn v7 (unn v4 ((K v2 v8)))) = K v2 v8:=(vp h _).trans rfl
theorem Ae {ds:List D} {v2:Bool} (h:V 42 ds = some (.bool v2,[])) (K:Bool->Option Ret):ib V 42 ds (fun v0 v1=>asB v0 fun v2=>unn v1 ((K v2))) = K v2:=(vp h _).trans rfl
theorem Bm {ds:List D} {v2:Bool} (h:V 43 ds = some (.bool v2,[])) (K:Bool->Option Ret):ib V 43 ds (fun v0 v1=>asB v0 fun v2=>unn v1 ((K v2))) = K v2:=(vp h _).trans rfl
theorem Ck {ds:List D} {v2:Int} {v8:List D} (h:V 21 ds = some (iN v2,[.op [.os (5,0) v8]])) (K:Int->List D->Option Ret):ib V 21 ds (fun v0 v1=>asI .i64 v0 fun v2=>unc v1 fun v3 v4=>mj v3 fun v5=>unc v5 fun v6 v7=>im (5,0) v6 fun v8=>unn v7 (unn v4 ((K v2 v8)))) = K v2 v8:=(vp h _).trans rfl
theorem Aq {ds:List D} {v2:Bool} (h:V 19 ds = some (.bool v2,[])) (K:Bool->Option Ret):ib V 19 ds (fun v0 v1=>asB v0 fun v2=>unn v1 ((K v2))) = K v2:=(vp h _).trans rfl
theorem yo {ds:List D} {v2:Bool} (h:V 57 ds = some (.bool v2,[])) (K:Bool->Option Ret):ib V 57 ds (fun v0 v1=>asB v0 fun v2=>unn v1 ((K v2))) = K v2:=(vp h _).trans rfl
theorem zA {ds:List D} {v2:Bool} (h:V 10 ds = some (.bool v2,[])) (K:Bool->Option Ret):ib V 10 ds (fun v0 v1=>asB v0 fun v2=>unn v1 ((K v2))) = K v2:=(vp h _).trans rfl
theorem yZ {ds v5:List D} (h:V 17 ds = some (.agg [.os (5,0) v5],[])) (K:List D->Option Ret):ib V 17 ds (fun v0 v1=>asAgg v0 fun v2=>unc v2 fun v3 v4=>im (5,0) v3 fun v5=>unn v4 (unn v1 ((K v5)))) = K v5:=(vp h _).trans rfl
theorem Ac {ds:List D} {v5 v8:Int} {v14 v17 v20:List D} (h:V 18 ds = some (.tup [iN v5,iN v8],[.op [.os (5,0) v14,.os (1,2) v17,.os (1,0) v20]])) (K:Int->Int->List D->List D->List D->Option Ret):ib V 18 ds (fun v0 v1=>tk5 v0 fun v5 v8=>(unc v1 fun v9 v10=>tk3 v9 fun v14 v17 v20=>(unn v10 ((K v5 v8 v14 v17 v20))))) = K v5 v8 v14 v17 v20:=(vp h _).trans rfl
theorem Gh {ds:List D} {v2:ByteArray} (h:V 8 ds = some (.str v2,[])) (K:ByteArray->Option Ret):ib V 8 ds (fun v0 v1=>asS v0 fun v2=>unn v1 ((K v2))) = K v2:=(vp h _).trans rfl
theorem DH {ds v8 v11:List D} {v14 v17:Int} (h:V 6 ds = some (.tup [.agg [.os (5,0) v8],.os (1,0) v11,iN v14,iN v17],[])) (K:List D->List D->Int->Int->Option Ret):ib V 6 ds (fun v0 v1=>gZ v0 fun v2=>unc v2 fun v3 v4=>asAgg v3 fun v5=>unc v5 fun v6 v7=>im (5,0) v6 fun v8=>unn v7 (unc v4 fun v9 v10=>im (1,0) v9 fun v11=>unc v10 fun v12 v13=>asI .i64 v12 fun v14=>unc v13 fun v15 v16=>asI .i64 v15 fun v17=>unn v16 (unn v1 ((K v8 v11 v14 v17))))) = K v8 v11 v14 v17:=(vp h _).trans rfl
theorem GK {ds:List D} {v2:Bool} (h:V 9 ds = some (.bool v2,[])) (K:Bool->Option Ret):ib V 9 ds (fun v0 v1=>asB v0 fun v2=>unn v1 ((K v2))) = K v2:=(vp h _).trans rfl
theorem FA {ds:List D} {v2:Bool} (h:V 29 ds = some (.bool v2,[])) (K:Bool->Option Ret):ib V 29 ds (fun v0 v1=>asB v0 fun v2=>unn v1 ((K v2))) = K v2:=(vp h _).trans rfl
theorem zp {ds:List D} {v2:Int} (h:V 62 ds = some (iN v2,[])) (K:Int->Option Ret):ib V 62 ds (fun v0 v1=>asI .i64 v0 fun v2=>unn v1 ((K v2))) = K v2:=(vp h _).trans rfl
theorem AJ {ds:List D} {v8 v11:Int} {v14:ByteArray} {v17 v20:Int} {v23:Bool} (h:V 38 ds = some (.tup [.agg [iN v8,iN v11,.str v14,iN v17,iN v20],.bool v23],[])) (K:Int->Int->ByteArray->Int->Int->Bool->Option Ret):ib V 38 ds (fun v0 v1=>gZ v0 fun v2=>unc v2 fun v3 v4=>tk1 v3 fun v8 v11 v14 v17 v20=>(unc v4 fun v21 v22=>asB v21 fun v23=>unn v22 (unn v1 ((K v8 v11 v14 v17 v20 v23))))) = K v8 v11 v14 v17 v20 v23:=(vp h _).trans rfl
theorem Ij {ds:List D} {v2:Bool} (h:V 4 ds = some (.bool v2,[])) (K:Bool->Option Ret):ib V 4 ds (fun v0 v1=>asB v0 fun v2=>unn v1 ((K v2))) = K v2:=(vp h _).trans rfl
theorem GL {ds v8 v11:List D} {v14 v17:Int} (h:V 7 ds = some (.tup [.agg [.os (5,0) v8],.os (1,0) v11,iN v14,iN v17],[])) (K:List D->List D->Int->Int->Option Ret):ib V 7 ds (fun v0 v1=>gZ v0 fun v2=>unc v2 fun v3 v4=>asAgg v3 fun v5=>unc v5 fun v6 v7=>im (5,0) v6 fun v8=>unn v7 (unc v4 fun v9 v10=>im (1,0) v9 fun v11=>unc v10 fun v12 v13=>asI .i64 v12 fun v14=>unc v13 fun v15 v16=>asI .i64 v15 fun v17=>unn v16 (unn v1 ((K v8 v11 v14 v17))))) = K v8 v11 v14 v17:=(vp h _).trans rfl
theorem Ci {ds:List D} {v2:Bool} (h:V 25 ds = some (.bool v2,[])) (K:Bool->Option Ret):ib V 25 ds (fun v0 v1=>asB v0 fun v2=>unn v1 ((K v2))) = K v2:=(vp h _).trans rfl
theorem Ez {ds v2:List D} (h:V 28 ds = some (.os (1,0) v2,[])) (K:List D->Option Ret):ib V 28 ds (fun v0 v1=>im (1,0) v0 fun v2=>unn v1 ((K v2))) = K v2:=(vp h _).trans rfl
theorem y2 {ds:List D} {v2:Bool} (h:V 61 ds = some (.bool v2,[])) (K:Bool->Option Ret):ib V 61 ds (fun v0 v1=>asB v0 fun v2=>unn v1 ((K v2))) = K v2:=(vp h _).trans rfl
end Go.Eng
/-! nodes and pools: when they are right,on both sides -/
namespace Go.Eng
noncomputable section
open Go.Proofs Go.Proofs.Try

theorem yw (b c : Bool) (l : List D) : br b (some (D.bool c,l)) (some (D.bool false,l)) = some (D.bool (b && c),l) := by cases b <;> rfl
theorem EI (b c : Bool) (l : List D) : br b (some (D.bool true,l)) (some (D.bool c,l)) = some (D.bool (b || c),l) := by cases b <;> rfl
theorem Ba (b c : Bool) (l : List D) : br b (some (D.bool false,l)) (some (D.bool c,l)) = some (D.bool (!b && c),l) := by cases b <;> rfl

structure Nd where
 kind : Int
 n : Int
 s : ByteArray
 a : Int
 b : Int
abbrev eN (x : Nd) : D := .agg [iN x.kind,iN x.n,.str x.s,iN x.a,iN x.b]
section
variable {R : Type}
theorem Gd (x : Nd) (K : Int -> Int -> ByteArray -> Int -> Int -> Option R) : tk1 (eN x) (fun n4 n7 s10 n13 n16 => (K n4 n7 s10 n13 n16)) = K x.kind x.n x.s x.a x.b := rfl
end

theorem xU (n lo hi : Int) : V 46 [iN n,iN lo,iN hi] = some (.bool (wi n lo hi),[]) := (D5 n lo hi).trans vT
theorem zI (n lo hi : Int) : V 57 [iN n,iN lo,iN hi] = some (.bool (wi n lo hi),[]) := (F6 n lo hi).trans vT
theorem EF (a b : Int) : V 33 [iN a,iN b] = some (iN (mnI a b),[]) := by
 rw [Fe]
 unfold mnI
 by_cases h : a < b
 ·rw [vX (decide_eq_true h),if_neg (by omega)]
 ·rw [vi (decide_eq_false h)]
  by_cases h2 : b < a
  ·rw [if_pos h2]
  ·rw [if_neg h2,show b = a by omega]

def nmB (c : Int) : Bool := (decide (c >= 97) && decide (c <= 122)) || [43,45,42,60,61,63,33,47].any fun x => c == x
theorem CW {l : List Int} (hl : l.length < 4611686018427387904) (c : Int) : ∀ (k i : Nat),i + k = l.length -> xF (l.map (D.int .u8)) c (ni (l.map (D.int .u8)).length) (i : Int) = some (iN (dA (fun x => c == x) l i),[])
 | 0,i,hi => by
  rw [yn,vi (by rw [lnM]; exact wQ (by omega)),vf (by omega)]
 | k + 1,i,hi => by
  obtain ⟨x,hx⟩ := vI (l := l) (i := i) (by omega)
  have ih := CW hl c k (i + 1) (by omega)
  rw [yn,vX (by rw [lnM]; exact wX (by omega)),wT (by rw [lnM]; exact wW (by omega)),Int.toNat_natCast,wk hx,wv]
  cases h : c == x with
  | true => rw [wC,vg hx h]
  | false => rw [vW,xh (by omega),ih,uX hx h]
theorem Ip {l : List Int} {c : Int} : decide (wq (fun x => c == x) l >= 0) = l.any fun x => c == x := by
 unfold wq
 cases h : l.findIdx? fun x => c == x with
 | none =>
  have := List.findIdx?_eq_none_iff.1 h
  symm
  simpa [List.any_eq_false] using this
 | some k =>
  have h2 : (l.any fun x => c == x) = true := by
   rw [List.findIdx?_eq_some_iff_getElem] at h
   obtain ⟨hk,h3,_⟩ := h
   exact List.any_eq_true.2 ⟨l[k],List.getElem_mem hk,h3⟩
  rw [h2]
  simp
theorem Gp {l : List Int} (hl : l.length < 4611686018427387904) (c : Int) : V 61 [.rs (1,0) (l.map (D.int .u8)),.int .u8 c] = some (.bool (l.any fun x => c == x),[]) := by
 have h : V 62 [.rs (1,0) (l.map (D.int .u8)),.int .u8 c] = some (iN (wq (fun x => c == x) l),[]) := by
  rw [zN,<- uY]
  exact CW hl c l.length 0 (Nat.zero_add _)
 rw [zi,zp h,Ip]
theorem Bq (c : Int) : V 54 [.int .u8 c] = some (.bool (nmB c),[]) := by
 have h := Gp (l := [43,45,42,60,61,63,33,47]) (by simp) c
 simp only [List.map_cons,List.map_nil] at h
 rw [BI,wT (by decide),y2 h]
 unfold nmB
 cases decide (c >= 97) <;> cases decide (c <= 122) <;> rfl
theorem Bv (c : Int) : V 42 [.int .u8 c] = some (.bool (nmB c),[]) := by
 rw [BN]
 simp only [EI,nmB,List.any_cons,List.any_nil,Bool.or_false]
 cases decide (c >= 97) <;> cases decide (c <= 122) <;> rfl

def BV (s : ByteArray) : Nat -> Nat -> Bool
 | _,0 => true
 | i,k + 1 => nmB (bt s i) && BV s (i + 1) k
def z5 (s : ByteArray) : Bool := wi s.size 1 12 && BV s 0 s.size
theorem Al {s : ByteArray} (hl : s.size < 4611686018427387904) : ∀ (k i : Nat),i + k = s.size -> yu s (ni s.size) (i : Int) = some (.bool (BV s i k),[])
 | 0,i,hi => by rw [zq,vi (wQ (by omega))]; rfl
 | k + 1,i,hi => by
  rw [zq,vX (wX (by omega)),wT (wW (by omega)),z9 (Bq _),xh (by omega),Al hl k (i + 1) (by omega),Ba,Bool.not_not]
  rfl
theorem Av {s : ByteArray} (hl : s.size < 4611686018427387904) : ∀ (k i : Nat),i + k = s.size -> yv s (i : Int) = some (.bool (BV s i k && wi s.size 1 12),[])
 | 0,i,hi => by rw [zt,vi (wQ (by omega)),yo (zI _ _ _)]; rfl
 | k + 1,i,hi => by
  rw [zt,vX (wX (by omega)),wT (wW (by omega)),Ae (Bv _),xh (by omega),Av hl k (i + 1) (by omega),Ba,Bool.not_not,<- Bool.and_assoc]
  rfl
theorem AK {s : ByteArray} (hl : s.size < 4611686018427387904) : V 50 [.str s] = some (.bool (z5 s),[]) := by
 have h : yu s (ni s.size) 0 = _ := Al hl s.size 0 (Nat.zero_add _)
 rw [DZ,xu (xU _ _ _),h,Ba,Bool.not_not]
 rfl
theorem AL {s : ByteArray} (hl : s.size < 4611686018427387904) : V 45 [.str s] = some (.bool (z5 s),[]) := by
 have h : yv s 0 = _ := Av hl s.size 0 (Nat.zero_add _)
 rw [D8,h,Bool.and_comm]
 rfl

def nz (s : ByteArray) : Bool := jt s ⟨#[]⟩
def okN (x : Nd) (h : Int) : Bool :=
 if x.kind = 1 then wi x.n 0 0 && (nz x.s && (x.a == 0 && x.b == 0))
 else if x.kind = 2 then wi x.n 0 1 && (nz x.s && (x.a == 0 && x.b == 0))
 else if x.kind = 3 then wi x.n (-1000000000) 1000000000 && (nz x.s && (x.a == 0 && x.b == 0))
 else if x.kind = 4 then wi x.n 0 0 && (z5 x.s && (x.a == 0 && x.b == 0))
 else if x.kind = 5 then wi x.n 0 0 && (nz x.s && (wi x.a 0 (h - 1) && wi x.b 0 (h - 1)))
 else if x.kind = 6 then wi x.n 0 1000000000 && (nz x.s && (wi x.a 0 (h - 1) && x.b == 0))
 else if x.kind = 7 then wi x.n 0 0 && (nz x.s && (wi x.a 0 (h - 1) && x.b == 0))
 else if x.kind = 8 then wi x.n 0 99 && (nz x.s && (x.a == 0 && x.b == 0))
 else if x.kind = 9 then wi x.n 0 1000000000 && (nz x.s && (x.a == 0 && x.b == 0))
 else false
theorem Jb (n : Int) : wi n 0 0 = (n == 0) := by
 unfold wi
 by_cases h : n = 0
 ·subst h; rfl
 ·have : (n == 0) = false := by simp [h]
  rw [this]
  simp; omega

theorem Dr {x : Nd} (hs : x.s.size < 4611686018427387904) {h : Int} (h0 : -4611686018427387904 < h) (h1 : h < 4611686018427387904) : V 29 [eN x,iN h] = some (.bool (okN x h),[]) := by
 rw [D4,w64 (n := h - 1) (by omega) (by omega)]
 unfold okN
 by_cases e1 : x.kind = 1
 ·rw [vX (by simp [e1]),if_pos e1,xu (xU _ _ _)]; simp only [yw]; rfl
 rw [vi (by simp [e1]),if_neg e1]
 by_cases e2 : x.kind = 2
 ·rw [vX (by simp [e2]),if_pos e2,xu (xU _ _ _)]; simp only [yw]; rfl
 rw [vi (by simp [e2]),if_neg e2]
 by_cases e3 : x.kind = 3
 ·rw [vX (by simp [e3]),if_pos e3,xu (xU _ _ _)]; simp only [yw]; rfl
 rw [vi (by simp [e3]),if_neg e3]
 by_cases e4 : x.kind = 4
 ·rw [vX (by simp [e4]),if_pos e4,Cg (AK hs),xu (xU _ _ _)]; simp only [yw]
 rw [vi (by simp [e4]),if_neg e4]
 by_cases e5 : x.kind = 5
 ·rw [vX (by simp [e5]),if_pos e5,xu (xU _ _ _),xu (xU _ _ _),xu (xU _ _ _)]; simp only [yw]; rfl
 rw [vi (by simp [e5]),if_neg e5]
 by_cases e6 : x.kind = 6
 ·rw [vX (by simp [e6]),if_pos e6,xu (xU _ _ _),xu (xU _ _ _)]; simp only [yw]; rfl
 rw [vi (by simp [e6]),if_neg e6]
 by_cases e7 : x.kind = 7
 ·rw [vX (by simp [e7]),if_pos e7,xu (xU _ _ _),xu (xU _ _ _)]; simp only [yw]; rfl
 rw [vi (by simp [e7]),if_neg e7]
 by_cases e8 : x.kind = 8
 ·rw [vX (by simp [e8]),if_pos e8,xu (xU _ _ _)]; simp only [yw]; rfl
 rw [vi (by simp [e8]),if_neg e8]
 by_cases e9 : x.kind = 9
 ·rw [vX (by simp [e9]),if_pos e9,xu (xU _ _ _)]; simp only [yw]; rfl
 rw [vi (by simp [e9]),if_neg e9]

theorem IB {x : Nd} (hs : x.s.size < 4611686018427387904) {h : Int} (h0 : -4611686018427387904 < h) (h1 : h < 4611686018427387904) : V 41 [eN x,iN h] = some (.bool (okN x h),[]) := by
 rw [Ej,w64 (n := h - 1) (by omega) (by omega),yo (zI _ _ _),yo (zI _ _ _)]
 unfold okN
 have hss : jt x.s x.s = true := by rw [yQ]; simp
 by_cases e1 : x.kind = 1
 ·rw [vX (by simp [e1]),if_pos e1,e1,Jb]; simp [nz]
 rw [vi (by simp [e1]),if_neg e1]
 by_cases e2 : x.kind = 2
 ·rw [vX (by simp [e2]),if_pos e2,e2,yo (zI _ _ _)]; simp only [yw]; simp [nz]
 rw [vi (by simp [e2]),if_neg e2]
 by_cases e3 : x.kind = 3
 ·rw [vX (by simp [e3]),if_pos e3,e3,yo (zI _ _ _)]; simp only [yw]; simp [nz]
 rw [vi (by simp [e3]),if_neg e3]
 by_cases e4 : x.kind = 4
 ·rw [vX (by simp [e4]),if_pos e4,e4,Cj (AL hs),Jb,hss]; simp only [yw]
  cases z5 x.s <;> cases x.n == 0 <;> simp
 rw [vi (by simp [e4]),if_neg e4]
 by_cases e5 : x.kind = 5
 ·rw [vX (by simp [e5]),if_pos e5,Jb]; simp only [yw]
  show some (D.bool (_ && (_ && (_ && nz x.s))),_) = _
  cases wi x.a 0 (h - 1) <;> cases wi x.b 0 (h - 1) <;> cases x.n == 0 <;> cases nz x.s <;> rfl
 rw [vi (by simp [e5]),if_neg e5]
 by_cases e6 : x.kind = 6
 ·rw [vX (by simp [e6]),if_pos e6,yo (zI _ _ _)]; simp only [yw]
  show some (D.bool (_ && (_ && (_ && nz x.s))),_) = _
  cases wi x.a 0 (h - 1) <;> cases wi x.n 0 1000000000 <;> cases x.b == 0 <;> cases nz x.s <;> rfl
 rw [vi (by simp [e6]),if_neg e6]
 by_cases e7 : x.kind = 7
 ·rw [vX (by simp [e7]),if_pos e7,Jb]; simp only [yw]
  show some (D.bool (_ && (_ && (_ && nz x.s))),_) = _
  cases wi x.a 0 (h - 1) <;> cases x.n == 0 <;> cases x.b == 0 <;> cases nz x.s <;> rfl
 rw [vi (by simp [e7]),if_neg e7]
 by_cases e8 : x.kind = 8
 ·rw [vX (by simp [e8]),if_pos e8,e8,yo (zI _ _ _)]; simp only [yw]; simp [nz]
 rw [vi (by simp [e8]),if_neg e8]
 by_cases e9 : x.kind = 9
 ·rw [vX (by simp [e9]),if_pos e9,e9,yo (zI _ _ _)]; simp only [yw]; simp [nz]
 rw [vi (by simp [e9]),if_neg e9]

abbrev eP (p : List Nd) : D := .agg [.rs (5,0) (p.map eN)]
abbrev oP (p : List Nd) : D := .agg [.os (5,0) (p.map eN)]
abbrev rP (p : List Nd) : D := .op [.os (5,0) (p.map eN)]
def zd (p : List Nd) : Prop := ∀ x ∈ p,x.s.size < 4611686018427387904
def zH (p : List Nd) : Nat -> Nat -> Bool
 | _,0 => true
 | i,k + 1 => (match p[i]? with | some x => okN x i | none => true) && zH p (i + 1) k
def xq (p : List Nd) : Bool := zH p 0 p.length && decide ((p.length : Int) <= 3000)
theorem Am {p : List Nd} (hf : zd p) (hl : p.length < 4611686018427387904) : ∀ (k i : Nat),i + k = p.length -> yK (p.map eN) (ni (p.map eN).length) (i : Int) (p.map eN) = some (.bool (zH p i k && decide ((p.length : Int) <= 3000)),[])
 | 0,i,hi => by
  rw [zr,vi (by rw [lnM]; exact wQ (by omega)),lnM]; rfl
 | k + 1,i,hi => by
  obtain ⟨x,hx⟩ := vI (l := p) (i := i) (by omega)
  rw [zr,vX (by rw [lnM]; exact wX (by omega)),wT (by rw [lnM]; exact wW (by omega)),Int.toNat_natCast,wk hx,Gd,FA (Dr (hf x (List.mem_of_getElem? hx)) (by omega) (by omega)),xh (by omega),Am hf hl k (i + 1) (by omega),Ba,Bool.not_not,<- Bool.and_assoc]
  simp only [zH,hx]
theorem Aw {p : List Nd} (hf : zd p) (hl : p.length < 4611686018427387904) : ∀ (k i : Nat),i + k = p.length -> yL (i : Int) (p.map eN) = some (.bool (zH p i k && decide ((p.length : Int) <= 3000)),[])
 | 0,i,hi => by
  rw [zu,vi (by rw [lnM]; exact wQ (by omega)),lnM]; rfl
 | k + 1,i,hi => by
  obtain ⟨x,hx⟩ := vI (l := p) (i := i) (by omega)
  rw [zu,vX (by rw [lnM]; exact wX (by omega)),wT (by rw [lnM]; exact wW (by omega)),Int.toNat_natCast,wk hx,Gd,FC (IB (hf x (List.mem_of_getElem? hx)) (by omega) (by omega)),xh (by omega),Aw hf hl k (i + 1) (by omega),Ba,Bool.not_not,<- Bool.and_assoc]
  simp only [zH,hx]
theorem xH {p : List Nd} (hf : zd p) (hl : p.length < 4611686018427387904) : V 10 [eP p] = some (.bool (xq p),[]) := by
 rw [D0]; exact Am hf hl p.length 0 (Nat.zero_add _)
theorem AM {p : List Nd} (hf : zd p) (hl : p.length < 4611686018427387904) : V 19 [eP p] = some (.bool (xq p),[]) := by
 rw [D9]; exact Aw hf hl p.length 0 (Nat.zero_add _)
end
end Go.Eng
/-! what is reached,on both sides -/
namespace Go.Eng
open Go.Proofs Go.Proofs.Try

noncomputable abbrev eI : Int -> D := D.int .i64
theorem wi_iff {n lo hi : Int} : wi n lo hi = true ↔ lo <= n /\ n <= hi := by simp [wi]

theorem C9 {p : List Nd} : ∀ {k i j : Nat} {x : Nd},zH p i k = true -> i <= j -> j < i + k -> p[j]? = some x -> okN x j = true
 | 0,i,j,x,_,h1,h2,_ => by omega
 | k + 1,i,j,x,h,h1,h2,hx => by
  simp only [zH,Bool.and_eq_true] at h
  by_cases e : i = j
  ·subst e; rw [hx] at h; exact h.1
  ·exact C9 h.2 (by omega) (by omega) hx
theorem yk {p : List Nd} (h : xq p = true) {j : Nat} {x : Nd} (hx : p[j]? = some x) : okN x j = true := by
 simp only [xq,Bool.and_eq_true] at h
 exact C9 h.1 (Nat.zero_le _) (by have := aQ hx; omega) hx
theorem yl {p : List Nd} (h : xq p = true) : p.length <= 3000 := by
 simp only [xq,Bool.and_eq_true,decide_eq_true_eq] at h; omega
theorem yP {x : Nd} {h : Int} (ho : okN x h = true) (hk : x.kind = 5) : 0 <= x.a /\ x.a < h /\ 0 <= x.b /\ x.b < h := by
 simp [okN,hk,wi] at ho; omega
theorem CD {x : Nd} {h : Int} (ho : okN x h = true) (hk : x.kind = 6 \/ x.kind = 7) : 0 <= x.a /\ x.a < h := by
 rcases hk with hk | hk <;> simp [okN,hk,wi] at ho <;> omega

theorem zY {p : List Nd} (hl : p.length < 4611686018427387904) (r : Int) : V 25 [eP p,iN r] = some (.bool (wi r 0 ((p.length : Int) - 1)),[]) := by
 rw [D3,xu (xU _ _ _),lnM,w64 (by simp only [ni]; omega) (by simp only [ni]; omega)]
end Go.Eng
/-! what is moved into another pool,on both sides -/
namespace Go.Eng
open Go.Proofs Go.Proofs.Try

theorem Gx {p : List Nd} (h : p.length < 4294967296) (x : D) : decide (ni (p.map eN ++ [x]).length <= LIM) = true :=
 decide_eq_true (by rw [nV]; simp only [ni,lnA,lnM,lnC,lnN]; omega)
theorem Iy {p : List Nd} (h : p.length < 4294967296) (x : Nd) : V 40 [rP p,eN x] = some (iN p.length,[rP (p ++ [x])]) := by
 rw [CN,wT (Gx h _),wY]
 have : w6 (ni (p.map eN ++ [eN x]).length - 1) = p.length := by
  rw [w64 (by simp only [ni]; omega) (by simp only [ni,lnA,lnM,lnC,lnN]; omega)]
  simp [ni]
 rw [this]; simp
theorem Az {p : List Nd} (h : p.length < 4294967296) (x : Nd) : V 24 [rP p,eN x] = some (iN p.length,[rP (p ++ [x])]) := by
 rw [Fg,wT (Gx h _),wY]
 have : w6 (ni (p.map eN ++ [eN x]).length - 1) = p.length := by
  rw [w64 (by simp only [ni]; omega) (by simp only [ni,lnA,lnM,lnC,lnN]; omega)]
  simp [ni]
 rw [this]; simp

end Go.Eng
/-! what is kept: both sides keep the same -/
namespace Go.Eng
open Go.Proofs Go.Proofs.Try

end Go.Eng
/-! decimal digits,on both sides -/
namespace Go.Eng
open Go.Proofs Go.Proofs.Try

theorem w32 {n : Int} (h0 : 0 <= n) (h1 : n < 1000) : IntKind.wrap .i32 n = n := by
 simp [IntKind.wrap,IntKind.bits,IntKind.signed]; omega
theorem Gm (n : Nat) : Int.tdiv (n : Int) 10 = ((n / 10 : Nat) : Int) := by
 rw [Int.tdiv_eq_ediv_of_nonneg (by omega)]; omega
theorem Gn (n : Nat) : Int.tmod (n : Int) 10 = ((n % 10 : Nat) : Int) := by
 rw [Int.tmod_eq_emod_of_nonneg (by omega)]; omega
theorem Dz {d : Nat} (h : d < 10) : Utf8.encode (IntKind.wrap .i32 (w6 (48 + (d : Int)))) = mk [UInt8.ofNat (48 + d)] := by
 rw [w64 (by omega) (by omega),w32 (by omega) (by omega),D7 (by omega) (by omega)]
 congr 3
theorem Bj {a b : List UInt8} (ha : a.length <= 1000) (hb : b.length <= 1000) : decide (ni ((mk a).size + (mk b).size) <= LIM) = true :=
 decide_eq_true (by rw [nV,xj,xj]; simp only [ni]; omega)
theorem yU {n : Nat} (h : n < 1000000000000000000) : (yN n).length <= 20 := by
 have := Bf 18 n (by omega)
 omega
theorem Ai : ∀ (n : Nat),n < 1000000000000000000 -> V 49 [iN (n : Int)] = some (.str (mk (yN n)),[]) := by
 intro n
 induction n using Nat.strongRecOn with
 | _ n ih =>
  intro hn
  rw [AH,vi (decide_eq_false (by omega)),vi (decide_eq_false (by omega))]
  by_cases h : n < 10
  ·rw [vX (decide_eq_true (by omega)),Dz h,xC h]
  ·rw [vi (decide_eq_false (by omega)),wT (by decide),Gm,w64 (by omega) (by omega),y8 (ih (n / 10) (by omega) (by omega)),wT (by decide),Gn,Dz (by omega),wT (Bj (by have := yU (n := n / 10) (by omega); omega) (by simp)),yB,yO h]
theorem ET : ∀ (n : Nat),0 < n -> n < 1000000000000000000 -> V 49 [iN (-(n : Int))] = some (.str (mk (45 :: yN n)),[]) := by
 intro n
 induction n using Nat.strongRecOn with
 | _ n ih =>
  intro h0 hn
  rw [AH,vX (decide_eq_true (by omega))]
  by_cases h : n < 10
  ·have hd := Ai n hn
   rw [vX (decide_eq_true (by omega)),show (0 : Int) - -(n : Int) = n by omega,w64 (by omega) (by omega),y8 hd]
   rw [<- show mk [45] = ⟨#[45]⟩ from rfl,wT (Bj (a := [45]) (by simp) (by have := yU hn; omega)),yB]
   rfl
  ·have e1 : Int.tdiv (-(n : Int)) 10 = -((n / 10 : Nat) : Int) := by rw [Int.neg_tdiv,Gm]
   have e2 : Int.tmod (-(n : Int)) 10 = -((n % 10 : Nat) : Int) := by rw [Int.neg_tmod,Gn]
   have hd := Ai (n % 10) (by omega)
   rw [vi (decide_eq_false (by omega)),vX (decide_eq_true (by omega)),wT (by decide),e1,w64 (by omega) (by omega),y8 (ih (n / 10) (by omega) (by omega) (by omega)),wT (by decide),e2,show (0 : Int) - -((n % 10 : Nat) : Int) = ((n % 10 : Nat) : Int) by omega,w64 (by omega) (by omega),y8 hd]
   rw [wT (Bj (by have := yU (n := n / 10) (by omega); simp; omega) (by have := yU (n := n % 10) (by omega); omega)),yB,yO h,xC (show n % 10 < 10 by omega)]
   rfl
theorem GT {n : Int} (h : n.natAbs < 1000000000000000000) : V 49 [iN n] = some (.str (mk (yr n)),[]) := by
 by_cases h0 : n < 0
 ·have := ET n.natAbs (by omega) h
  rw [show -(n.natAbs : Int) = n by omega] at this
  rw [this,yr,if_pos h0]
 ·have := Ai n.natAbs h
  rw [show (n.natAbs : Int) = n by omega] at this
  rw [this,yr,if_neg h0]
theorem Iw {d : Nat} (h : d < 10) : IntKind.wrap .u8 (w6 (48 + (d : Int))) = 48 + (d : Int) := by
 rw [w64 (by omega) (by omega),GE (by omega) (by omega)]
theorem Fa : ∀ (n : Nat) (acc : List UInt8),n < 1000000000000000000 -> acc.length + (if n = 0 then [] else yN n).length <= 1000 -> yz (n : Int) (mk acc) = some (.str (mk ((if n = 0 then [] else yN n) ++ acc)),[]) := by
 intro n
 induction n using Nat.strongRecOn with
 | _ n ih =>
  intro acc hn hl
  by_cases h0 : n = 0
  ·subst h0
   rw [y4,vi (by rfl),if_pos rfl]; rfl
  ·have hd : yN n = (if n / 10 = 0 then [] else yN (n / 10)) ++ [UInt8.ofNat (48 + n % 10)] := by
    by_cases h : n < 10
    ·rw [xC h,if_pos (by omega),show n % 10 = n by omega]; rfl
    ·rw [yO h,if_neg (by omega)]
   rw [if_neg h0,hd] at hl
   simp only [lnA,lnC,lnN] at hl
   rw [y4,vX (decide_eq_true (by omega)),wT (by decide),Gn,Iw (by omega),Gg]
   have e : UInt8.ofNat (48 + ((n % 10 : Nat) : Int)).toNat = UInt8.ofNat (48 + n % 10) := by congr 1
   rw [e,wT (Bj (by simp) (by omega)),wT (by decide),Gm,w64 (by omega) (by omega),yB,ih (n / 10) (by omega) _ (by omega) (by simp only [lnA,lnC,lnN]; omega),if_neg h0,hd]
   simp
theorem Bi {n : Nat} (h : n < 1000000000000000000) : V 58 [iN (n : Int)] = some (.str (mk (yN n)),[]) := by
 rw [Aj,vi (decide_eq_false (by omega))]
 by_cases h0 : n = 0
 ·subst h0
  rw [vX (by rfl),xC (by omega)]; rfl
 ·have := Fa n [] h (by have := yU h; rw [if_neg h0]; simp; omega)
  rw [if_neg h0,List.append_nil] at this
  rw [vi (by simp; omega)]
  exact this
theorem Dd {n : Int} (h : n.natAbs < 1000000000000000000) : V 58 [iN n] = some (.str (mk (yr n)),[]) := by
 by_cases h0 : n < 0
 ·have hd := Bi h
  rw [Aj,vX (decide_eq_true h0),show (0 : Int) - n = (n.natAbs : Int) by omega,w64 (by omega) (by omega),zG hd]
  rw [<- show mk [45] = ⟨#[45]⟩ from rfl,wT (Bj (a := [45]) (by simp) (by have := yU h; omega)),yB,yr,if_pos h0]
  rfl
 ·have := Bi h
  rw [show (n.natAbs : Int) = n by omega] at this
  rw [this,yr,if_neg h0]
end Go.Eng
/-! what is written of a value: the reference's side -/
namespace Go.Eng
noncomputable section
open Go.Proofs Go.Proofs.Try

def yd (x : Nd) : List UInt8 :=
 if x.kind = 1 then [40,41]
 else if x.kind = 2 then (if x.n = 1 then [35,116] else [35,102])
 else if x.kind = 3 then yr x.n
 else if x.kind = 4 then x.s.data.toList
 else if x.kind = 6 then [35,102,117,110] ++ yr x.n
 else if x.kind = 7 then [35,107,111,110,116] ++ yr x.n
 else if x.kind = 8 then [35,112,114,105,109] ++ yr x.n
 else [35,112,105,100] ++ yr x.n
def wr (p : List Nd) : Nat -> Bool -> Nat -> List UInt8 -> List UInt8
 | 0,_,_,out => out
 | g + 1,false,v,out => if out.length > 400 then out else
  match p[v]? with
  | some x => if x.kind = 5 then wr p g true x.b.toNat (wr p g false x.a.toNat (out ++ [40])) else out ++ yd x
  | none => out
 | g + 1,true,v,out =>
  match p[v]? with
  | some x => if x.kind = 5 /\ out.length <= 400 then wr p g true x.b.toNat (wr p g false x.a.toNat (out ++ [32]))
   else if x.kind = 1 then out ++ [41] else wr p g false v (out ++ [32,46,32]) ++ [41]
  | none => out
theorem Ig {s : ByteArray} (h : z5 s = true) : s.size <= 12 := by
 simp only [z5,Bool.and_eq_true,wi,decide_eq_true_eq] at h; omega
theorem AX {x : Nd} {h : Int} (ho : okN x h = true) (hk : x.kind ≠ 4) : x.n.natAbs <= 1000000000 := by
 unfold okN at ho
 repeat' split at ho
 all_goals (try simp only [Bool.and_eq_true,wi,decide_eq_true_eq] at ho)
 all_goals (first | omega | (cases ho))
theorem Il {x : Nd} {h : Int} (ho : okN x h = true) (hk : x.kind = 4) : z5 x.s = true := by
 simp [okN,hk] at ho; exact ho.2.1
theorem CJ {n : Int} (h : n.natAbs <= 1000000000) : (yr n).length <= 12 := by
 have := Bf 9 n.natAbs (by simpa using (by omega : n.natAbs < 10000000000))
 unfold yr; split <;> simp <;> omega
theorem BF {x : Nd} {h : Int} (ho : okN x h = true) : (yd x).length <= 40 := by
 by_cases h4 : x.kind = 4
 ·have := Ig (Il ho h4)
  have e : x.s.data.toList.length = x.s.size := by rw [Array.length_toList]; rfl
  simp [yd,h4]
  omega
 ·have := CJ (AX ho h4)
  unfold yd
  repeat' split
  all_goals (first | contradiction | (simp; done) | (simp; omega) | omega)
theorem Ik {x : Nd} {h : Int} (ho : okN x h = true) : 1 <= x.kind /\ x.kind <= 9 := by
 unfold okN at ho
 repeat' split at ho
 all_goals (first | omega | (cases ho))
def ym (p : List Nd) (v : Int) : List UInt8 :=
 if xq p = true /\ wi v 0 ((p.length : Int) - 1) = true then (if (wr p (2 * v.toNat + 1) false v.toNat []).length > 400 then [] else wr p (2 * v.toNat + 1) false v.toNat []) else []
end
end Go.Eng
/-! what is written of a value: the program's side,as plain lists -/
namespace Go.Eng
open Go.Proofs Go.Proofs.Try

noncomputable def wm (p : List Nd) : Nat -> Option Bool -> Nat -> List UInt8 -> List UInt8
 | 0,_,_,out => out
 | g + 1,none,v,out => if out.length > 400 then out else
  match p[v]? with
  | some x => if x.kind = 5 \/ x.kind = 1 then wm p g (some true) v (out ++ [40]) ++ [41] else out ++ yd x
  | none => out
 | g + 1,some first,v,out =>
  match p[v]? with
  | some x => if x.kind = 5 /\ out.length <= 400 then wm p g (some false) x.b.toNat (wm p g none x.a.toNat (if first then out else out ++ [32]))
   else if x.kind = 1 \/ x.kind = 5 then out else wm p g none v (out ++ [32,46,32])
  | none => out
noncomputable def EH (a b : List UInt8) : Prop := a = b \/ (400 < a.length /\ 400 < b.length)
theorem yC {p : List Nd} : ∀ (g : Nat) (m : Bool) (v : Nat) (out : List UInt8),out.length <= (wr p g m v out).length
 | 0,m,v,out => Nat.le_refl _
 | g + 1,false,v,out => by
  simp only [wr]
  split
  ·exact Nat.le_refl _
  ·split
   ·split
    ·rename_i x _ _
     have h1 := yC (p := p) g false x.a.toNat (out ++ [40])
     have h2 := yC (p := p) g true x.b.toNat (wr p g false x.a.toNat (out ++ [40]))
     simp at h1; omega
    ·simp
   ·exact Nat.le_refl _
 | g + 1,true,v,out => by
  simp only [wr]
  split
  ·split
   ·rename_i x _ _
    have h1 := yC (p := p) g false x.a.toNat (out ++ [32])
    have h2 := yC (p := p) g true x.b.toNat (wr p g false x.a.toNat (out ++ [32]))
    simp at h1; omega
   ·split
    ·simp
    ·have h1 := yC (p := p) g false v (out ++ [32,46,32])
     simp at h1 ⊢; omega
  ·exact Nat.le_refl _
theorem BC {p : List Nd} : ∀ (g : Nat) (m : Option Bool) (v : Nat) (out : List UInt8),out.length <= (wm p g m v out).length
 | 0,m,v,out => Nat.le_refl _
 | g + 1,none,v,out => by
  simp only [wm]
  split
  ·exact Nat.le_refl _
  ·split
   ·split
    ·have h1 := BC (p := p) g (some true) v (out ++ [40])
     simp at h1 ⊢; omega
    ·simp
   ·exact Nat.le_refl _
 | g + 1,some first,v,out => by
  simp only [wm]
  split
  ·split
   ·rename_i x _ _
    have h2 := BC (p := p) g (some false) x.b.toNat (wm p g none x.a.toNat (if first then out else out ++ [32]))
    have h1 := BC (p := p) g none x.a.toNat (if first then out else out ++ [32])
    cases first <;> simp at h1 h2 ⊢ <;> omega
   ·split
    ·exact Nat.le_refl _
    ·have h1 := BC (p := p) g none v (out ++ [32,46,32])
     simp at h1 ⊢; omega
  ·exact Nat.le_refl _

theorem CE {p : List Nd} {g g' : Nat} {b : Nat} {r r' : List UInt8} (h : EH r r') (ih : ∀ o,EH (wm p g (some false) b o ++ [41]) (wr p g' true b o)) :
  EH (wm p g (some false) b r ++ [41]) (wr p g' true b r') := by
 rcases h with rfl | ⟨h1,h2⟩
 ·exact ih r
 ·refine .inr ⟨?_,?_⟩
  ·have := BC (p := p) g (some false) b r
   simp; omega
  ·have := yC (p := p) g' true b r'
   omega
theorem Dg {p : List Nd} (hp : xq p = true) : ∀ (g : Nat),
  (∀ (g' v : Nat) (o : List UInt8),v < p.length -> 2 * v + 3 <= g -> 2 * v + 1 <= g' -> EH (wm p g none v o) (wr p g' false v o)) /\
  (∀ (g' v : Nat) (o : List UInt8),v < p.length -> 2 * v + 2 <= g -> 2 * v + 2 <= g' -> EH (wm p g (some false) v o ++ [41]) (wr p g' true v o))
 | 0 => ⟨fun g' v o _ h _ => by omega,fun g' v o _ h _ => by omega⟩
 | g + 1 => by
  obtain ⟨ihv,iht⟩ := Dg hp g
  refine ⟨fun g' v o hv hg hg' => ?_,fun g' v o hv hg hg' => ?_⟩
  ·obtain ⟨x,hx⟩ := vI hv
   have hok := yk hp hx
   cases g' with
   | zero => omega
   | succ g' =>
   cases g with
   | zero => omega
   | succ g =>
   simp only [wm,wr,hx,if_true]
   by_cases hf : o.length > 400
   ·rw [if_pos hf,if_pos hf]; exact .inl rfl
   rw [if_neg hf,if_neg hf]
   by_cases h5 : x.kind = 5
   ·have hk := yP hok h5
    rw [if_pos (.inl h5),if_pos h5]
    by_cases hl : (o ++ [40]).length <= 400
    ·rw [if_pos ⟨h5,hl⟩]
     obtain ⟨ihv2,iht2⟩ := Dg hp g
     exact CE (ihv2 g' x.a.toNat (o ++ [40]) (by omega) (by omega) (by omega)) (fun r => iht2 g' x.b.toNat r (by omega) (by omega) (by omega))
    ·rw [if_neg (fun h => hl h.2),if_pos (.inr h5)]
     refine .inr ⟨by simp at hl ⊢; omega,?_⟩
     have h1 := yC (p := p) g' false x.a.toNat (o ++ [40])
     have h2 := yC (p := p) g' true x.b.toNat (wr p g' false x.a.toNat (o ++ [40]))
     omega
   ·rw [if_neg h5]
    by_cases h1 : x.kind = 1
    ·rw [if_pos (.inr h1),if_neg (fun h => h5 h.1),if_pos (.inl h1)]
     exact .inl (by simp [yd,h1])
    ·rw [if_neg (fun h => h.elim h5 h1)]; exact .inl rfl
  ·obtain ⟨x,hx⟩ := vI hv
   have hok := yk hp hx
   cases g' with
   | zero => omega
   | succ g' =>
   simp only [wm,wr,hx,Bool.false_eq_true,if_false]
   by_cases h5 : x.kind = 5
   ·have hk := yP hok h5
    by_cases hl : o.length <= 400
    ·rw [if_pos ⟨h5,hl⟩,if_pos ⟨h5,hl⟩]
     exact CE (ihv g' x.a.toNat (o ++ [32]) (by omega) (by omega) (by omega)) (fun r => iht g' x.b.toNat r (by omega) (by omega) (by omega))
    ·rw [if_neg (fun h => hl h.2),if_pos (.inr h5),if_neg (fun h => hl h.2),if_neg (by omega)]
     refine .inr ⟨by simp; omega,?_⟩
     have := yC (p := p) g' false v (o ++ [32,46,32])
     simp at this ⊢; omega
   ·by_cases h1 : x.kind = 1
    ·rw [if_neg (fun h => h5 h.1),if_pos (.inl h1),if_neg (fun h => h5 h.1),if_pos h1]; exact .inl rfl
    ·rw [if_neg (fun h => h5 h.1),if_neg (fun h => h.elim h1 h5),if_neg (fun h => h5 h.1),if_neg h1]
     cases g with
     | zero => omega
     | succ g =>
     cases g' with
     | zero => omega
     | succ g' =>
     simp only [wm,wr,hx]
     by_cases hf : (o ++ [32,46,32]).length > 400
     ·rw [if_pos hf,if_pos hf]; exact .inl rfl
     ·rw [if_neg hf,if_neg (fun h => h.elim h5 h1),if_neg hf,if_neg h5]; exact .inl rfl
termination_by g => g
end Go.Eng
