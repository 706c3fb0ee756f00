/- the program and the reference on plain data, part 1 -/
import Derived.Test.YtkndfhaehnfnmaaGreatEngC
import Derived.Test.YtkndfhaehnfnmaaGreatProg
/-! bytes,texts,digits: plain facts -/
namespace Go.Eng
noncomputable section

def mk (l : List UInt8) : ByteArray := ⟨l.toArray⟩
theorem yO (l : List UInt8) : (mk l).size = l.length := by simp [mk,ByteArray.size]
theorem NH (a b : List UInt8) : mk a ++ mk b = mk (a ++ b) := by
 apply ByteArray.ext
 simp [mk]
theorem PB (l : List UInt8) : (mk l).data.toList = l := by simp [mk]
theorem Jv (s : ByteArray) : mk s.data.toList = s := by
 apply ByteArray.ext
 simp [mk]
theorem mk_inj {a b : List UInt8} : mk a = mk b ↔ a = b := by
 constructor
 ·intro h
  have := congrArg (fun s => s.data.toList) h
  simpa [PB] using this
 ·rintro rfl; rfl
theorem KG (s : ByteArray) : ∀ (k i : Nat) (acc : List UInt8),k = s.size - i -> ByteArray.toList.loop s i acc = acc.reverse ++ s.data.toList.drop i
 | 0,i,acc,h => by
  unfold ByteArray.toList.loop
  have hs : s.data.toList.length = s.size := by rw [Array.length_toList]; rfl
  rw [if_neg (by omega),List.drop_of_length_le (by omega),List.append_nil]
 | k + 1,i,acc,h => by
  unfold ByteArray.toList.loop
  have hs : s.data.toList.length = s.size := by rw [Array.length_toList]; rfl
  rw [if_pos (by omega),KG s k (i + 1) _ (by omega)]
  have hi : i < s.data.toList.length := by omega
  rw [List.drop_eq_getElem_cons hi]
  have hi' : i < s.data.size := by simpa using hi
  have hg : s.get! i = s.data.toList[i] := by
   show s.data[i]! = _
   rw [getElem!_pos s.data i hi',Array.getElem_toList]
  rw [hg]
  simp
theorem KF (s : ByteArray) : s.toList = s.data.toList := by
 have := KG s s.size 0 [] (by omega)
 rw [List.reverse_nil,List.nil_append,List.drop_zero] at this
 exact this
theorem DG (x y : ByteArray) : kc x y = decide (x = y) := by
 unfold kc
 rw [KF,KF]
 by_cases h : x = y
 ·subst h; simp
 ·have h2 : ¬ x.data.toList = y.data.toList := by
   intro e; apply h; rw [<- Jv x,<- Jv y,e]
  rw [decide_eq_false h]
  exact beq_eq_false_iff_ne.2 h2
theorem DH (a b : List UInt8) : kc (mk a) (mk b) = decide (a = b) := by
 rw [DG]; simp only [mk_inj]
abbrev eU (b : UInt8) : D := .int .u8 (b.toNat : Int)
theorem Ny {l : List UInt8} {i : Nat} {x : UInt8} (h : l[i]? = some x) : bt (mk l) (i : Int) = (x.toNat : Int) := by
 simp only [bt,PB,Int.toNat_natCast]
 rw [List.getD_eq_getElem?_getD,h]; rfl
theorem Dz (l : List UInt8) (a b : Nat) : (mk l).extract a b = mk ((l.drop a).take (b - a)) := by
 apply ByteArray.ext
 simp [mk,ByteArray.data_extract,List.extract_eq_take_drop]
theorem GP (l : List UInt8) : gU (mk l) = l.map eU := by simp [gU,PB]
theorem FJ {R : Type} (l : List UInt8) (K : ByteArray -> Option R) : gy (l.map eU) K = K (mk l) := by
 have hm : ∀ (f : D -> Option UInt8),(∀ x : UInt8,f (eU x) = some x) -> ∀ l : List UInt8,(l.map eU).mapM f = some l := by
  intro f hf l
  induction l with
  | nil => rfl
  | cons x l ih => rw [List.map_cons,List.mapM_cons,hf,ih]; rfl
 unfold gy
 rw [hm _ (fun x => by simp [])]; rfl
theorem RL {R : Type} (n : Int) (K : ByteArray -> Option R) : gy [.int .u8 n] K = K (mk [UInt8.ofNat n.toNat]) := rfl
theorem JS {n : Int} (h0 : 0 <= n) (h1 : n < 256) : IntKind.wrap .u8 n = n := by
 simp [IntKind.wrap,IntKind.bits,IntKind.signed]; omega

def Fm (n : Nat) : List UInt8 := if n < 10 then [UInt8.ofNat (48 + n)] else Fm (n / 10) ++ [UInt8.ofNat (48 + n % 10)]
termination_by n
def FG (n : Int) : List UInt8 := if n < 0 then 45 :: Fm n.natAbs else Fm n.natAbs
theorem z3 {n : Nat} (h : n < 10) : Fm n = [UInt8.ofNat (48 + n)] := by rw [Fm,if_pos h]
theorem Gk {n : Nat} (h : ¬ n < 10) : Fm n = Fm (n / 10) ++ [UInt8.ofNat (48 + n % 10)] := by rw [Fm,if_neg h]
theorem Qd : ∀ (k n : Nat),n < 10 ^ (k + 1) -> (Fm n).length <= k + 1
 | 0,n,h => by rw [z3 (by simpa using h)]; simp
 | k + 1,n,h => by
  by_cases h10 : n < 10
  ·rw [z3 h10]; simp
  ·rw [Gk h10]
   have := Qd k (n / 10) (by rw [Nat.pow_succ] at h; omega)
   simp; omega
theorem Un (n : Nat) : 0 < (Fm n).length := by
 by_cases h10 : n < 10
 ·rw [z3 h10]; simp
 ·rw [Gk h10]; simp
end
end Go.Eng
/-! the functions as the interpreter has them: loop heads -/
namespace Go.Eng
noncomputable section
open Go.Proofs Go.Proofs.Tryz
set_option maxRecDepth 100000
def cf0:Cfg:={ ext:=fun _=>none,own:=fun f=>match f with | 13=>false | 23=>false | 27=>false | 30=>false | 43=>false | 44=>false | 51=>false | 52=>false | 112=>false | _=>true,mode:=fun f i=>match f,i with | 40,0=>.mut | 41,0=>.mut | 49,0=>.mut | 108,0=>.mut | 109,0=>.mut | 110,0=>.mut | 169,0=>.mut | 183,0=>.mut | 73,0=>.mv | 162,0=>.mv | 101,1=>.mv | 172,2=>.mv | _,_=>.ro }
abbrev iN:Int->D:=D.int IntKind.i64
abbrev tk1 {R:Type} (x:D) (K:Int->Int->ByteArray->Int->Int->Option R):Option R:=asAgg x fun l=>unc l fun x0 l0=>asI .i64 x0 fun v0=>unc l0 fun x1 l1=>asI .i64 x1 fun v1=>unc l1 fun x2 l2=>asS x2 fun v2=>unc l2 fun x3 l3=>asI .i64 x3 fun v3=>unc l3 fun x4 l4=>asI .i64 x4 fun v4=>unn l4 (K v0 v1 v2 v3 v4)
@[congr] theorem Xg {R:Type} {x y:D} (h:x = y) (K:_):tk1 (R:=R) x K = tk1 y K:=by rw [h]
abbrev tk2 {R:Type} (x:D) (K:List D->List D->List D->Int->Option R):Option R:=nC x fun l=>unc l fun x0 l0=>jl (5,0) x0 fun v0=>unc l0 fun x1 l1=>jl (4,0) x1 fun v1=>unc l1 fun x2 l2=>jl (3,0) x2 fun v2=>unc l2 fun x3 l3=>asI .i64 x3 fun v3=>unn l3 (K v0 v1 v2 v3)
@[congr] theorem Xh {R:Type} {x y:D} (h:x = y) (K:_):tk2 (R:=R) x K = tk2 y K:=by rw [h]
abbrev tk3 {R:Type} (x:D) (K:List D->Bool->Option R):Option R:=iV x fun l=>unc l fun x0 l0=>jl (1,0) x0 fun v0=>unc l0 fun x1 l1=>asB x1 fun v1=>unn l1 (K v0 v1)
@[congr] theorem Xi {R:Type} {x y:D} (h:x = y) (K:_):tk3 (R:=R) x K = tk3 y K:=by rw [h]
abbrev tk4 {R:Type} (x:D) (K:List D->Int->Int->Option R):Option R:=nC x fun l=>unc l fun x0 l0=>kq (1,0) x0 fun v0=>unc l0 fun x1 l1=>asI .i64 x1 fun v1=>unc l1 fun x2 l2=>asI .i64 x2 fun v2=>unn l2 (K v0 v1 v2)
@[congr] theorem Xj {R:Type} {x y:D} (h:x = y) (K:_):tk4 (R:=R) x K = tk4 y K:=by rw [h]
abbrev tk5 {R:Type} (x:D) (K:List D->Int->Int->Int->Int->Int->Int->Int->Option R):Option R:=asAgg x fun l=>unc l fun x0 l0=>jl (5,0) x0 fun v0=>unc l0 fun x1 l1=>asI .i64 x1 fun v1=>unc l1 fun x2 l2=>asI .i64 x2 fun v2=>unc l2 fun x3 l3=>asI .i64 x3 fun v3=>unc l3 fun x4 l4=>asI .i64 x4 fun v4=>unc l4 fun x5 l5=>asI .i64 x5 fun v5=>unc l5 fun x6 l6=>asI .i64 x6 fun v6=>unc l6 fun x7 l7=>asI .i64 x7 fun v7=>unn l7 (K v0 v1 v2 v3 v4 v5 v6 v7)
@[congr] theorem Xk {R:Type} {x y:D} (h:x = y) (K:_):tk5 (R:=R) x K = tk5 y K:=by rw [h]
abbrev tk6 {R:Type} (x:D) (K:ByteArray->Bool->Option R):Option R:=iV x fun l=>unc l fun x0 l0=>asS x0 fun v0=>unc l0 fun x1 l1=>asB x1 fun v1=>unn l1 (K v0 v1)
@[congr] theorem Xl {R:Type} {x y:D} (h:x = y) (K:_):tk6 (R:=R) x K = tk6 y K:=by rw [h]
abbrev tk7 {R:Type} (x:D) (K:List D->List D->List D->Option R):Option R:=asAgg x fun l=>unc l fun x0 l0=>mc (5,0) x0 fun v0=>unc l0 fun x1 l1=>mc (4,0) x1 fun v1=>unc l1 fun x2 l2=>mc (3,0) x2 fun v2=>unn l2 (K v0 v1 v2)
@[congr] theorem Xm {R:Type} {x y:D} (h:x = y) (K:_):tk7 (R:=R) x K = tk7 y K:=by rw [h]
abbrev tk8 {R:Type} (x:D) (K:Int->List D->Int->Int->Int->Int->Int->Int->Int->List D->List D->Option R):Option R:=asAgg x fun l=>unc l fun x0 l0=>asI .i64 x0 fun v0=>unc l0 fun x1 l1=>jl (5,0) x1 fun v1=>unc l1 fun x2 l2=>asI .i64 x2 fun v2=>unc l2 fun x3 l3=>asI .i64 x3 fun v3=>unc l3 fun x4 l4=>asI .i64 x4 fun v4=>unc l4 fun x5 l5=>asI .i64 x5 fun v5=>unc l5 fun x6 l6=>asI .i64 x6 fun v6=>unc l6 fun x7 l7=>asI .i64 x7 fun v7=>unc l7 fun x8 l8=>asI .i64 x8 fun v8=>unc l8 fun x9 l9=>jl (1,0) x9 fun v9=>unc l9 fun x10 l10=>jl (1,0) x10 fun v10=>unn l10 (K v0 v1 v2 v3 v4 v5 v6 v7 v8 v9 v10)
@[congr] theorem Xn {R:Type} {x y:D} (h:x = y) (K:_):tk8 (R:=R) x K = tk8 y K:=by rw [h]
abbrev tk9 {R:Type} (x:D) (K:Int->Int->Option R):Option R:=iV x fun l=>unc l fun x0 l0=>asI .i64 x0 fun v0=>unc l0 fun x1 l1=>asI .i64 x1 fun v1=>unn l1 (K v0 v1)
@[congr] theorem Xo {R:Type} {x y:D} (h:x = y) (K:_):tk9 (R:=R) x K = tk9 y K:=by rw [h]
abbrev Wt {R:Type} (x:D) (K:List D->List D->List D->Option R):Option R:=asAgg x fun l=>unc l fun x0 l0=>jl (5,0) x0 fun v0=>unc l0 fun x1 l1=>jl (4,0) x1 fun v1=>unc l1 fun x2 l2=>jl (3,0) x2 fun v2=>unn l2 (K v0 v1 v2)
@[congr] theorem W9 {R:Type} {x y:D} (h:x = y) (K:_):Wt (R:=R) x K = Wt y K:=by rw [h]
abbrev VL {R:Type} (x:D) (K:Int->Bool->Option R):Option R:=iV x fun l=>unc l fun x0 l0=>asI .i64 x0 fun v0=>unc l0 fun x1 l1=>asB x1 fun v1=>unn l1 (K v0 v1)
@[congr] theorem Xa {R:Type} {x y:D} (h:x = y) (K:_):VL (R:=R) x K = VL y K:=by rw [h]
abbrev za {R:Type} (x:D) (K:List D->Int->Bool->Option R):Option R:=nC x fun l=>unc l fun x0 l0=>jl (1,0) x0 fun v0=>unc l0 fun x1 l1=>asI .i64 x1 fun v1=>unc l1 fun x2 l2=>asB x2 fun v2=>unn l2 (K v0 v1 v2)
@[congr] theorem Xb {R:Type} {x y:D} (h:x = y) (K:_):za (R:=R) x K = za y K:=by rw [h]
abbrev UY {R:Type} (x:D) (K:ByteArray->Int->Int->Option R):Option R:=asAgg x fun l=>unc l fun x0 l0=>asS x0 fun v0=>unc l0 fun x1 l1=>asI .i64 x1 fun v1=>unc l1 fun x2 l2=>asI .i64 x2 fun v2=>unn l2 (K v0 v1 v2)
@[congr] theorem Xc {R:Type} {x y:D} (h:x = y) (K:_):UY (R:=R) x K = UY y K:=by rw [h]
abbrev TU {R:Type} (x:D) (K:Int->Int->Bool->Option R):Option R:=iV x fun l=>unc l fun x0 l0=>asI .i64 x0 fun v0=>unc l0 fun x1 l1=>asI .i64 x1 fun v1=>unc l1 fun x2 l2=>asB x2 fun v2=>unn l2 (K v0 v1 v2)
@[congr] theorem Xd {R:Type} {x y:D} (h:x = y) (K:_):TU (R:=R) x K = TU y K:=by rw [h]
abbrev PQ {R:Type} (x:D) (K:ByteArray->Int->Bool->Option R):Option R:=iV x fun l=>unc l fun x0 l0=>asS x0 fun v0=>unc l0 fun x1 l1=>asI .i64 x1 fun v1=>unc l1 fun x2 l2=>asB x2 fun v2=>unn l2 (K v0 v1 v2)
@[congr] theorem Xe {R:Type} {x y:D} (h:x = y) (K:_):PQ (R:=R) x K = PQ y K:=by rw [h]
abbrev VN {R:Type} (x:D) (K:Int->Int->Int->ByteArray->Option R):Option R:=asAgg x fun l=>unc l fun x0 l0=>asI .i64 x0 fun v0=>unc l0 fun x1 l1=>asI .i64 x1 fun v1=>unc l1 fun x2 l2=>asI .i64 x2 fun v2=>unc l2 fun x3 l3=>asS x3 fun v3=>unn l3 (K v0 v1 v2 v3)
@[congr] theorem Xf {R:Type} {x y:D} (h:x = y) (K:_):VN (R:=R) x K = VN y K:=by rw [h]
abbrev uu : A := .undef
abbrev V:=Vn Tryz.prog cf0
abbrev R:=Rn Tryz.prog cf0
def Cq (p0:List D) (p1 p2:Int):Option Ret:=R 51 Tryz.f51 [] (yv Tryz.f51 3) ⟨[.d (.rs (1,0) p0),uu,uu,.d (iN p1),.d (iN p2),uu,uu,uu,uu,uu,uu,uu,uu,uu,uu,uu,uu,uu,uu,uu,uu,uu,uu,uu,uu,uu,uu,uu,uu,uu,uu,uu],[],0,[]⟩
def BC (p0 p1:Int) (p2 p3 p4:List D):Option Ret:=R 54 Tryz.f54 [] (yv Tryz.f54 4) ⟨[uu,.ref 0 0 0,uu,uu,uu,uu,uu,uu,uu,uu,uu,uu,uu,uu,uu,uu,uu,uu,uu,uu,uu,uu,uu,uu,.d (iN p0),.d (iN p1),uu,uu,uu,uu,uu,uu,uu,uu,uu,uu,uu,uu,uu,uu,uu,uu,uu,uu,uu,uu,uu,uu,uu,uu,uu,uu,uu,uu,uu,uu,uu,uu,uu,uu,uu,uu,uu,uu,uu,uu,uu,uu,uu,uu],[(0,some (.var [.d (.rs (5,0) p2),.d (.rs (4,0) p3),.d (.rs (3,0) p4)]))],1,[]⟩
def Bi (p0:List D) (p1 p2:Int) (p3 p4 p5:List D):Option Ret:=R 54 Tryz.f54 [] (yv Tryz.f54 10) ⟨[uu,.ref 0 0 0,uu,uu,uu,uu,uu,uu,uu,uu,uu,uu,uu,uu,uu,uu,uu,uu,uu,uu,uu,uu,uu,uu,uu,uu,uu,uu,uu,uu,uu,uu,uu,uu,.d (.rs (3,0) p0),.d (iN p1),.d (iN p2),uu,uu,uu,uu,uu,uu,uu,uu,uu,uu,uu,uu,uu,uu,uu,uu,uu,uu,uu,uu,uu,uu,uu,uu,uu,uu,uu,uu,uu,uu,uu,uu,uu],[(0,some (.var [.d (.rs (5,0) p3),.d (.rs (4,0) p4),.d (.rs (3,0) p5)]))],1,[]⟩
def BH (p0:List D) (p1 p2:Int) (p3:List D):Option Ret:=R 55 Tryz.f55 [] (yv Tryz.f55 2) ⟨[uu,.ref 0 0 0,uu,uu,uu,uu,.d (.rs (5,0) p0),.d (iN p1),.d (iN p2),uu,uu,uu,uu,uu,uu,uu,uu,uu,uu,uu,uu,uu],[(0,some (.var [.d (.rs (5,0) p3)]))],1,[]⟩
def BM (p0:Int) (p1 p2 p3:List D):Option Ret:=R 59 Tryz.f59 [] (yv Tryz.f59 4) ⟨[uu,.ref 0 0 0,uu,.d (iN p0),uu,uu,uu,uu,uu,uu,uu,uu,uu,uu,uu,uu,uu,uu,uu,uu,uu,uu,uu,uu,uu,uu,uu,uu,uu,uu,uu,uu,uu,uu,uu,uu,uu,uu,uu,uu,uu,uu,uu,uu,uu,uu,uu,uu,uu,uu,uu,uu,uu,uu,uu,uu,uu,uu,uu,uu,uu,uu,uu,uu,uu,uu,uu,uu,uu,uu,uu,uu,uu],[(0,some (.var [.d (.rs (5,0) p1),.d (.rs (4,0) p2),.d (.rs (3,0) p3)]))],1,[]⟩
def BQ (p0:Int) (p1 p2 p3:List D):Option Ret:=R 59 Tryz.f59 [] (yv Tryz.f59 9) ⟨[uu,.ref 0 0 0,uu,uu,.d (iN p0),uu,uu,uu,uu,uu,uu,uu,uu,uu,uu,uu,uu,uu,uu,uu,uu,uu,uu,uu,uu,uu,uu,uu,uu,uu,uu,uu,uu,uu,uu,uu,uu,uu,uu,uu,uu,uu,uu,uu,uu,uu,uu,uu,uu,uu,uu,uu,uu,uu,uu,uu,uu,uu,uu,uu,uu,uu,uu,uu,uu,uu,uu,uu,uu,uu,uu,uu,uu],[(0,some (.var [.d (.rs (5,0) p1),.d (.rs (4,0) p2),.d (.rs (3,0) p3)]))],1,[]⟩
def BV (p0:Int) (p1:List D):Option Ret:=R 60 Tryz.f60 [] (yv Tryz.f60 2) ⟨[uu,.ref 0 0 0,uu,.d (iN p0),uu,uu,uu,uu,uu,uu,uu,uu,uu,uu,uu,uu,uu,uu,uu,uu,uu,uu,uu],[(0,some (.var [.d (.rs (5,0) p1)]))],1,[]⟩
def Db (p0:List D) (p1 p2:Int) (p3 p4 p5:List D):Option Ret:=R 66 Tryz.f66 [] (yv Tryz.f66 5) ⟨[uu,uu,uu,uu,.ref 0 0 0,uu,.ref 1 0 0,.asl 2 none,.asl 3 none,uu,uu,uu,uu,uu,uu,uu,.d (.rs (1,0) p0),.d (iN p1),.d (iN p2),uu,uu,uu,uu,uu,uu,uu,uu,uu,uu,uu,uu,uu],[(0,some (.var [.d .nl])),(1,some (.var [.asl 4 none])),(2,some (.arr (1,0) p3)),(3,some (.arr (1,0) p4)),(4,some (.arr (5,0) p5))],5,[]⟩
def BJ (p0:Int) (p1:List D):Option Ret:=R 67 Tryz.f67 [] (yv Tryz.f67 4) ⟨[.d (iN p0),uu,uu,.asl 0 none,uu,uu,uu,uu,uu,uu,uu,uu,uu,uu,uu,uu,uu,uu,uu,uu,uu,uu,uu],[(0,some (.arr (1,0) p1))],1,[]⟩
def yR (p0:List D) (p1 p2:Int) (p3:List D):Option Ret:=R 68 Tryz.f68 [] (yv Tryz.f68 3) ⟨[uu,uu,uu,.asl 0 none,uu,uu,uu,uu,uu,uu,uu,.d (.rs (5,0) p0),.d (iN p1),.d (iN p2),uu,uu,uu,uu,uu,uu,uu,uu,uu,uu,uu,uu,uu,uu,uu,uu,uu,uu,uu,uu,uu,uu,uu,uu,uu,uu,uu,uu,uu,uu,uu,uu,uu,uu,uu,uu,uu,uu,uu,uu,uu,uu,uu,uu,uu,uu,uu,uu,uu,uu,uu,uu,uu,uu,uu,uu,uu,uu,uu,uu,uu,uu,uu,uu,uu,uu,uu],[(0,some (.arr (1,0) p3))],1,[]⟩
def BX (p0:Int) (p1:List D):Option Ret:=R 69 Tryz.f69 [] (yv Tryz.f69 4) ⟨[.d (iN p0),uu,uu,.asl 0 none,uu,uu,uu,uu,uu,uu,uu,uu,uu,uu,uu,uu,uu,uu,uu,uu,uu,uu,uu,uu],[(0,some (.arr (1,0) p1))],1,[]⟩
def yU (p0:Int) (p1 p2:List D):Option Ret:=R 70 Tryz.f70 [] (yv Tryz.f70 3) ⟨[uu,.ref 0 0 0,uu,.asl 1 none,.d (iN p0),uu,uu,uu,uu,uu,uu,uu,uu,uu,uu,uu,uu,uu,uu,uu,uu,uu,uu,uu,uu,uu,uu,uu,uu,uu,uu,uu,uu,uu,uu,uu,uu,uu,uu,uu,uu,uu,uu,uu,uu,uu,uu,uu,uu,uu,uu,uu,uu,uu,uu,uu,uu,uu,uu,uu,uu,uu,uu,uu,uu,uu,uu,uu,uu,uu,uu,uu,uu,uu,uu,uu,uu,uu,uu,uu,uu,uu,uu],[(0,some (.var [.d (.rs (5,0) p1)])),(1,some (.arr (1,0) p2))],2,[]⟩
def AC (p0 p1 p2:Int) (p3:Bool) (p4:List D):Option Ret:=R 72 Tryz.f72 [((Go.Func.params Tryz.f72).toList.getD 0 0)] (yv Tryz.f72 4) ⟨[.ref 0 0 0,uu,.ref 1 0 0,.ref 2 0 0,.d (iN p0),.d (iN p1),uu,uu,uu,uu,uu,uu,uu,uu,uu,uu,uu,uu,uu,uu,uu,uu,uu,uu,uu,uu,uu,uu,uu,uu,uu,uu,uu,uu],[(0,some (.var [.asl 3 none,.d (iN p2),.d (.bool p3)])),(1,some (.var [.d .nl])),(2,some (.var [.d .nl])),(3,some (.arr (1,0) p4))],4,[.ref 0 0 0]⟩
def zt (p0 p1 p2:Int) (p3:Bool) (p4 p5:List D):Option Ret:=R 72 Tryz.f72 [((Go.Func.params Tryz.f72).toList.getD 0 0)] (yv Tryz.f72 4) ⟨[.ref 0 0 0,uu,.ref 1 0 0,.ref 2 0 0,.d (iN p0),.d (iN p1),uu,uu,uu,uu,uu,uu,uu,uu,uu,uu,uu,uu,uu,uu,uu,uu,uu,uu,uu,uu,uu,uu,uu,uu,uu,uu,uu,uu],[(0,some (.var [.asl 3 none,.d (iN p2),.d (.bool p3)])),(1,some (.var [.d .nl])),(2,some (.var [.asl 4 none])),(3,some (.arr (1,0) p4)),(4,some (.arr (5,0) p5))],5,[.ref 0 0 0]⟩
def BW (p0 p1:Int) (p2:List D) (p3 p4 p5 p6 p7 p8 p9:Int) (p10 p11:List D):Option Ret:=R 79 Tryz.f79 [] (yv Tryz.f79 4) ⟨[uu,uu,uu,.ref 0 0 0,uu,.d (iN p0),uu,uu,uu,uu,uu,uu,uu,uu,uu,uu,uu,uu,uu,uu,uu,uu,uu,uu,uu,uu,uu,uu,uu,uu,uu,uu,uu,uu,uu,uu,uu,uu,uu,uu,uu,uu,uu,uu,uu,uu,uu,uu,uu,uu,uu,uu,uu,uu,uu,uu,uu,uu,uu,uu,uu,uu,uu,uu,uu,uu],[(0,some (.var [.d (iN p1),.d (.rs (5,0) p2),.d (iN p3),.d (iN p4),.d (iN p5),.d (iN p6),.d (iN p7),.d (iN p8),.d (iN p9),.d (.rs (1,0) p10),.d (.rs (1,0) p11)]))],1,[]⟩
def Bm (p0 p1:Int) (p2:List D) (p3 p4 p5 p6 p7 p8 p9:Int) (p10 p11:List D):Option Ret:=R 79 Tryz.f79 [] (yv Tryz.f79 10) ⟨[uu,uu,uu,.ref 0 0 0,uu,uu,uu,uu,uu,.d (iN p0),uu,uu,uu,uu,uu,uu,uu,uu,uu,uu,uu,uu,uu,uu,uu,uu,uu,uu,uu,uu,uu,uu,uu,uu,uu,uu,uu,uu,uu,uu,uu,uu,uu,uu,uu,uu,uu,uu,uu,uu,uu,uu,uu,uu,uu,uu,uu,uu,uu,uu,uu,uu,uu,uu,uu,uu],[(0,some (.var [.d (iN p1),.d (.rs (5,0) p2),.d (iN p3),.d (iN p4),.d (iN p5),.d (iN p6),.d (iN p7),.d (iN p8),.d (iN p9),.d (.rs (1,0) p10),.d (.rs (1,0) p11)]))],1,[]⟩
def Ce (p0:List D) (p1:Int) (p2 p3 p4:List D):Option Ret:=R 86 Tryz.f86 [] (yv Tryz.f86 5) ⟨[uu,.d (.rs (1,0) p0),uu,uu,.ref 0 0 0,uu,.ref 1 0 0,.asl 2 none,.asl 3 none,.d (iN p1),uu,uu,uu,uu,uu,uu,uu,uu,uu,uu,uu,uu,uu,uu,uu,uu,uu,uu,uu,uu,uu,uu,uu,uu,uu],[(0,some (.var [.d .nl])),(1,some (.var [.asl 4 none])),(2,some (.arr (1,0) p2)),(3,some (.arr (1,0) p3)),(4,some (.arr (5,0) p4))],5,[]⟩
def zO (p0:Int) (p1:List D) (p2 p3:Int) (p4:List D):Option Ret:=R 90 Tryz.f90 [87] (yv Tryz.f90 8) ⟨[uu,uu,.ref 0 0 0,.ref 1 0 0,uu,.d (iN p0),uu,uu,uu,uu,uu,uu,uu,uu,uu,uu,uu,uu,uu,uu,uu,uu,uu,uu,uu,uu,uu,uu,uu,uu,uu,uu,uu,uu,uu,uu,uu,uu,uu,uu,uu,uu,uu,uu,uu,uu,uu,uu,uu,uu,uu,uu],[(0,some (.var [.d .nl])),(1,some (.var [.asl 3 none])),(2,some (.var [.d (.rs (1,0) p1),.d (iN p2),.d (iN p3)])),(3,some (.arr (5,0) p4))],4,[.ref 2 0 0]⟩
def Aa (p0 p1 p2:Int) (p3:Bool) (p4:List D):Option Ret:=R 115 Tryz.f115 [((Go.Func.params Tryz.f115).toList.getD 0 0)] (yv Tryz.f115 6) ⟨[.ref 0 0 0,uu,.ref 1 0 0,.ref 2 0 0,.d (iN p0),.d (iN p1),uu,uu,uu,uu,uu,uu,uu,uu,uu,uu,uu,uu,uu,uu,uu,uu,uu,uu,uu,uu,uu,uu,uu,uu,uu,uu,uu,uu,uu,uu,uu,uu,uu,uu,uu,uu,uu,uu,uu,uu,uu,uu,uu,uu,uu,uu,uu,uu,uu,uu,uu,uu,uu,uu,uu,uu,uu,uu,uu,uu,uu,uu,uu,uu,uu,uu,uu,uu,uu,uu,uu,uu,uu,uu,uu,uu,uu,uu,uu,uu,uu,uu,uu,uu,uu,uu,uu,uu,uu,uu,uu,uu,uu,uu,uu,uu,uu,uu,uu,uu,uu,uu,uu,uu,uu,uu,uu,uu,uu,uu,uu,uu,uu,uu,uu,uu,uu,uu,uu,uu,uu,uu,uu],[(0,some (.var [.asl 3 none,.d (iN p2),.d (.bool p3)])),(1,some (.var [.d .nl])),(2,some (.var [.d .nl])),(3,some (.arr (1,0) p4))],4,[.ref 0 0 0]⟩
def yP (p0 p1 p2:Int) (p3:Bool) (p4 p5:List D):Option Ret:=R 115 Tryz.f115 [((Go.Func.params Tryz.f115).toList.getD 0 0)] (yv Tryz.f115 6) ⟨[.ref 0 0 0,uu,.ref 1 0 0,.ref 2 0 0,.d (iN p0),.d (iN p1),uu,uu,uu,uu,uu,uu,uu,uu,uu,uu,uu,uu,uu,uu,uu,uu,uu,uu,uu,uu,uu,uu,uu,uu,uu,uu,uu,uu,uu,uu,uu,uu,uu,uu,uu,uu,uu,uu,uu,uu,uu,uu,uu,uu,uu,uu,uu,uu,uu,uu,uu,uu,uu,uu,uu,uu,uu,uu,uu,uu,uu,uu,uu,uu,uu,uu,uu,uu,uu,uu,uu,uu,uu,uu,uu,uu,uu,uu,uu,uu,uu,uu,uu,uu,uu,uu,uu,uu,uu,uu,uu,uu,uu,uu,uu,uu,uu,uu,uu,uu,uu,uu,uu,uu,uu,uu,uu,uu,uu,uu,uu,uu,uu,uu,uu,uu,uu,uu,uu,uu,uu,uu,uu],[(0,some (.var [.asl 3 none,.d (iN p2),.d (.bool p3)])),(1,some (.var [.d .nl])),(2,some (.var [.asl 4 none])),(3,some (.arr (1,0) p4)),(4,some (.arr (5,0) p5))],5,[.ref 0 0 0]⟩
def AA (p0:ByteArray) (p1 p2:Int):Option Ret:=R 124 Tryz.f124 [] (yv Tryz.f124 4) ⟨[.d (.str p0),uu,uu,uu,uu,uu,uu,uu,uu,.d (iN p1),.d (iN p2),uu,uu,uu,uu,uu,uu,uu,uu],[],0,[]⟩
def AE (p0:ByteArray) (p1:Int):Option Ret:=R 128 Tryz.f128 [] (yv Tryz.f128 2) ⟨[.d (.str p0),uu,uu,.d (iN p1),uu,uu,uu,uu,uu,uu,uu,uu,uu,uu,uu,uu,uu,uu],[],0,[]⟩
def Cn (p0:ByteArray) (p1:Int) (p2 p3 p4:List D):Option Ret:=R 129 Tryz.f129 [] (yv Tryz.f129 2) ⟨[uu,.d (.str p0),.ref 0 0 0,uu,uu,.d (iN p1),uu,uu,uu,uu,uu,uu,uu,uu,uu,uu,uu,uu,uu,uu,uu,uu],[(0,some (.var [.d (.rs (5,0) p2),.d (.rs (4,0) p3),.d (.rs (3,0) p4)]))],1,[]⟩
def y3 (p0:List D) (p1 p2:Int) (p3 p4 p5:List D):Option Ret:=R 137 Tryz.f137 [((Go.Func.params Tryz.f137).toList.getD 0 0)] (yv Tryz.f137 4) ⟨[.ref 0 0 0,uu,uu,uu,uu,uu,uu,.asl 1 none,.asl 2 none,uu,uu,uu,uu,uu,uu,uu,uu,uu,uu,.d (.rs (5,0) p0),.d (iN p1),.d (iN p2),uu,uu,uu,uu,uu,uu,uu,uu,uu,uu,uu,uu,uu,uu,uu,uu,uu,uu,uu,uu,uu,uu,uu,uu,uu,uu,uu,uu,uu,uu,uu,uu,uu,uu,uu,uu,uu,uu,uu,uu,uu,uu,uu,uu,uu],[(0,some (.var [.asl 3 none])),(1,some (.arr (1,0) p3)),(2,some (.arr (1,0) p4)),(3,some (.arr (5,0) p5))],4,[.ref 0 0 0]⟩
def BG (p0:List D) (p1 p2 p3:Int):Option Ret:=R 140 Tryz.f140 [] (yv Tryz.f140 5) ⟨[.d (.rs (1,0) p0),.d (iN p1),uu,uu,uu,uu,uu,.d (iN p2),.d (iN p3),uu,uu,uu,uu,uu,uu,uu,uu,uu,uu,uu,uu,uu,uu,uu,uu,uu,uu,uu,uu,uu,uu,uu,uu,uu,uu,uu,uu,uu,uu,uu,uu,uu,uu,uu,uu,uu,uu,uu,uu,uu,uu,uu,uu,uu,uu],[],0,[]⟩
def zK (p0:Int) (p1:List D) (p2 p3:Int):Option Ret:=R 142 Tryz.f142 [87] (yv Tryz.f142 2) ⟨[.ref 0 0 0,uu,.ref 1 0 0,.d (iN p0),uu,uu,uu,uu,uu,uu,uu,uu,uu,uu,uu,uu,uu,uu,uu,uu,uu,uu,uu,uu,uu,uu,uu,uu,uu,uu,uu,uu,uu,uu,uu,uu,uu,uu,uu,uu,uu,uu,uu,uu,uu,uu,uu,uu,uu,uu,uu,uu,uu,uu,uu,uu,uu,uu,uu,uu],[(0,some (.var [.d (.rs (1,0) p1),.d (iN p2),.d (iN p3)])),(1,some (.var [.d .nl,.d .nl,.d .nl]))],2,[.ref 0 0 0]⟩
def zW (p0:List D) (p1 p2:Int):Option Ret:=R 145 Tryz.f145 [] (yv Tryz.f145 2) ⟨[.d (.rs (1,0) p0),.fn 81 [],uu,uu,uu,uu,uu,.d (iN p1),.d (iN p2),uu,uu,uu,uu,uu,uu,uu,uu,uu,uu],[],0,[]⟩
def zX (p0:List D) (p1 p2:Int):Option Ret:=R 145 Tryz.f145 [] (yv Tryz.f145 2) ⟨[.d (.rs (1,0) p0),.fn 83 [],uu,uu,uu,uu,uu,.d (iN p1),.d (iN p2),uu,uu,uu,uu,uu,uu,uu,uu,uu,uu],[],0,[]⟩
def zu (p0:List D) (p1:Int) (p2 p3 p4:List D):Option Ret:=R 148 Tryz.f148 [((Go.Func.params Tryz.f148).toList.getD 0 0)] (yv Tryz.f148 3) ⟨[.ref 0 0 0,uu,.d (.rs (1,0) p0),uu,.ref 1 0 0,uu,uu,.asl 2 none,.d (iN p1),uu,uu,uu,uu,uu,uu,uu,uu,uu,uu,uu,uu,uu,uu,uu,uu,uu,uu,uu,uu,uu,uu,uu,uu,uu,uu,uu,uu,uu,uu,uu,uu,uu,uu,uu,uu,uu,uu,uu,uu,uu,uu,uu,uu,uu,uu,uu,uu,uu,uu,uu,uu,uu,uu],[(0,some (.var [.asl 3 none])),(1,some (.var [.d (.rs (5,0) p2)])),(2,some (.arr (1,0) p3)),(3,some (.arr (5,0) p4))],4,[.ref 0 0 0]⟩
def Av (p0:List D) (p1:Int) (p2 p3:List D):Option Ret:=R 149 Tryz.f149 [] (yv Tryz.f149 3) ⟨[uu,.d (.rs (1,0) p0),.ref 0 0 0,uu,uu,.asl 1 none,.d (iN p1),uu,uu,uu,uu,uu,uu,uu,uu,uu,uu,uu,uu,uu,uu,uu,uu,uu,uu,uu,uu,uu,uu,uu,uu,uu,uu,uu,uu,uu,uu,uu,uu,uu,uu,uu,uu,uu,uu,uu,uu,uu,uu,uu,uu,uu,uu,uu,uu,uu,uu,uu,uu,uu,uu,uu,uu],[(0,some (.var [.d (.rs (5,0) p2)])),(1,some (.arr (1,0) p3))],2,[]⟩
def zp (p0:Int) (p1 p2:List D):Option Ret:=R 149 Tryz.f149 [] (yv Tryz.f149 7) ⟨[uu,uu,.ref 0 0 0,uu,uu,.asl 1 none,uu,.d (iN p0),uu,uu,uu,uu,uu,uu,uu,uu,uu,uu,uu,uu,uu,uu,uu,uu,uu,uu,uu,uu,uu,uu,uu,uu,uu,uu,uu,uu,uu,uu,uu,uu,uu,uu,uu,uu,uu,uu,uu,uu,uu,uu,uu,uu,uu,uu,uu,uu,uu,uu,uu,uu,uu,uu,uu],[(0,some (.var [.d (.rs (5,0) p1)])),(1,some (.arr (1,0) p2))],2,[]⟩
def CU (p0 p1:Int) (p2:List D) (p3 p4:Int):Option Ret:=R 154 Tryz.f154 [87] (yv Tryz.f154 4) ⟨[.ref 0 0 0,uu,.ref 1 0 0,.ref 2 0 0,.d (iN p0),.d (iN p1),uu,uu,uu,uu,uu,uu,uu,uu,uu,uu,uu,uu,uu],[(0,some (.var [.d (.rs (1,0) p2),.d (iN p3),.d (iN p4)])),(1,some (.var [.d .nl])),(2,some (.var [.d .nl]))],3,[.ref 0 0 0]⟩
def zP (p0 p1:Int) (p2:List D) (p3 p4:Int) (p5:List D):Option Ret:=R 154 Tryz.f154 [87] (yv Tryz.f154 4) ⟨[.ref 0 0 0,uu,.ref 1 0 0,.ref 2 0 0,.d (iN p0),.d (iN p1),uu,uu,uu,uu,uu,uu,uu,uu,uu,uu,uu,uu,uu],[(0,some (.var [.d (.rs (1,0) p2),.d (iN p3),.d (iN p4)])),(1,some (.var [.d .nl])),(2,some (.var [.asl 3 none])),(3,some (.arr (5,0) p5))],4,[.ref 0 0 0]⟩
def BU (p0:List D) (p1 p2 p3 p4:Int):Option Ret:=R 173 Tryz.f173 [] (yv Tryz.f173 6) ⟨[.d (.rs (1,0) p0),.d (iN p1),uu,uu,uu,uu,uu,.d (iN p2),.d (iN p3),.d (iN p4),uu,uu,uu,uu,uu,uu,uu,uu,uu,uu,uu,uu,uu,uu,uu,uu,uu,uu,uu,uu,uu,uu,uu,uu,uu,uu,uu,uu,uu,uu,uu,uu,uu,uu,uu,uu,uu,uu,uu,uu,uu,uu,uu,uu,uu,uu,uu,uu,uu],[],0,[]⟩
def Am (p0:List D) (p1:ByteArray) (p2 p3:Int):Option Ret:=R 178 Tryz.f178 [] (yv Tryz.f178 2) ⟨[.d (.rs (3,0) p0),.fn 179 [.rp (1,1) [.str p1] 0 0],uu,uu,uu,uu,uu,.d (iN p2),.d (iN p3),uu,uu,uu,uu,uu,uu,uu,uu,uu,uu],[],0,[]⟩
def AW (p0:List D) (p1 p2:Int) (p3 p4:List D):Option Ret:=R 189 Tryz.f189 [] (yv Tryz.f189 3) ⟨[uu,uu,.ref 0 0 0,uu,uu,.asl 1 none,uu,uu,uu,uu,uu,uu,uu,uu,.d (.rs (1,0) p0),.d (iN p1),.d (iN p2),uu,uu,uu,uu,uu,uu,uu,uu,uu,uu,uu,uu,uu,uu,uu,uu,uu,uu,uu,uu,uu,uu,uu,uu,uu,uu,uu,uu,uu,uu,uu,uu,uu,uu,uu,uu,uu,uu,uu,uu,uu,uu,uu,uu,uu],[(0,some (.var [.d (.rs (5,0) p3)])),(1,some (.arr (1,0) p4))],2,[]⟩
def zB (p0:Int) (p1 p2:List D):Option Ret:=R 189 Tryz.f189 [] (yv Tryz.f189 8) ⟨[uu,uu,.ref 0 0 0,uu,uu,.asl 1 none,uu,uu,.d (iN p0),uu,uu,uu,uu,uu,uu,uu,uu,uu,uu,uu,uu,uu,uu,uu,uu,uu,uu,uu,uu,uu,uu,uu,uu,uu,uu,uu,uu,uu,uu,uu,uu,uu,uu,uu,uu,uu,uu,uu,uu,uu,uu,uu,uu,uu,uu,uu,uu,uu,uu,uu,uu,uu],[(0,some (.var [.d (.rs (5,0) p1)])),(1,some (.arr (1,0) p2))],2,[]⟩
def y4 (p0:ByteArray) (p1:Int) (p2 p3 p4 p5:List D):Option Ret:=R 191 Tryz.f191 [] (yv Tryz.f191 9) ⟨[uu,.d (.str p0),.ref 0 0 0,uu,.ref 1 0 0,uu,uu,uu,.asl 2 none,.ref 3 0 0,.asl 4 none,.d (iN p1),uu,uu,uu,uu,uu,uu,uu,uu,uu,uu,uu,uu,uu,uu,uu,uu,uu,uu,uu,uu,uu,uu,uu,uu,uu,uu,uu,uu,uu,uu,uu,uu,uu,uu,uu,uu,uu,uu,uu,uu,uu,uu,uu,uu,uu,uu,uu,uu,uu,uu,uu,uu,uu,uu,uu,uu,uu,uu,uu,uu,uu,uu,uu,uu,uu,uu,uu,uu,uu,uu,uu,uu,uu,uu,uu,uu,uu,uu,uu,uu,uu,uu,uu,uu,uu,uu,uu,uu,uu,uu,uu,uu,uu,uu,uu,uu,uu,uu,uu,uu,uu,uu,uu,uu,uu,uu,uu,uu,uu,uu,uu,uu,uu,uu,uu,uu,uu,uu,uu,uu,uu,uu,uu,uu,uu,uu,uu,uu,uu,uu,uu,uu,uu,uu,uu,uu,uu,uu,uu,uu,uu,uu,uu,uu,uu,uu,uu,uu,uu,uu,uu,uu,uu,uu,uu,uu,uu,uu],[(0,some (.var [.d (.rs (5,0) p2)])),(1,some (.var [.d .nl])),(2,some (.arr (1,0) p3)),(3,some (.var [.asl 5 none])),(4,some (.arr (2,2) p4)),(5,some (.arr (5,0) p5))],6,[]⟩
def y1 (p0:ByteArray) (p1:Nat) (p2:Int) (p3 p4 p5 p6:List D):Option Ret:=R 191 Tryz.f191 [] (yv Tryz.f191 9) ⟨[uu,.d (.str p0),.ref 0 0 0,uu,.ref 1 0 0,uu,uu,uu,.asl 2 none,.ref 3 0 0,.asl 4 (some (0,p1)),.d (iN p2),uu,uu,uu,uu,uu,uu,uu,uu,uu,uu,uu,uu,uu,uu,uu,uu,uu,uu,uu,uu,uu,uu,uu,uu,uu,uu,uu,uu,uu,uu,uu,uu,uu,uu,uu,uu,uu,uu,uu,uu,uu,uu,uu,uu,uu,uu,uu,uu,uu,uu,uu,uu,uu,uu,uu,uu,uu,uu,uu,uu,uu,uu,uu,uu,uu,uu,uu,uu,uu,uu,uu,uu,uu,uu,uu,uu,uu,uu,uu,uu,uu,uu,uu,uu,uu,uu,uu,uu,uu,uu,uu,uu,uu,uu,uu,uu,uu,uu,uu,uu,uu,uu,uu,uu,uu,uu,uu,uu,uu,uu,uu,uu,uu,uu,uu,uu,uu,uu,uu,uu,uu,uu,uu,uu,uu,uu,uu,uu,uu,uu,uu,uu,uu,uu,uu,uu,uu,uu,uu,uu,uu,uu,uu,uu,uu,uu,uu,uu,uu,uu,uu,uu,uu,uu,uu,uu,uu,uu],[(0,some (.var [.d (.rs (5,0) p3)])),(1,some (.var [.d .nl])),(2,some (.arr (1,0) p4)),(3,some (.var [.asl 5 none])),(4,some (.arr (2,2) p5)),(5,some (.arr (5,0) p6))],6,[]⟩
def zZ (p0:ByteArray) (p1 p2 p3:Int) (p4 p5 p6 p7:List D):Option Ret:=R 191 Tryz.f191 [] (yv Tryz.f191 27) ⟨[uu,.d (.str p0),.ref 0 0 0,uu,.ref 1 0 0,uu,uu,uu,.asl 2 none,.ref 3 0 0,.asl 4 none,.d (iN p1),.d (iN p2),uu,uu,.d (iN p3),uu,uu,uu,uu,uu,uu,uu,uu,uu,uu,uu,uu,uu,uu,uu,uu,uu,uu,uu,uu,uu,uu,uu,uu,uu,uu,uu,uu,uu,uu,uu,uu,uu,uu,uu,uu,uu,uu,uu,uu,uu,uu,uu,uu,uu,uu,uu,uu,uu,uu,uu,uu,uu,uu,uu,uu,uu,uu,uu,uu,uu,uu,uu,uu,uu,uu,uu,uu,uu,uu,uu,uu,uu,uu,uu,uu,uu,uu,uu,uu,uu,uu,uu,uu,uu,uu,uu,uu,uu,uu,uu,uu,uu,uu,uu,uu,uu,uu,uu,uu,uu,uu,uu,uu,uu,uu,uu,uu,uu,uu,uu,uu,uu,uu,uu,uu,uu,uu,uu,uu,uu,uu,uu,uu,uu,uu,uu,uu,uu,uu,uu,uu,uu,uu,uu,uu,uu,uu,uu,uu,uu,uu,uu,uu,uu,uu,uu,uu,uu,uu,uu,uu,uu,uu],[(0,some (.var [.d (.rs (5,0) p4)])),(1,some (.var [.d .nl])),(2,some (.arr (1,0) p5)),(3,some (.var [.asl 5 none])),(4,some (.arr (2,2) p6)),(5,some (.arr (5,0) p7))],6,[]⟩
def zG (p0:ByteArray) (p1:Nat) (p2 p3 p4:Int) (p5 p6 p7 p8:List D):Option Ret:=R 191 Tryz.f191 [] (yv Tryz.f191 27) ⟨[uu,.d (.str p0),.ref 0 0 0,uu,.ref 1 0 0,uu,uu,uu,.asl 2 none,.ref 3 0 0,.asl 4 (some (0,p1)),.d (iN p2),.d (iN p3),uu,uu,.d (iN p4),uu,uu,uu,uu,uu,uu,uu,uu,uu,uu,uu,uu,uu,uu,uu,uu,uu,uu,uu,uu,uu,uu,uu,uu,uu,uu,uu,uu,uu,uu,uu,uu,uu,uu,uu,uu,uu,uu,uu,uu,uu,uu,uu,uu,uu,uu,uu,uu,uu,uu,uu,uu,uu,uu,uu,uu,uu,uu,uu,uu,uu,uu,uu,uu,uu,uu,uu,uu,uu,uu,uu,uu,uu,uu,uu,uu,uu,uu,uu,uu,uu,uu,uu,uu,uu,uu,uu,uu,uu,uu,uu,uu,uu,uu,uu,uu,uu,uu,uu,uu,uu,uu,uu,uu,uu,uu,uu,uu,uu,uu,uu,uu,uu,uu,uu,uu,uu,uu,uu,uu,uu,uu,uu,uu,uu,uu,uu,uu,uu,uu,uu,uu,uu,uu,uu,uu,uu,uu,uu,uu,uu,uu,uu,uu,uu,uu,uu,uu,uu,uu,uu,uu,uu,uu],[(0,some (.var [.d (.rs (5,0) p5)])),(1,some (.var [.d .nl])),(2,some (.arr (1,0) p6)),(3,some (.var [.asl 5 none])),(4,some (.arr (2,2) p7)),(5,some (.arr (5,0) p8))],6,[]⟩
def Bj (p0:List D) (p1:Int) (p2:List D):Option Ret:=R 193 Tryz.f193 [] (yv Tryz.f193 4) ⟨[uu,.d (.rs (1,0) p0),.ref 0 0 0,uu,.ref 1 0 0,uu,uu,.d (iN p1),uu,uu,uu,uu,uu,uu,uu,uu,uu,uu,uu,uu,uu,uu,uu,uu,uu,uu,uu,uu,uu,uu,uu,uu,uu,uu,uu,uu,uu,uu,uu,uu,uu,uu,uu,uu,uu,uu,uu,uu,uu,uu,uu,uu,uu,uu,uu,uu,uu,uu,uu,uu,uu,uu,uu,uu,uu,uu,uu,uu,uu,uu,uu,uu,uu,uu,uu,uu,uu,uu,uu,uu,uu,uu],[(0,some (.var [.d (.rs (5,0) p2)])),(1,some (.var [.d .nl,.d .nl,.d .nl]))],2,[]⟩
def Ck (p0:List D) (p1 p2:Int) (p3:List D):Option Ret:=R 193 Tryz.f193 [] (yv Tryz.f193 10) ⟨[uu,.d (.rs (1,0) p0),uu,uu,.ref 0 0 0,uu,uu,uu,.ref 1 0 0,.d (iN p1),uu,uu,uu,uu,uu,uu,uu,uu,uu,uu,uu,uu,uu,uu,uu,uu,uu,uu,uu,uu,uu,uu,uu,uu,uu,uu,uu,uu,uu,uu,uu,uu,uu,uu,uu,uu,uu,uu,uu,uu,uu,uu,uu,uu,uu,uu,uu,uu,uu,uu,uu,uu,uu,uu,uu,uu,uu,uu,uu,uu,uu,uu,uu,uu,uu,uu,uu,uu,uu,uu,uu,uu],[(0,some (.var [.d .nl,.d .nl,.d .nl])),(1,some (.var [.asl 2 none,.d .nl,.d .nl,.d (iN p2)])),(2,some (.arr (5,0) p3))],3,[]⟩
def Ap (p0:List D) (p1 p2:Int) (p3 p4 p5:List D):Option Ret:=R 193 Tryz.f193 [] (yv Tryz.f193 10) ⟨[uu,.d (.rs (1,0) p0),uu,uu,.ref 0 0 0,uu,uu,uu,.ref 1 0 0,.d (iN p1),uu,uu,uu,uu,uu,uu,uu,uu,uu,uu,uu,uu,uu,uu,uu,uu,uu,uu,uu,uu,uu,uu,uu,uu,uu,uu,uu,uu,uu,uu,uu,uu,uu,uu,uu,uu,uu,uu,uu,uu,uu,uu,uu,uu,uu,uu,uu,uu,uu,uu,uu,uu,uu,uu,uu,uu,uu,uu,uu,uu,uu,uu,uu,uu,uu,uu,uu,uu,uu,uu,uu,uu],[(0,some (.var [.d .nl,.d .nl,.d .nl])),(1,some (.var [.asl 2 none,.asl 3 none,.asl 4 none,.d (iN p2)])),(2,some (.arr (5,0) p3)),(3,some (.arr (4,0) p4)),(4,some (.arr (3,0) p5))],5,[]⟩
def AM (p0:Int) (p1:ByteArray):Option Ret:=R 202 Tryz.f202 [] (yv Tryz.f202 6) ⟨[.d (iN p0),uu,uu,.d (.str p1),uu,uu,uu,uu,uu,uu,uu,uu,uu,uu,uu,uu,uu,uu,uu,uu,uu,uu,uu,uu,uu],[],0,[]⟩
def BZ (p0:List D) (p1 p2:Int) (p3:List D):Option Ret:=R 210 Tryz.f210 [((Go.Func.params Tryz.f210).toList.getD 0 0)] (yv Tryz.f210 3) ⟨[.ref 0 0 0,.d (.rs (1,0) p0),uu,uu,uu,.d (iN p1),.d (iN p2),uu,uu,uu,uu,uu,uu,uu,uu,uu,uu,uu,uu,uu,uu,uu,uu,uu,uu,uu],[(0,some (.var [.asl 1 none])),(1,some (.arr (5,0) p3))],2,[.ref 0 0 0]⟩
def zy (p0:List D) (p1 p2 p3:Int):Option Ret:=R 221 Tryz.f221 [] (yv Tryz.f221 2) ⟨[.d (.rs (1,0) p0),.d (.int .u8 p1),uu,uu,uu,uu,uu,.d (iN p2),.d (iN p3),uu,uu,uu,uu,uu,uu,uu,uu,uu,uu],[],0,[]⟩
def zN (p0 p1:ByteArray) (p2 p3:Int):Option Ret:=R 227 Tryz.f227 [] (yv Tryz.f227 8) ⟨[.d (.str p0),uu,uu,uu,.d (.str p1),.d (iN p2),.d (iN p3),uu,uu,uu,uu,uu,uu,uu,uu,uu,uu,uu,uu,uu,uu,uu,uu,uu,uu,uu,uu,uu,uu,uu,uu,uu,uu,uu,uu,uu,uu,uu,uu,uu,uu,uu,uu,uu,uu,uu,uu,uu,uu,uu,uu,uu,uu,uu,uu,uu,uu,uu,uu,uu,uu],[],0,[]⟩
def AL (p0:Int) (p1 p2:List D):Option Ret:=R 228 Tryz.f228 [] (yv Tryz.f228 2) ⟨[uu,.d (iN p0),.ref 0 0 0,uu,uu,uu,.asl 1 none,uu,uu,uu,uu,uu,uu,uu,uu,uu,uu,uu,uu,uu,uu,uu,uu,uu,uu,uu,uu,uu,uu,uu,uu,uu,uu,uu,uu,uu,uu,uu,uu],[(0,some (.var [.d (.rs (5,0) p1)])),(1,some (.arr (1,0) p2))],2,[]⟩
def z8 (p0:ByteArray) (p1 p2:List D) (p3 p4:Int) (p5 p6 p7:List D):Option Ret:=R 229 Tryz.f229 [((Go.Func.params Tryz.f229).toList.getD 0 0)] (yv Tryz.f229 1) ⟨[.ref 0 0 0,.d (.str p0),.d (.rs (1,0) p1),.d (.rs (1,0) p2),uu,uu,uu,uu,.d (iN p3),uu,uu,uu,uu,uu,uu,uu,uu,uu,uu,uu,uu,uu,uu,uu,uu,uu,uu,uu,uu,uu,uu,uu,uu,uu,uu,uu,uu,uu,uu,uu,uu,uu,uu,uu,uu,uu,uu,uu,uu,uu,uu,uu,uu,uu,uu,uu,uu,uu,uu,uu,uu,uu,uu,uu],[(0,some (.var [.asl 1 none,.asl 2 none,.asl 3 none,.d (iN p4)])),(1,some (.arr (5,0) p5)),(2,some (.arr (4,0) p6)),(3,some (.arr (3,0) p7))],4,[.ref 0 0 0]⟩
def zH (p0:List D) (p1 p2:Int) (p3 p4 p5 p6:List D):Option Ret:=R 231 Tryz.f231 [((Go.Func.params Tryz.f231).toList.getD 0 0)] (yv Tryz.f231 5) ⟨[.ref 0 0 0,.d (.rs (1,0) p0),uu,uu,uu,.asl 1 none,.d (iN p1),uu,uu,uu,uu,uu,uu,uu,uu,uu,uu,uu,uu,uu,uu,uu,uu,uu,uu,uu,uu,uu,uu,uu,uu,uu,uu,uu,uu,uu,uu,uu,uu,uu,uu,uu,uu,uu,uu,uu,uu,uu,uu,uu,uu,uu,uu,uu,uu,uu,uu,uu,uu,uu,uu,uu,uu,uu,uu,uu,uu,uu,uu,uu,uu,uu,uu,uu,uu,uu,uu,uu,uu,uu],[(0,some (.var [.asl 2 none,.asl 3 none,.asl 4 none,.d (iN p2)])),(1,some (.arr (1,0) p3)),(2,some (.arr (5,0) p4)),(3,some (.arr (4,0) p5)),(4,some (.arr (3,0) p6))],5,[.ref 0 0 0]⟩
def zA (p0 p1:Int) (p2 p3 p4 p5:List D):Option Ret:=R 231 Tryz.f231 [((Go.Func.params Tryz.f231).toList.getD 0 0)] (yv Tryz.f231 12) ⟨[.ref 0 0 0,uu,uu,uu,uu,.asl 1 none,uu,uu,uu,.d (iN p0),uu,uu,uu,uu,uu,uu,uu,uu,uu,uu,uu,uu,uu,uu,uu,uu,uu,uu,uu,uu,uu,uu,uu,uu,uu,uu,uu,uu,uu,uu,uu,uu,uu,uu,uu,uu,uu,uu,uu,uu,uu,uu,uu,uu,uu,uu,uu,uu,uu,uu,uu,uu,uu,uu,uu,uu,uu,uu,uu,uu,uu,uu,uu,uu,uu,uu,uu,uu,uu,uu],[(0,some (.var [.asl 2 none,.asl 3 none,.asl 4 none,.d (iN p1)])),(1,some (.arr (1,0) p2)),(2,some (.arr (5,0) p3)),(3,some (.arr (4,0) p4)),(4,some (.arr (3,0) p5))],5,[.ref 0 0 0]⟩
def z9 (p0 p1 p2:Int) (p3 p4 p5 p6:List D):Option Ret:=R 231 Tryz.f231 [((Go.Func.params Tryz.f231).toList.getD 0 0)] (yv Tryz.f231 15) ⟨[.ref 0 0 0,uu,uu,uu,uu,.asl 1 none,uu,uu,uu,.d (iN p0),.d (iN p1),uu,uu,uu,uu,uu,uu,uu,uu,uu,uu,uu,uu,uu,uu,uu,uu,uu,uu,uu,uu,uu,uu,uu,uu,uu,uu,uu,uu,uu,uu,uu,uu,uu,uu,uu,uu,uu,uu,uu,uu,uu,uu,uu,uu,uu,uu,uu,uu,uu,uu,uu,uu,uu,uu,uu,uu,uu,uu,uu,uu,uu,uu,uu,uu,uu,uu,uu,uu,uu],[(0,some (.var [.asl 2 none,.asl 3 none,.asl 4 none,.d (iN p2)])),(1,some (.arr (1,0) p3)),(2,some (.arr (5,0) p4)),(3,some (.arr (4,0) p5)),(4,some (.arr (3,0) p6))],5,[.ref 0 0 0]⟩
def AF (p0 p1:List D) (p2 p3:Int) (p4 p5 p6:List D):Option Ret:=R 236 Tryz.f236 [((Go.Func.params Tryz.f236).toList.getD 0 0)] (yv Tryz.f236 1) ⟨[.ref 0 0 0,.d (.rs (1,0) p0),.d (.rs (1,1) p1),uu,uu,uu,.d (iN p2),uu,uu,uu,uu,uu,uu,uu,uu,uu,uu,uu,uu,uu,uu,uu,uu,uu,uu,uu,uu,uu,uu,uu,uu,uu],[(0,some (.var [.asl 1 none,.asl 2 none,.asl 3 none,.d (iN p3)])),(1,some (.arr (5,0) p4)),(2,some (.arr (4,0) p5)),(3,some (.arr (3,0) p6))],4,[.ref 0 0 0]⟩
def zk (p0:List D) (p1 p2:Int) (p3 p4 p5 p6:List D):Option Ret:=R 244 Tryz.f244 [((Go.Func.params Tryz.f244).toList.getD 0 0)] (yv Tryz.f244 25) ⟨[.ref 0 0 0,uu,.d (.rs (1,1) p0),uu,uu,uu,uu,uu,uu,.asl 1 none,uu,uu,.d (iN p1),uu,uu,uu,uu,uu,uu,uu,uu,uu,uu,uu,uu,uu,uu,uu,uu,uu,uu,uu,uu,uu,uu,uu,uu,uu,uu,uu,uu,uu,uu,uu,uu,uu,uu,uu,uu,uu,uu,uu,uu,uu,uu,uu,uu,uu,uu,uu,uu,uu,uu,uu,uu,uu,uu,uu,uu,uu,uu,uu,uu,uu,uu,uu,uu,uu,uu,uu,uu,uu,uu,uu,uu,uu,uu,uu,uu,uu,uu,uu,uu,uu,uu,uu,uu,uu,uu,uu,uu,uu,uu,uu,uu,uu,uu,uu,uu,uu,uu,uu,uu,uu,uu,uu,uu,uu,uu,uu,uu,uu,uu,uu,uu,uu,uu,uu,uu,uu,uu,uu],[(0,some (.var [.asl 2 none,.asl 3 none,.asl 4 none,.d (iN p2)])),(1,some (.arr (1,0) p3)),(2,some (.arr (5,0) p4)),(3,some (.arr (4,0) p5)),(4,some (.arr (3,0) p6))],5,[.ref 0 0 0]⟩
def AY (p0:List D) (p1:ByteArray) (p2:Int):Option Ret:=R 248 Tryz.f248 [] (yv Tryz.f248 2) ⟨[.d (.rs (1,1) p0),.d (.str p1),uu,uu,uu,uu,.d (iN p2),uu,uu,uu,uu,uu,uu,uu,uu,uu,uu,uu,uu,uu,uu,uu,uu,uu,uu,uu,uu,uu,uu,uu,uu,uu,uu,uu],[],0,[]⟩
def Cr (p0:List D) (p1:ByteArray) (p2 p3:Int):Option Ret:=R 248 Tryz.f248 [] (yv Tryz.f248 5) ⟨[.d (.rs (1,1) p0),.d (.str p1),uu,uu,uu,uu,.d (iN p2),.d (iN p3),uu,uu,uu,uu,uu,uu,uu,uu,uu,uu,uu,uu,uu,uu,uu,uu,uu,uu,uu,uu,uu,uu,uu,uu,uu,uu],[],0,[]⟩
end
end Go.Eng
/-! the functions as the interpreter has them -/
namespace Go.Eng
open Go.Proofs Go.Proofs.Tryz
set_option maxRecDepth 100000
theorem Pg (p l d:List D) (h:Int) (s:ByteArray) (x e:List D):V 249 [.op [.os (5,0) p,.os (4,0) l,.os (3,0) d,iN h],.str s,.rs (1,0) x,.rs (1,1) e] =
 br (kc s { data:=#[113,117,111,116,101] })
 (
 br (ni x.length == 2)
 (
 grd (decide (0 <= 1) && decide (1 < ni x.length)) (cT x 1 fun a=>
 asI .i64 a fun b=>jb V 237 [.op [.os (5,0) p,.os (4,0) l,.os (3,0) d,iN h],(.agg [iN (1),iN b,iN (0),.str ({ data:=#[] })])] fun c f=>
 asI .i64 c fun _=>unc f fun g i=>tk2 g fun j k m n=>(unn i (some ((.tup []),[.op [.os (5,0) j,.os (4,0) k,.os (3,0) m,iN n]])))))
 (
 br (kc s { data:=#[105,102] })
 (
 br (ni x.length == 4)
 (
 grd (decide (0 <= 1) && decide (1 < ni x.length)) (cT x 1 fun a=>
 asI .i64 a fun b=>jb V 244 [.op [.os (5,0) p,.os (4,0) l,.os (3,0) d,iN h],iN b,.rs (1,1) e] fun c f=>
 iV c fun g=>unn g (unc f fun i j=>tk2 i fun k m n o=>(unn j (jb V 237 [.op [.os (5,0) k,.os (4,0) m,.os (3,0) n,iN o],(.agg [iN (4),iN (0),iN (0),.str ({ data:=#[] })])] fun q r=>
 asI .i64 q fun t=>unc r fun u v=>tk2 u fun w y z A=>(unn v (grd (decide (0 <= 2) && decide (2 < ni x.length)) (cT x 2 fun B=>
 asI .i64 B fun C=>jb V 244 [.op [.os (5,0) w,.os (4,0) y,.os (3,0) z,iN A],iN C,.rs (1,1) e] fun E F=>
 iV E fun G=>unn G (unc F fun H I=>tk2 H fun J K L M=>(unn I (jb V 237 [.op [.os (5,0) J,.os (4,0) K,.os (3,0) L,iN M],(.agg [iN (5),iN (0),iN (0),.str ({ data:=#[] })])] fun N O=>
 asI .i64 N fun P=>unc O fun Q R=>tk2 Q fun S T U W=>(unn R (jb V 253 [.op [.os (5,0) S,.os (4,0) T,.os (3,0) U,iN W],iN t] fun X Y=>
 iV X fun Z=>unn Z (unc Y fun a0 a1=>tk2 a0 fun a2 a3 a4 a5=>(unn a1 (grd (decide (0 <= 3) && decide (3 < ni x.length)) (cT x 3 fun a6=>
 asI .i64 a6 fun a7=>jb V 244 [.op [.os (5,0) a2,.os (4,0) a3,.os (3,0) a4,iN a5],iN a7,.rs (1,1) e] fun a8 a9=>
 iV a8 fun b0=>unn b0 (unc a9 fun b1 b2=>tk2 b1 fun b3 b4 b5 b6=>(unn b2 (jb V 253 [.op [.os (5,0) b3,.os (4,0) b4,.os (3,0) b5,iN b6],iN P] fun b7 b8=>
 iV b7 fun b9=>unn b9 (unc b8 fun c0 c1=>tk2 c0 fun c2 c3 c4 c5=>(unn c1 (some ((.tup []),[.op [.os (5,0) c2,.os (4,0) c3,.os (3,0) c4,iN c5]]))))))))))))))))))))))))
 (
 br (kc s { data:=#[100,111] })
 (
 br (decide (ni x.length >= 2))
 (
 grd (cW x.length (some (1)) none) (jb V 236 [.op [.os (5,0) p,.os (4,0) l,.os (3,0) d,iN h],(.rs (1,0) (wu x (1))),.rs (1,1) e] fun a b=>
 iV a fun c=>unn c (unc b fun f g=>tk2 f fun i j k m=>(unn g (some ((.tup []),[.op [.os (5,0) i,.os (4,0) j,.os (3,0) k,iN m]]))))))
 (
 br (kc s { data:=#[102,110] })
 (
 br (decide (ni x.length >= 3))
 (
 grd (decide (0 <= 1) && decide (1 < ni x.length)) (cT x 1 fun a=>
 asI .i64 a fun b=>jb V 228 [.agg [.rs (5,0) p],iN b] fun c f=>
 tk3 c fun g i=>(unn f (br (!i)
 (some ((.tup []),[.op [.os (5,0) p,.os (4,0) l,.os (3,0) d,iN (1)]]))
 (
 jb V 231 [.op [.os (5,0) p,.os (4,0) l,.os (3,0) d,iN h],.rs (1,0) g] fun j k=>
 jl (1,0) j fun m=>unc k fun n o=>tk2 n fun q r t u=>(unn o (grd (cW x.length (some (2)) none) (jb V 254 [.op [.os (5,0) q,.os (4,0) r,.os (3,0) t,iN u],.rs (1,0) m,(.rs (1,0) (wu x (2))),.rs (1,1) e] fun v w=>
 iV v fun y=>unn y (unc w fun z A=>tk2 z fun B C E F=>(unn A (some ((.tup []),[.op [.os (5,0) B,.os (4,0) C,.os (3,0) E,iN F]]))))))))))))
 (
 br (kc s { data:=#[108,101,116] })
 (
 br (decide (ni x.length >= 4))
 (
 grd (cW x.length (some (1)) (some (2))) (jb V 231 [.op [.os (5,0) p,.os (4,0) l,.os (3,0) d,iN h],(.rs (1,0) (wu (wt x (2)) (1)))] fun a b=>
 jl (1,0) a fun c=>unc b fun f g=>tk2 f fun i j k m=>(unn g (grd (cW x.length (some (3)) none) (jb V 254 [.op [.os (5,0) i,.os (4,0) j,.os (3,0) k,iN m],.rs (1,0) c,(.rs (1,0) (wu x (3))),.rs (1,1) e] fun n o=>
 iV n fun q=>unn q (unc o fun r t=>tk2 r fun u v w y=>(unn t (grd (decide (0 <= 2) && decide (2 < ni x.length)) (cT x 2 fun z=>
 asI .i64 z fun A=>jb V 244 [.op [.os (5,0) u,.os (4,0) v,.os (3,0) w,iN y],iN A,.rs (1,1) e] fun B C=>
 iV B fun E=>unn E (unc C fun F G=>tk2 F fun H I J K=>(unn G (jb V 237 [.op [.os (5,0) H,.os (4,0) I,.os (3,0) J,iN K],(.agg [iN (7),iN (0),iN (1),.str ({ data:=#[] })])] fun L M=>
 asI .i64 L fun _=>unc M fun N O=>tk2 N fun P Q R S=>(unn O (some ((.tup []),[.op [.os (5,0) P,.os (4,0) Q,.os (3,0) R,iN S]])))))))))))))))
 (some ((.tup []),[.op [.os (5,0) p,.os (4,0) l,.os (3,0) d,iN (1)]])))
 (some ((.tup []),[.op [.os (5,0) p,.os (4,0) l,.os (3,0) d,iN (1)]]))))
 (
 br (kc s { data:=#[108,101,116] })
 (
 br (decide (ni x.length >= 4))
 (
 grd (cW x.length (some (1)) (some (2))) (jb V 231 [.op [.os (5,0) p,.os (4,0) l,.os (3,0) d,iN h],(.rs (1,0) (wu (wt x (2)) (1)))] fun a b=>
 jl (1,0) a fun c=>unc b fun f g=>tk2 f fun i j k m=>(unn g (grd (cW x.length (some (3)) none) (jb V 254 [.op [.os (5,0) i,.os (4,0) j,.os (3,0) k,iN m],.rs (1,0) c,(.rs (1,0) (wu x (3))),.rs (1,1) e] fun n o=>
 iV n fun q=>unn q (unc o fun r t=>tk2 r fun u v w y=>(unn t (grd (decide (0 <= 2) && decide (2 < ni x.length)) (cT x 2 fun z=>
 asI .i64 z fun A=>jb V 244 [.op [.os (5,0) u,.os (4,0) v,.os (3,0) w,iN y],iN A,.rs (1,1) e] fun B C=>
 iV B fun E=>unn E (unc C fun F G=>tk2 F fun H I J K=>(unn G (jb V 237 [.op [.os (5,0) H,.os (4,0) I,.os (3,0) J,iN K],(.agg [iN (7),iN (0),iN (1),.str ({ data:=#[] })])] fun L M=>
 asI .i64 L fun _=>unc M fun N O=>tk2 N fun P Q R S=>(unn O (some ((.tup []),[.op [.os (5,0) P,.os (4,0) Q,.os (3,0) R,iN S]])))))))))))))))
 (some ((.tup []),[.op [.os (5,0) p,.os (4,0) l,.os (3,0) d,iN (1)]])))
 (some ((.tup []),[.op [.os (5,0) p,.os (4,0) l,.os (3,0) d,iN (1)]])))))
 (
 br (kc s { data:=#[102,110] })
 (
 br (decide (ni x.length >= 3))
 (
 grd (decide (0 <= 1) && decide (1 < ni x.length)) (cT x 1 fun a=>
 asI .i64 a fun b=>jb V 228 [.agg [.rs (5,0) p],iN b] fun c f=>
 tk3 c fun g i=>(unn f (br (!i)
 (some ((.tup []),[.op [.os (5,0) p,.os (4,0) l,.os (3,0) d,iN (1)]]))
 (
 jb V 231 [.op [.os (5,0) p,.os (4,0) l,.os (3,0) d,iN h],.rs (1,0) g] fun j k=>
 jl (1,0) j fun m=>unc k fun n o=>tk2 n fun q r t u=>(unn o (grd (cW x.length (some (2)) none) (jb V 254 [.op [.os (5,0) q,.os (4,0) r,.os (3,0) t,iN u],.rs (1,0) m,(.rs (1,0) (wu x (2))),.rs (1,1) e] fun v w=>
 iV v fun y=>unn y (unc w fun z A=>tk2 z fun B C E F=>(unn A (some ((.tup []),[.op [.os (5,0) B,.os (4,0) C,.os (3,0) E,iN F]]))))))))))))
 (
 br (kc s { data:=#[108,101,116] })
 (
 br (decide (ni x.length >= 4))
 (
 grd (cW x.length (some (1)) (some (2))) (jb V 231 [.op [.os (5,0) p,.os (4,0) l,.os (3,0) d,iN h],(.rs (1,0) (wu (wt x (2)) (1)))] fun a b=>
 jl (1,0) a fun c=>unc b fun f g=>tk2 f fun i j k m=>(unn g (grd (cW x.length (some (3)) none) (jb V 254 [.op [.os (5,0) i,.os (4,0) j,.os (3,0) k,iN m],.rs (1,0) c,(.rs (1,0) (wu x (3))),.rs (1,1) e] fun n o=>
 iV n fun q=>unn q (unc o fun r t=>tk2 r fun u v w y=>(unn t (grd (decide (0 <= 2) && decide (2 < ni x.length)) (cT x 2 fun z=>
 asI .i64 z fun A=>jb V 244 [.op [.os (5,0) u,.os (4,0) v,.os (3,0) w,iN y],iN A,.rs (1,1) e] fun B C=>
 iV B fun E=>unn E (unc C fun F G=>tk2 F fun H I J K=>(unn G (jb V 237 [.op [.os (5,0) H,.os (4,0) I,.os (3,0) J,iN K],(.agg [iN (7),iN (0),iN (1),.str ({ data:=#[] })])] fun L M=>
 asI .i64 L fun _=>unc M fun N O=>tk2 N fun P Q R S=>(unn O (some ((.tup []),[.op [.os (5,0) P,.os (4,0) Q,.os (3,0) R,iN S]])))))))))))))))
 (some ((.tup []),[.op [.os (5,0) p,.os (4,0) l,.os (3,0) d,iN (1)]])))
 (some ((.tup []),[.op [.os (5,0) p,.os (4,0) l,.os (3,0) d,iN (1)]]))))
 (
 br (kc s { data:=#[108,101,116] })
 (
 br (decide (ni x.length >= 4))
 (
 grd (cW x.length (some (1)) (some (2))) (jb V 231 [.op [.os (5,0) p,.os (4,0) l,.os (3,0) d,iN h],(.rs (1,0) (wu (wt x (2)) (1)))] fun a b=>
 jl (1,0) a fun c=>unc b fun f g=>tk2 f fun i j k m=>(unn g (grd (cW x.length (some (3)) none) (jb V 254 [.op [.os (5,0) i,.os (4,0) j,.os (3,0) k,iN m],.rs (1,0) c,(.rs (1,0) (wu x (3))),.rs (1,1) e] fun n o=>
 iV n fun q=>unn q (unc o fun r t=>tk2 r fun u v w y=>(unn t (grd (decide (0 <= 2) && decide (2 < ni x.length)) (cT x 2 fun z=>
 asI .i64 z fun A=>jb V 244 [.op [.os (5,0) u,.os (4,0) v,.os (3,0) w,iN y],iN A,.rs (1,1) e] fun B C=>
 iV B fun E=>unn E (unc C fun F G=>tk2 F fun H I J K=>(unn G (jb V 237 [.op [.os (5,0) H,.os (4,0) I,.os (3,0) J,iN K],(.agg [iN (7),iN (0),iN (1),.str ({ data:=#[] })])] fun L M=>
 asI .i64 L fun _=>unc M fun N O=>tk2 N fun P Q R S=>(unn O (some ((.tup []),[.op [.os (5,0) P,.os (4,0) Q,.os (3,0) R,iN S]])))))))))))))))
 (some ((.tup []),[.op [.os (5,0) p,.os (4,0) l,.os (3,0) d,iN (1)]])))
 (some ((.tup []),[.op [.os (5,0) p,.os (4,0) l,.os (3,0) d,iN (1)]]))))))
 (
 br (kc s { data:=#[100,111] })
 (
 br (decide (ni x.length >= 2))
 (
 grd (cW x.length (some (1)) none) (jb V 236 [.op [.os (5,0) p,.os (4,0) l,.os (3,0) d,iN h],(.rs (1,0) (wu x (1))),.rs (1,1) e] fun a b=>
 iV a fun c=>unn c (unc b fun f g=>tk2 f fun i j k m=>(unn g (some ((.tup []),[.op [.os (5,0) i,.os (4,0) j,.os (3,0) k,iN m]]))))))
 (
 br (kc s { data:=#[102,110] })
 (
 br (decide (ni x.length >= 3))
 (
 grd (decide (0 <= 1) && decide (1 < ni x.length)) (cT x 1 fun a=>
 asI .i64 a fun b=>jb V 228 [.agg [.rs (5,0) p],iN b] fun c f=>
 tk3 c fun g i=>(unn f (br (!i)
 (some ((.tup []),[.op [.os (5,0) p,.os (4,0) l,.os (3,0) d,iN (1)]]))
 (
 jb V 231 [.op [.os (5,0) p,.os (4,0) l,.os (3,0) d,iN h],.rs (1,0) g] fun j k=>
 jl (1,0) j fun m=>unc k fun n o=>tk2 n fun q r t u=>(unn o (grd (cW x.length (some (2)) none) (jb V 254 [.op [.os (5,0) q,.os (4,0) r,.os (3,0) t,iN u],.rs (1,0) m,(.rs (1,0) (wu x (2))),.rs (1,1) e] fun v w=>
 iV v fun y=>unn y (unc w fun z A=>tk2 z fun B C E F=>(unn A (some ((.tup []),[.op [.os (5,0) B,.os (4,0) C,.os (3,0) E,iN F]]))))))))))))
 (
 br (kc s { data:=#[108,101,116] })
 (
 br (decide (ni x.length >= 4))
 (
 grd (cW x.length (some (1)) (some (2))) (jb V 231 [.op [.os (5,0) p,.os (4,0) l,.os (3,0) d,iN h],(.rs (1,0) (wu (wt x (2)) (1)))] fun a b=>
 jl (1,0) a fun c=>unc b fun f g=>tk2 f fun i j k m=>(unn g (grd (cW x.length (some (3)) none) (jb V 254 [.op [.os (5,0) i,.os (4,0) j,.os (3,0) k,iN m],.rs (1,0) c,(.rs (1,0) (wu x (3))),.rs (1,1) e] fun n o=>
 iV n fun q=>unn q (unc o fun r t=>tk2 r fun u v w y=>(unn t (grd (decide (0 <= 2) && decide (2 < ni x.length)) (cT x 2 fun z=>
 asI .i64 z fun A=>jb V 244 [.op [.os (5,0) u,.os (4,0) v,.os (3,0) w,iN y],iN A,.rs (1,1) e] fun B C=>
 iV B fun E=>unn E (unc C fun F G=>tk2 F fun H I J K=>(unn G (jb V 237 [.op [.os (5,0) H,.os (4,0) I,.os (3,0) J,iN K],(.agg [iN (7),iN (0),iN (1),.str ({ data:=#[] })])] fun L M=>
 asI .i64 L fun _=>unc M fun N O=>tk2 N fun P Q R S=>(unn O (some ((.tup []),[.op [.os (5,0) P,.os (4,0) Q,.os (3,0) R,iN S]])))))))))))))))
 (some ((.tup []),[.op [.os (5,0) p,.os (4,0) l,.os (3,0) d,iN (1)]])))
 (some ((.tup []),[.op [.os (5,0) p,.os (4,0) l,.os (3,0) d,iN (1)]]))))
 (
 br (kc s { data:=#[108,101,116] })
 (
 br (decide (ni x.length >= 4))
 (
 grd (cW x.length (some (1)) (some (2))) (jb V 231 [.op [.os (5,0) p,.os (4,0) l,.os (3,0) d,iN h],(.rs (1,0) (wu (wt x (2)) (1)))] fun a b=>
 jl (1,0) a fun c=>unc b fun f g=>tk2 f fun i j k m=>(unn g (grd (cW x.length (some (3)) none) (jb V 254 [.op [.os (5,0) i,.os (4,0) j,.os (3,0) k,iN m],.rs (1,0) c,(.rs (1,0) (wu x (3))),.rs (1,1) e] fun n o=>
 iV n fun q=>unn q (unc o fun r t=>tk2 r fun u v w y=>(unn t (grd (decide (0 <= 2) && decide (2 < ni x.length)) (cT x 2 fun z=>
 asI .i64 z fun A=>jb V 244 [.op [.os (5,0) u,.os (4,0) v,.os (3,0) w,iN y],iN A,.rs (1,1) e] fun B C=>
 iV B fun E=>unn E (unc C fun F G=>tk2 F fun H I J K=>(unn G (jb V 237 [.op [.os (5,0) H,.os (4,0) I,.os (3,0) J,iN K],(.agg [iN (7),iN (0),iN (1),.str ({ data:=#[] })])] fun L M=>
 asI .i64 L fun _=>unc M fun N O=>tk2 N fun P Q R S=>(unn O (some ((.tup []),[.op [.os (5,0) P,.os (4,0) Q,.os (3,0) R,iN S]])))))))))))))))
 (some ((.tup []),[.op [.os (5,0) p,.os (4,0) l,.os (3,0) d,iN (1)]])))
 (some ((.tup []),[.op [.os (5,0) p,.os (4,0) l,.os (3,0) d,iN (1)]])))))
 (
 br (kc s { data:=#[102,110] })
 (
 br (decide (ni x.length >= 3))
 (
 grd (decide (0 <= 1) && decide (1 < ni x.length)) (cT x 1 fun a=>
 asI .i64 a fun b=>jb V 228 [.agg [.rs (5,0) p],iN b] fun c f=>
 tk3 c fun g i=>(unn f (br (!i)
 (some ((.tup []),[.op [.os (5,0) p,.os (4,0) l,.os (3,0) d,iN (1)]]))
 (
 jb V 231 [.op [.os (5,0) p,.os (4,0) l,.os (3,0) d,iN h],.rs (1,0) g] fun j k=>
 jl (1,0) j fun m=>unc k fun n o=>tk2 n fun q r t u=>(unn o (grd (cW x.length (some (2)) none) (jb V 254 [.op [.os (5,0) q,.os (4,0) r,.os (3,0) t,iN u],.rs (1,0) m,(.rs (1,0) (wu x (2))),.rs (1,1) e] fun v w=>
 iV v fun y=>unn y (unc w fun z A=>tk2 z fun B C E F=>(unn A (some ((.tup []),[.op [.os (5,0) B,.os (4,0) C,.os (3,0) E,iN F]]))))))))))))
 (
 br (kc s { data:=#[108,101,116] })
 (
 br (decide (ni x.length >= 4))
 (
 grd (cW x.length (some (1)) (some (2))) (jb V 231 [.op [.os (5,0) p,.os (4,0) l,.os (3,0) d,iN h],(.rs (1,0) (wu (wt x (2)) (1)))] fun a b=>
 jl (1,0) a fun c=>unc b fun f g=>tk2 f fun i j k m=>(unn g (grd (cW x.length (some (3)) none) (jb V 254 [.op [.os (5,0) i,.os (4,0) j,.os (3,0) k,iN m],.rs (1,0) c,(.rs (1,0) (wu x (3))),.rs (1,1) e] fun n o=>
 iV n fun q=>unn q (unc o fun r t=>tk2 r fun u v w y=>(unn t (grd (decide (0 <= 2) && decide (2 < ni x.length)) (cT x 2 fun z=>
 asI .i64 z fun A=>jb V 244 [.op [.os (5,0) u,.os (4,0) v,.os (3,0) w,iN y],iN A,.rs (1,1) e] fun B C=>
 iV B fun E=>unn E (unc C fun F G=>tk2 F fun H I J K=>(unn G (jb V 237 [.op [.os (5,0) H,.os (4,0) I,.os (3,0) J,iN K],(.agg [iN (7),iN (0),iN (1),.str ({ data:=#[] })])] fun L M=>
 asI .i64 L fun _=>unc M fun N O=>tk2 N fun P Q R S=>(unn O (some ((.tup []),[.op [.os (5,0) P,.os (4,0) Q,.os (3,0) R,iN S]])))))))))))))))
 (some ((.tup []),[.op [.os (5,0) p,.os (4,0) l,.os (3,0) d,iN (1)]])))
 (some ((.tup []),[.op [.os (5,0) p,.os (4,0) l,.os (3,0) d,iN (1)]]))))
 (
 br (kc s { data:=#[108,101,116] })
 (
 br (decide (ni x.length >= 4))
 (
 grd (cW x.length (some (1)) (some (2))) (jb V 231 [.op [.os (5,0) p,.os (4,0) l,.os (3,0) d,iN h],(.rs (1,0) (wu (wt x (2)) (1)))] fun a b=>
 jl (1,0) a fun c=>unc b fun f g=>tk2 f fun i j k m=>(unn g (grd (cW x.length (some (3)) none) (jb V 254 [.op [.os (5,0) i,.os (4,0) j,.os (3,0) k,iN m],.rs (1,0) c,(.rs (1,0) (wu x (3))),.rs (1,1) e] fun n o=>
 iV n fun q=>unn q (unc o fun r t=>tk2 r fun u v w y=>(unn t (grd (decide (0 <= 2) && decide (2 < ni x.length)) (cT x 2 fun z=>
 asI .i64 z fun A=>jb V 244 [.op [.os (5,0) u,.os (4,0) v,.os (3,0) w,iN y],iN A,.rs (1,1) e] fun B C=>
 iV B fun E=>unn E (unc C fun F G=>tk2 F fun H I J K=>(unn G (jb V 237 [.op [.os (5,0) H,.os (4,0) I,.os (3,0) J,iN K],(.agg [iN (7),iN (0),iN (1),.str ({ data:=#[] })])] fun L M=>
 asI .i64 L fun _=>unc M fun N O=>tk2 N fun P Q R S=>(unn O (some ((.tup []),[.op [.os (5,0) P,.os (4,0) Q,.os (3,0) R,iN S]])))))))))))))))
 (some ((.tup []),[.op [.os (5,0) p,.os (4,0) l,.os (3,0) d,iN (1)]])))
 (some ((.tup []),[.op [.os (5,0) p,.os (4,0) l,.os (3,0) d,iN (1)]])))))))
 (
 br (kc s { data:=#[105,102] })
 (
 br (ni x.length == 4)
 (
 grd (decide (0 <= 1) && decide (1 < ni x.length)) (cT x 1 fun a=>
 asI .i64 a fun b=>jb V 244 [.op [.os (5,0) p,.os (4,0) l,.os (3,0) d,iN h],iN b,.rs (1,1) e] fun c f=>
 iV c fun g=>unn g (unc f fun i j=>tk2 i fun k m n o=>(unn j (jb V 237 [.op [.os (5,0) k,.os (4,0) m,.os (3,0) n,iN o],(.agg [iN (4),iN (0),iN (0),.str ({ data:=#[] })])] fun q r=>
 asI .i64 q fun t=>unc r fun u v=>tk2 u fun w y z A=>(unn v (grd (decide (0 <= 2) && decide (2 < ni x.length)) (cT x 2 fun B=>
 asI .i64 B fun C=>jb V 244 [.op [.os (5,0) w,.os (4,0) y,.os (3,0) z,iN A],iN C,.rs (1,1) e] fun E F=>
 iV E fun G=>unn G (unc F fun H I=>tk2 H fun J K L M=>(unn I (jb V 237 [.op [.os (5,0) J,.os (4,0) K,.os (3,0) L,iN M],(.agg [iN (5),iN (0),iN (0),.str ({ data:=#[] })])] fun N O=>
 asI .i64 N fun P=>unc O fun Q R=>tk2 Q fun S T U W=>(unn R (jb V 253 [.op [.os (5,0) S,.os (4,0) T,.os (3,0) U,iN W],iN t] fun X Y=>
 iV X fun Z=>unn Z (unc Y fun a0 a1=>tk2 a0 fun a2 a3 a4 a5=>(unn a1 (grd (decide (0 <= 3) && decide (3 < ni x.length)) (cT x 3 fun a6=>
 asI .i64 a6 fun a7=>jb V 244 [.op [.os (5,0) a2,.os (4,0) a3,.os (3,0) a4,iN a5],iN a7,.rs (1,1) e] fun a8 a9=>
 iV a8 fun b0=>unn b0 (unc a9 fun b1 b2=>tk2 b1 fun b3 b4 b5 b6=>(unn b2 (jb V 253 [.op [.os (5,0) b3,.os (4,0) b4,.os (3,0) b5,iN b6],iN P] fun b7 b8=>
 iV b7 fun b9=>unn b9 (unc b8 fun c0 c1=>tk2 c0 fun c2 c3 c4 c5=>(unn c1 (some ((.tup []),[.op [.os (5,0) c2,.os (4,0) c3,.os (3,0) c4,iN c5]]))))))))))))))))))))))))
 (
 br (kc s { data:=#[100,111] })
 (
 br (decide (ni x.length >= 2))
 (
 grd (cW x.length (some (1)) none) (jb V 236 [.op [.os (5,0) p,.os (4,0) l,.os (3,0) d,iN h],(.rs (1,0) (wu x (1))),.rs (1,1) e] fun a b=>
 iV a fun c=>unn c (unc b fun f g=>tk2 f fun i j k m=>(unn g (some ((.tup []),[.op [.os (5,0) i,.os (4,0) j,.os (3,0) k,iN m]]))))))
 (
 br (kc s { data:=#[102,110] })
 (
 br (decide (ni x.length >= 3))
 (
 grd (decide (0 <= 1) && decide (1 < ni x.length)) (cT x 1 fun a=>
 asI .i64 a fun b=>jb V 228 [.agg [.rs (5,0) p],iN b] fun c f=>
 tk3 c fun g i=>(unn f (br (!i)
 (some ((.tup []),[.op [.os (5,0) p,.os (4,0) l,.os (3,0) d,iN (1)]]))
 (
 jb V 231 [.op [.os (5,0) p,.os (4,0) l,.os (3,0) d,iN h],.rs (1,0) g] fun j k=>
 jl (1,0) j fun m=>unc k fun n o=>tk2 n fun q r t u=>(unn o (grd (cW x.length (some (2)) none) (jb V 254 [.op [.os (5,0) q,.os (4,0) r,.os (3,0) t,iN u],.rs (1,0) m,(.rs (1,0) (wu x (2))),.rs (1,1) e] fun v w=>
 iV v fun y=>unn y (unc w fun z A=>tk2 z fun B C E F=>(unn A (some ((.tup []),[.op [.os (5,0) B,.os (4,0) C,.os (3,0) E,iN F]]))))))))))))
 (
 br (kc s { data:=#[108,101,116] })
 (
 br (decide (ni x.length >= 4))
 (
 grd (cW x.length (some (1)) (some (2))) (jb V 231 [.op [.os (5,0) p,.os (4,0) l,.os (3,0) d,iN h],(.rs (1,0) (wu (wt x (2)) (1)))] fun a b=>
 jl (1,0) a fun c=>unc b fun f g=>tk2 f fun i j k m=>(unn g (grd (cW x.length (some (3)) none) (jb V 254 [.op [.os (5,0) i,.os (4,0) j,.os (3,0) k,iN m],.rs (1,0) c,(.rs (1,0) (wu x (3))),.rs (1,1) e] fun n o=>
 iV n fun q=>unn q (unc o fun r t=>tk2 r fun u v w y=>(unn t (grd (decide (0 <= 2) && decide (2 < ni x.length)) (cT x 2 fun z=>
 asI .i64 z fun A=>jb V 244 [.op [.os (5,0) u,.os (4,0) v,.os (3,0) w,iN y],iN A,.rs (1,1) e] fun B C=>
 iV B fun E=>unn E (unc C fun F G=>tk2 F fun H I J K=>(unn G (jb V 237 [.op [.os (5,0) H,.os (4,0) I,.os (3,0) J,iN K],(.agg [iN (7),iN (0),iN (1),.str ({ data:=#[] })])] fun L M=>
 asI .i64 L fun _=>unc M fun N O=>tk2 N fun P Q R S=>(unn O (some ((.tup []),[.op [.os (5,0) P,.os (4,0) Q,.os (3,0) R,iN S]])))))))))))))))
 (some ((.tup []),[.op [.os (5,0) p,.os (4,0) l,.os (3,0) d,iN (1)]])))
 (some ((.tup []),[.op [.os (5,0) p,.os (4,0) l,.os (3,0) d,iN (1)]]))))
 (
 br (kc s { data:=#[108,101,116] })
 (
 br (decide (ni x.length >= 4))
 (
 grd (cW x.length (some (1)) (some (2))) (jb V 231 [.op [.os (5,0) p,.os (4,0) l,.os (3,0) d,iN h],(.rs (1,0) (wu (wt x (2)) (1)))] fun a b=>
 jl (1,0) a fun c=>unc b fun f g=>tk2 f fun i j k m=>(unn g (grd (cW x.length (some (3)) none) (jb V 254 [.op [.os (5,0) i,.os (4,0) j,.os (3,0) k,iN m],.rs (1,0) c,(.rs (1,0) (wu x (3))),.rs (1,1) e] fun n o=>
 iV n fun q=>unn q (unc o fun r t=>tk2 r fun u v w y=>(unn t (grd (decide (0 <= 2) && decide (2 < ni x.length)) (cT x 2 fun z=>
 asI .i64 z fun A=>jb V 244 [.op [.os (5,0) u,.os (4,0) v,.os (3,0) w,iN y],iN A,.rs (1,1) e] fun B C=>
 iV B fun E=>unn E (unc C fun F G=>tk2 F fun H I J K=>(unn G (jb V 237 [.op [.os (5,0) H,.os (4,0) I,.os (3,0) J,iN K],(.agg [iN (7),iN (0),iN (1),.str ({ data:=#[] })])] fun L M=>
 asI .i64 L fun _=>unc M fun N O=>tk2 N fun P Q R S=>(unn O (some ((.tup []),[.op [.os (5,0) P,.os (4,0) Q,.os (3,0) R,iN S]])))))))))))))))
 (some ((.tup []),[.op [.os (5,0) p,.os (4,0) l,.os (3,0) d,iN (1)]])))
 (some ((.tup []),[.op [.os (5,0) p,.os (4,0) l,.os (3,0) d,iN (1)]])))))
 (
 br (kc s { data:=#[102,110] })
 (
 br (decide (ni x.length >= 3))
 (
 grd (decide (0 <= 1) && decide (1 < ni x.length)) (cT x 1 fun a=>
 asI .i64 a fun b=>jb V 228 [.agg [.rs (5,0) p],iN b] fun c f=>
 tk3 c fun g i=>(unn f (br (!i)
 (some ((.tup []),[.op [.os (5,0) p,.os (4,0) l,.os (3,0) d,iN (1)]]))
 (
 jb V 231 [.op [.os (5,0) p,.os (4,0) l,.os (3,0) d,iN h],.rs (1,0) g] fun j k=>
 jl (1,0) j fun m=>unc k fun n o=>tk2 n fun q r t u=>(unn o (grd (cW x.length (some (2)) none) (jb V 254 [.op [.os (5,0) q,.os (4,0) r,.os (3,0) t,iN u],.rs (1,0) m,(.rs (1,0) (wu x (2))),.rs (1,1) e] fun v w=>
 iV v fun y=>unn y (unc w fun z A=>tk2 z fun B C E F=>(unn A (some ((.tup []),[.op [.os (5,0) B,.os (4,0) C,.os (3,0) E,iN F]]))))))))))))
 (
 br (kc s { data:=#[108,101,116] })
 (
 br (decide (ni x.length >= 4))
 (
 grd (cW x.length (some (1)) (some (2))) (jb V 231 [.op [.os (5,0) p,.os (4,0) l,.os (3,0) d,iN h],(.rs (1,0) (wu (wt x (2)) (1)))] fun a b=>
 jl (1,0) a fun c=>unc b fun f g=>tk2 f fun i j k m=>(unn g (grd (cW x.length (some (3)) none) (jb V 254 [.op [.os (5,0) i,.os (4,0) j,.os (3,0) k,iN m],.rs (1,0) c,(.rs (1,0) (wu x (3))),.rs (1,1) e] fun n o=>
 iV n fun q=>unn q (unc o fun r t=>tk2 r fun u v w y=>(unn t (grd (decide (0 <= 2) && decide (2 < ni x.length)) (cT x 2 fun z=>
 asI .i64 z fun A=>jb V 244 [.op [.os (5,0) u,.os (4,0) v,.os (3,0) w,iN y],iN A,.rs (1,1) e] fun B C=>
 iV B fun E=>unn E (unc C fun F G=>tk2 F fun H I J K=>(unn G (jb V 237 [.op [.os (5,0) H,.os (4,0) I,.os (3,0) J,iN K],(.agg [iN (7),iN (0),iN (1),.str ({ data:=#[] })])] fun L M=>
 asI .i64 L fun _=>unc M fun N O=>tk2 N fun P Q R S=>(unn O (some ((.tup []),[.op [.os (5,0) P,.os (4,0) Q,.os (3,0) R,iN S]])))))))))))))))
 (some ((.tup []),[.op [.os (5,0) p,.os (4,0) l,.os (3,0) d,iN (1)]])))
 (some ((.tup []),[.op [.os (5,0) p,.os (4,0) l,.os (3,0) d,iN (1)]]))))
 (
 br (kc s { data:=#[108,101,116] })
 (
 br (decide (ni x.length >= 4))
 (
 grd (cW x.length (some (1)) (some (2))) (jb V 231 [.op [.os (5,0) p,.os (4,0) l,.os (3,0) d,iN h],(.rs (1,0) (wu (wt x (2)) (1)))] fun a b=>
 jl (1,0) a fun c=>unc b fun f g=>tk2 f fun i j k m=>(unn g (grd (cW x.length (some (3)) none) (jb V 254 [.op [.os (5,0) i,.os (4,0) j,.os (3,0) k,iN m],.rs (1,0) c,(.rs (1,0) (wu x (3))),.rs (1,1) e] fun n o=>
 iV n fun q=>unn q (unc o fun r t=>tk2 r fun u v w y=>(unn t (grd (decide (0 <= 2) && decide (2 < ni x.length)) (cT x 2 fun z=>
 asI .i64 z fun A=>jb V 244 [.op [.os (5,0) u,.os (4,0) v,.os (3,0) w,iN y],iN A,.rs (1,1) e] fun B C=>
 iV B fun E=>unn E (unc C fun F G=>tk2 F fun H I J K=>(unn G (jb V 237 [.op [.os (5,0) H,.os (4,0) I,.os (3,0) J,iN K],(.agg [iN (7),iN (0),iN (1),.str ({ data:=#[] })])] fun L M=>
 asI .i64 L fun _=>unc M fun N O=>tk2 N fun P Q R S=>(unn O (some ((.tup []),[.op [.os (5,0) P,.os (4,0) Q,.os (3,0) R,iN S]])))))))))))))))
 (some ((.tup []),[.op [.os (5,0) p,.os (4,0) l,.os (3,0) d,iN (1)]])))
 (some ((.tup []),[.op [.os (5,0) p,.os (4,0) l,.os (3,0) d,iN (1)]]))))))
 (
 br (kc s { data:=#[100,111] })
 (
 br (decide (ni x.length >= 2))
 (
 grd (cW x.length (some (1)) none) (jb V 236 [.op [.os (5,0) p,.os (4,0) l,.os (3,0) d,iN h],(.rs (1,0) (wu x (1))),.rs (1,1) e] fun a b=>
 iV a fun c=>unn c (unc b fun f g=>tk2 f fun i j k m=>(unn g (some ((.tup []),[.op [.os (5,0) i,.os (4,0) j,.os (3,0) k,iN m]]))))))
 (
 br (kc s { data:=#[102,110] })
 (
 br (decide (ni x.length >= 3))
 (
 grd (decide (0 <= 1) && decide (1 < ni x.length)) (cT x 1 fun a=>
 asI .i64 a fun b=>jb V 228 [.agg [.rs (5,0) p],iN b] fun c f=>
 tk3 c fun g i=>(unn f (br (!i)
 (some ((.tup []),[.op [.os (5,0) p,.os (4,0) l,.os (3,0) d,iN (1)]]))
 (
 jb V 231 [.op [.os (5,0) p,.os (4,0) l,.os (3,0) d,iN h],.rs (1,0) g] fun j k=>
 jl (1,0) j fun m=>unc k fun n o=>tk2 n fun q r t u=>(unn o (grd (cW x.length (some (2)) none) (jb V 254 [.op [.os (5,0) q,.os (4,0) r,.os (3,0) t,iN u],.rs (1,0) m,(.rs (1,0) (wu x (2))),.rs (1,1) e] fun v w=>
 iV v fun y=>unn y (unc w fun z A=>tk2 z fun B C E F=>(unn A (some ((.tup []),[.op [.os (5,0) B,.os (4,0) C,.os (3,0) E,iN F]]))))))))))))
 (
 br (kc s { data:=#[108,101,116] })
 (
 br (decide (ni x.length >= 4))
 (
 grd (cW x.length (some (1)) (some (2))) (jb V 231 [.op [.os (5,0) p,.os (4,0) l,.os (3,0) d,iN h],(.rs (1,0) (wu (wt x (2)) (1)))] fun a b=>
 jl (1,0) a fun c=>unc b fun f g=>tk2 f fun i j k m=>(unn g (grd (cW x.length (some (3)) none) (jb V 254 [.op [.os (5,0) i,.os (4,0) j,.os (3,0) k,iN m],.rs (1,0) c,(.rs (1,0) (wu x (3))),.rs (1,1) e] fun n o=>
 iV n fun q=>unn q (unc o fun r t=>tk2 r fun u v w y=>(unn t (grd (decide (0 <= 2) && decide (2 < ni x.length)) (cT x 2 fun z=>
 asI .i64 z fun A=>jb V 244 [.op [.os (5,0) u,.os (4,0) v,.os (3,0) w,iN y],iN A,.rs (1,1) e] fun B C=>
 iV B fun E=>unn E (unc C fun F G=>tk2 F fun H I J K=>(unn G (jb V 237 [.op [.os (5,0) H,.os (4,0) I,.os (3,0) J,iN K],(.agg [iN (7),iN (0),iN (1),.str ({ data:=#[] })])] fun L M=>
 asI .i64 L fun _=>unc M fun N O=>tk2 N fun P Q R S=>(unn O (some ((.tup []),[.op [.os (5,0) P,.os (4,0) Q,.os (3,0) R,iN S]])))))))))))))))
 (some ((.tup []),[.op [.os (5,0) p,.os (4,0) l,.os (3,0) d,iN (1)]])))
 (some ((.tup []),[.op [.os (5,0) p,.os (4,0) l,.os (3,0) d,iN (1)]]))))
 (
 br (kc s { data:=#[108,101,116] })
 (
 br (decide (ni x.length >= 4))
 (
 grd (cW x.length (some (1)) (some (2))) (jb V 231 [.op [.os (5,0) p,.os (4,0) l,.os (3,0) d,iN h],(.rs (1,0) (wu (wt x (2)) (1)))] fun a b=>
 jl (1,0) a fun c=>unc b fun f g=>tk2 f fun i j k m=>(unn g (grd (cW x.length (some (3)) none) (jb V 254 [.op [.os (5,0) i,.os (4,0) j,.os (3,0) k,iN m],.rs (1,0) c,(.rs (1,0) (wu x (3))),.rs (1,1) e] fun n o=>
 iV n fun q=>unn q (unc o fun r t=>tk2 r fun u v w y=>(unn t (grd (decide (0 <= 2) && decide (2 < ni x.length)) (cT x 2 fun z=>
 asI .i64 z fun A=>jb V 244 [.op [.os (5,0) u,.os (4,0) v,.os (3,0) w,iN y],iN A,.rs (1,1) e] fun B C=>
 iV B fun E=>unn E (unc C fun F G=>tk2 F fun H I J K=>(unn G (jb V 237 [.op [.os (5,0) H,.os (4,0) I,.os (3,0) J,iN K],(.agg [iN (7),iN (0),iN (1),.str ({ data:=#[] })])] fun L M=>
 asI .i64 L fun _=>unc M fun N O=>tk2 N fun P Q R S=>(unn O (some ((.tup []),[.op [.os (5,0) P,.os (4,0) Q,.os (3,0) R,iN S]])))))))))))))))
 (some ((.tup []),[.op [.os (5,0) p,.os (4,0) l,.os (3,0) d,iN (1)]])))
 (some ((.tup []),[.op [.os (5,0) p,.os (4,0) l,.os (3,0) d,iN (1)]])))))
 (
 br (kc s { data:=#[102,110] })
 (
 br (decide (ni x.length >= 3))
 (
 grd (decide (0 <= 1) && decide (1 < ni x.length)) (cT x 1 fun a=>
 asI .i64 a fun b=>jb V 228 [.agg [.rs (5,0) p],iN b] fun c f=>
 tk3 c fun g i=>(unn f (br (!i)
 (some ((.tup []),[.op [.os (5,0) p,.os (4,0) l,.os (3,0) d,iN (1)]]))
 (
 jb V 231 [.op [.os (5,0) p,.os (4,0) l,.os (3,0) d,iN h],.rs (1,0) g] fun j k=>
 jl (1,0) j fun m=>unc k fun n o=>tk2 n fun q r t u=>(unn o (grd (cW x.length (some (2)) none) (jb V 254 [.op [.os (5,0) q,.os (4,0) r,.os (3,0) t,iN u],.rs (1,0) m,(.rs (1,0) (wu x (2))),.rs (1,1) e] fun v w=>
 iV v fun y=>unn y (unc w fun z A=>tk2 z fun B C E F=>(unn A (some ((.tup []),[.op [.os (5,0) B,.os (4,0) C,.os (3,0) E,iN F]]))))))))))))
 (
 br (kc s { data:=#[108,101,116] })
 (
 br (decide (ni x.length >= 4))
 (
 grd (cW x.length (some (1)) (some (2))) (jb V 231 [.op [.os (5,0) p,.os (4,0) l,.os (3,0) d,iN h],(.rs (1,0) (wu (wt x (2)) (1)))] fun a b=>
 jl (1,0) a fun c=>unc b fun f g=>tk2 f fun i j k m=>(unn g (grd (cW x.length (some (3)) none) (jb V 254 [.op [.os (5,0) i,.os (4,0) j,.os (3,0) k,iN m],.rs (1,0) c,(.rs (1,0) (wu x (3))),.rs (1,1) e] fun n o=>
 iV n fun q=>unn q (unc o fun r t=>tk2 r fun u v w y=>(unn t (grd (decide (0 <= 2) && decide (2 < ni x.length)) (cT x 2 fun z=>
 asI .i64 z fun A=>jb V 244 [.op [.os (5,0) u,.os (4,0) v,.os (3,0) w,iN y],iN A,.rs (1,1) e] fun B C=>
 iV B fun E=>unn E (unc C fun F G=>tk2 F fun H I J K=>(unn G (jb V 237 [.op [.os (5,0) H,.os (4,0) I,.os (3,0) J,iN K],(.agg [iN (7),iN (0),iN (1),.str ({ data:=#[] })])] fun L M=>
 asI .i64 L fun _=>unc M fun N O=>tk2 N fun P Q R S=>(unn O (some ((.tup []),[.op [.os (5,0) P,.os (4,0) Q,.os (3,0) R,iN S]])))))))))))))))
 (some ((.tup []),[.op [.os (5,0) p,.os (4,0) l,.os (3,0) d,iN (1)]])))
 (some ((.tup []),[.op [.os (5,0) p,.os (4,0) l,.os (3,0) d,iN (1)]]))))
 (
 br (kc s { data:=#[108,101,116] })
 (
 br (decide (ni x.length >= 4))
 (
 grd (cW x.length (some (1)) (some (2))) (jb V 231 [.op [.os (5,0) p,.os (4,0) l,.os (3,0) d,iN h],(.rs (1,0) (wu (wt x (2)) (1)))] fun a b=>
 jl (1,0) a fun c=>unc b fun f g=>tk2 f fun i j k m=>(unn g (grd (cW x.length (some (3)) none) (jb V 254 [.op [.os (5,0) i,.os (4,0) j,.os (3,0) k,iN m],.rs (1,0) c,(.rs (1,0) (wu x (3))),.rs (1,1) e] fun n o=>
 iV n fun q=>unn q (unc o fun r t=>tk2 r fun u v w y=>(unn t (grd (decide (0 <= 2) && decide (2 < ni x.length)) (cT x 2 fun z=>
 asI .i64 z fun A=>jb V 244 [.op [.os (5,0) u,.os (4,0) v,.os (3,0) w,iN y],iN A,.rs (1,1) e] fun B C=>
 iV B fun E=>unn E (unc C fun F G=>tk2 F fun H I J K=>(unn G (jb V 237 [.op [.os (5,0) H,.os (4,0) I,.os (3,0) J,iN K],(.agg [iN (7),iN (0),iN (1),.str ({ data:=#[] })])] fun L M=>
 asI .i64 L fun _=>unc M fun N O=>tk2 N fun P Q R S=>(unn O (some ((.tup []),[.op [.os (5,0) P,.os (4,0) Q,.os (3,0) R,iN S]])))))))))))))))
 (some ((.tup []),[.op [.os (5,0) p,.os (4,0) l,.os (3,0) d,iN (1)]])))
 (some ((.tup []),[.op [.os (5,0) p,.os (4,0) l,.os (3,0) d,iN (1)]])))))):=by
 exact (yD Tryz.func249 rfl _).trans (by kernel_rfl)
theorem DZ (p0 p1:Int) (p2:List D) (p3 p4 p5 p6 p7 p8 p9:Int) (p10 p11:List D):BW p0 p1 p2 p3 p4 p5 p6 p7 p8 p9 p10 p11 =
 br (decide (p0 < ni p10.length))
 (
 grd (decide (0 <= p0) && decide (p0 < ni p10.length)) (cT p10 p0.toNat fun a=>
 asS a fun b=>jb V 144 [.str b] fun c d=>
 iV c fun e=>unc e fun f g=>asAgg f fun h=>unc h fun i j=>jl (5,0) i fun _=>unn j (unc g fun k l=>asI .i64 k fun _=>unc l fun m n=>asB m fun o=>unn n (unn d (br (!o)
 (some ((.bool false),[]))
 (BW (w6 (p0 + 1)) p1 p2 p3 p4 p5 p6 p7 p8 p9 p10 p11))))))
 (Bm (0) p1 p2 p3 p4 p5 p6 p7 p8 p9 p10 p11):=by
 exact (yC _ _ _).trans (by kernel_rfl)
theorem Fa (p0:List D) (p1 p2:Int) (p3 p4:List D):AW p0 p1 p2 p3 p4 =
 br (decide (p2 < p1))
 (
 grd (decide (0 <= p2) && decide (p2 < ni p0.length)) (cT p0 p2.toNat fun a=>
 asI .i64 a fun b=>grd (decide (0 <= b) && decide (b < ni p4.length)) (cT p4 b.toNat fun _=>
 nam (List.set p4 b.toNat (D.bool true)) fun c=>
 AW p0 p1 (w6 (p2 + 1)) p3 c)))
 (zB (w6 (ni p3.length - 1)) p3 p4):=by
 exact (yC _ _ _).trans (by kernel_rfl)
theorem DV (p0:ByteArray) (p1:Int):AE p0 p1 =
 br (decide (p1 < ni (ByteArray.size p0)))
 (
 grd (decide (0 <= p1) && decide (p1 < ni (ByteArray.size p0))) (jb V 180 [.int .u8 (bt p0 p1)] fun a b=>
 asB a fun c=>unn b (br (!c)
 (some ((.bool false),[]))
 (AE p0 (w6 (p1 + 1))))))
 (
 jb V 62 [(iN (ni (ByteArray.size p0))),iN (1),iN (12)] fun a b=>
 asB a fun c=>unn b (some ((.bool c),[]))):=by
 exact (yC _ _ _).trans (by kernel_rfl)
theorem Ff (p0:ByteArray) (p1:Int) (p2 p3 p4:List D):Cn p0 p1 p2 p3 p4 =
 br (decide (p1 < ni p4.length))
 (
 grd (decide (0 <= p1) && decide (p1 < ni p4.length)) (cT p4 p1.toNat fun a=>
 asAgg a fun b=>cT b 0 fun c=>
 asS c fun d=>br (kc d p0)
 (some ((iN p1),[]))
 (Cn p0 (w6 (p1 + 1)) p2 p3 p4)))
 (some ((iN (-1)),[])):=by
 exact (yC _ _ _).trans (by kernel_rfl)
theorem I8 (b:List D) (i:Int) (k:Bool) :V 72 [.op [.os (1,0) b,iN i,.bool k]] =
 jb V 71 [.op [.os (1,0) b,iN i,.bool k]] fun a c=>
 asI .i64 a fun d=>unc c fun e f=>za e fun g h j=>(unn f (AC d (0) h j g)):=by
 exact (yD Tryz.func72 rfl _).trans (by kernel_rfl)
theorem LG (p l d:List D) (h:Int) (s:ByteArray) (n x:List D):V 229 [.op [.os (5,0) p,.os (4,0) l,.os (3,0) d,iN h],.str s,.rs (1,0) n,.rs (1,0) x] =
 z8 s n x (0) h p l d:=by
 exact (yD Tryz.func229 rfl _).trans (by kernel_rfl)
theorem RA (a0_ a1_ a2_:Int):V 62 [iN a0_,iN a1_,iN a2_] =
 br (decide (a0_ >= a1_))
 (some ((.bool (decide (a0_ <= a2_))),[]))
 (some ((.bool false),[])):=by
 exact (yD Tryz.func62 rfl _).trans (by kernel_rfl)
theorem Jq (a0_0:List D):V 147 [.agg [.rs (5,0) a0_0]] =
 grd (decide (ni (List.length ([]++a0_0)) <= LIM)) (nam ([]++a0_0) fun a=>
 some ((.agg [.os (5,0) a]),[])):=by
 exact (yD Tryz.func147 rfl _).trans (by kernel_rfl)
theorem Fp (a0_:List D) (a1_:Int):V 221 [.rs (1,0) a0_,.int .u8 a1_] =
 zy a0_ a1_ (ni a0_.length) (0):=by
 exact (yD Tryz.func221 rfl _).trans (by kernel_rfl)
theorem OZ (a0_:Int):V 69 [iN a0_] =
 br (decide (a0_ < 0))
 (some ((.os (1,0) []),[]))
 (BX a0_ []):=by
 exact (yD Tryz.func69 rfl _).trans (by kernel_rfl)
end Go.Eng
/-! the functions as the interpreter has them -/
namespace Go.Eng
open Go.Proofs Go.Proofs.Tryz
set_option maxRecDepth 100000
theorem CZ (p0 p1 p2:Int) (p3:Bool) (p4 p5:List D):yP p0 p1 p2 p3 p4 p5 =
 br (decide (p1 < p0))
 (
 br p3
 (
 jb V 114 [.op [.os (1,0) p4,iN p2,.bool p3]] fun a b=>
 asI .i64 a fun c=>unc b fun d e=>za d fun f g h=>(unn e (br (c == 2)
 (
 br (c == 2)
 (
 jb V 114 [.op [.os (1,0) f,iN g,.bool h]] fun i j=>
 asI .i64 i fun k=>unc j fun l m=>za l fun n o p=>(unn m (grd (decide (ni (List.length (p5++[D.agg [iN c,iN k,D.str { data:=#[] },iN (0),iN (0)]])) <= LIM)) (nam (p5++[D.agg [iN c,iN k,D.str { data:=#[] },iN (0),iN (0)]]) fun q=>
 yP p0 (w6 (p1 + 1)) o p n q))))
 (
 br (c == 3)
 (
 jb V 114 [.op [.os (1,0) f,iN g,.bool h]] fun i j=>
 asI .i64 i fun k=>unc j fun l m=>za l fun n o p=>(unn m (grd (decide (ni (List.length (p5++[D.agg [iN c,iN (w6 (k - 1000000000)),D.str { data:=#[] },iN (0),iN (0)]])) <= LIM)) (nam (p5++[D.agg [iN c,iN (w6 (k - 1000000000)),D.str { data:=#[] },iN (0),iN (0)]]) fun q=>
 yP p0 (w6 (p1 + 1)) o p n q))))
 (
 br (c == 4)
 (
 jb V 174 [.rs (1,0) f,iN g] fun i j=>
 PQ i fun k l m=>(unn j (br h
 (
 grd (decide (ni (List.length (p5++[D.agg [iN c,iN (0),D.str k,iN (0),iN (0)]])) <= LIM)) (nam (p5++[D.agg [iN c,iN (0),D.str k,iN (0),iN (0)]]) fun n=>
 yP p0 (w6 (p1 + 1)) l m f n))
 (
 grd (decide (ni (List.length (p5++[D.agg [iN c,iN (0),D.str k,iN (0),iN (0)]])) <= LIM)) (nam (p5++[D.agg [iN c,iN (0),D.str k,iN (0),iN (0)]]) fun n=>
 yP p0 (w6 (p1 + 1)) l false f n)))))
 (
 br (c == 5)
 (
 jb V 114 [.op [.os (1,0) f,iN g,.bool h]] fun i j=>
 asI .i64 i fun k=>unc j fun l m=>za l fun n o p=>(unn m (jb V 114 [.op [.os (1,0) n,iN o,.bool p]] fun q r=>
 asI .i64 q fun s=>unc r fun t u=>za t fun v w x=>(unn u (grd (decide (ni (List.length (p5++[D.agg [iN c,iN (0),D.str { data:=#[] },iN k,iN s]])) <= LIM)) (nam (p5++[D.agg [iN c,iN (0),D.str { data:=#[] },iN k,iN s]]) fun y=>
 yP p0 (w6 (p1 + 1)) w x v y))))))
 (
 br (c == 6)
 (
 jb V 114 [.op [.os (1,0) f,iN g,.bool h]] fun i j=>
 asI .i64 i fun k=>unc j fun l m=>za l fun n o p=>(unn m (jb V 114 [.op [.os (1,0) n,iN o,.bool p]] fun q r=>
 asI .i64 q fun s=>unc r fun t u=>za t fun v w x=>(unn u (grd (decide (ni (List.length (p5++[D.agg [iN c,iN k,D.str { data:=#[] },iN s,iN (0)]])) <= LIM)) (nam (p5++[D.agg [iN c,iN k,D.str { data:=#[] },iN s,iN (0)]]) fun y=>
 yP p0 (w6 (p1 + 1)) w x v y))))))
 (
 br (c == 7)
 (
 jb V 114 [.op [.os (1,0) f,iN g,.bool h]] fun i j=>
 asI .i64 i fun k=>unc j fun l m=>za l fun n o p=>(unn m (grd (decide (ni (List.length (p5++[D.agg [iN c,iN (0),D.str { data:=#[] },iN k,iN (0)]])) <= LIM)) (nam (p5++[D.agg [iN c,iN (0),D.str { data:=#[] },iN k,iN (0)]]) fun q=>
 yP p0 (w6 (p1 + 1)) o p n q))))
 (
 grd (decide (ni (List.length (p5++[D.agg [iN c,iN (0),D.str { data:=#[] },iN (0),iN (0)]])) <= LIM)) (nam (p5++[D.agg [iN c,iN (0),D.str { data:=#[] },iN (0),iN (0)]]) fun i=>
 yP p0 (w6 (p1 + 1)) g h f i))))))))
 (
 br (c == 8)
 (
 br (c == 8)
 (
 jb V 114 [.op [.os (1,0) f,iN g,.bool h]] fun i j=>
 asI .i64 i fun k=>unc j fun l m=>za l fun n o p=>(unn m (grd (decide (ni (List.length (p5++[D.agg [iN c,iN k,D.str { data:=#[] },iN (0),iN (0)]])) <= LIM)) (nam (p5++[D.agg [iN c,iN k,D.str { data:=#[] },iN (0),iN (0)]]) fun q=>
 yP p0 (w6 (p1 + 1)) o p n q))))
 (
 br (c == 3)
 (
 jb V 114 [.op [.os (1,0) f,iN g,.bool h]] fun i j=>
 asI .i64 i fun k=>unc j fun l m=>za l fun n o p=>(unn m (grd (decide (ni (List.length (p5++[D.agg [iN c,iN (w6 (k - 1000000000)),D.str { data:=#[] },iN (0),iN (0)]])) <= LIM)) (nam (p5++[D.agg [iN c,iN (w6 (k - 1000000000)),D.str { data:=#[] },iN (0),iN (0)]]) fun q=>
 yP p0 (w6 (p1 + 1)) o p n q))))
 (
 br (c == 4)
 (
 jb V 174 [.rs (1,0) f,iN g] fun i j=>
 PQ i fun k l m=>(unn j (br h
 (
 grd (decide (ni (List.length (p5++[D.agg [iN c,iN (0),D.str k,iN (0),iN (0)]])) <= LIM)) (nam (p5++[D.agg [iN c,iN (0),D.str k,iN (0),iN (0)]]) fun n=>
 yP p0 (w6 (p1 + 1)) l m f n))
 (
 grd (decide (ni (List.length (p5++[D.agg [iN c,iN (0),D.str k,iN (0),iN (0)]])) <= LIM)) (nam (p5++[D.agg [iN c,iN (0),D.str k,iN (0),iN (0)]]) fun n=>
 yP p0 (w6 (p1 + 1)) l false f n)))))
 (
 br (c == 5)
 (
 jb V 114 [.op [.os (1,0) f,iN g,.bool h]] fun i j=>
 asI .i64 i fun k=>unc j fun l m=>za l fun n o p=>(unn m (jb V 114 [.op [.os (1,0) n,iN o,.bool p]] fun q r=>
 asI .i64 q fun s=>unc r fun t u=>za t fun v w x=>(unn u (grd (decide (ni (List.length (p5++[D.agg [iN c,iN (0),D.str { data:=#[] },iN k,iN s]])) <= LIM)) (nam (p5++[D.agg [iN c,iN (0),D.str { data:=#[] },iN k,iN s]]) fun y=>
 yP p0 (w6 (p1 + 1)) w x v y))))))
 (
 br (c == 6)
 (
 jb V 114 [.op [.os (1,0) f,iN g,.bool h]] fun i j=>
 asI .i64 i fun k=>unc j fun l m=>za l fun n o p=>(unn m (jb V 114 [.op [.os (1,0) n,iN o,.bool p]] fun q r=>
 asI .i64 q fun s=>unc r fun t u=>za t fun v w x=>(unn u (grd (decide (ni (List.length (p5++[D.agg [iN c,iN k,D.str { data:=#[] },iN s,iN (0)]])) <= LIM)) (nam (p5++[D.agg [iN c,iN k,D.str { data:=#[] },iN s,iN (0)]]) fun y=>
 yP p0 (w6 (p1 + 1)) w x v y))))))
 (
 br (c == 7)
 (
 jb V 114 [.op [.os (1,0) f,iN g,.bool h]] fun i j=>
 asI .i64 i fun k=>unc j fun l m=>za l fun n o p=>(unn m (grd (decide (ni (List.length (p5++[D.agg [iN c,iN (0),D.str { data:=#[] },iN k,iN (0)]])) <= LIM)) (nam (p5++[D.agg [iN c,iN (0),D.str { data:=#[] },iN k,iN (0)]]) fun q=>
 yP p0 (w6 (p1 + 1)) o p n q))))
 (
 grd (decide (ni (List.length (p5++[D.agg [iN c,iN (0),D.str { data:=#[] },iN (0),iN (0)]])) <= LIM)) (nam (p5++[D.agg [iN c,iN (0),D.str { data:=#[] },iN (0),iN (0)]]) fun i=>
 yP p0 (w6 (p1 + 1)) g h f i))))))))
 (
 br (c == 9)
 (
 jb V 114 [.op [.os (1,0) f,iN g,.bool h]] fun i j=>
 asI .i64 i fun k=>unc j fun l m=>za l fun n o p=>(unn m (grd (decide (ni (List.length (p5++[D.agg [iN c,iN k,D.str { data:=#[] },iN (0),iN (0)]])) <= LIM)) (nam (p5++[D.agg [iN c,iN k,D.str { data:=#[] },iN (0),iN (0)]]) fun q=>
 yP p0 (w6 (p1 + 1)) o p n q))))
 (
 br (c == 3)
 (
 jb V 114 [.op [.os (1,0) f,iN g,.bool h]] fun i j=>
 asI .i64 i fun k=>unc j fun l m=>za l fun n o p=>(unn m (grd (decide (ni (List.length (p5++[D.agg [iN c,iN (w6 (k - 1000000000)),D.str { data:=#[] },iN (0),iN (0)]])) <= LIM)) (nam (p5++[D.agg [iN c,iN (w6 (k - 1000000000)),D.str { data:=#[] },iN (0),iN (0)]]) fun q=>
 yP p0 (w6 (p1 + 1)) o p n q))))
 (
 br (c == 4)
 (
 jb V 174 [.rs (1,0) f,iN g] fun i j=>
 PQ i fun k l m=>(unn j (br h
 (
 grd (decide (ni (List.length (p5++[D.agg [iN c,iN (0),D.str k,iN (0),iN (0)]])) <= LIM)) (nam (p5++[D.agg [iN c,iN (0),D.str k,iN (0),iN (0)]]) fun n=>
 yP p0 (w6 (p1 + 1)) l m f n))
 (
 grd (decide (ni (List.length (p5++[D.agg [iN c,iN (0),D.str k,iN (0),iN (0)]])) <= LIM)) (nam (p5++[D.agg [iN c,iN (0),D.str k,iN (0),iN (0)]]) fun n=>
 yP p0 (w6 (p1 + 1)) l false f n)))))
 (
 br (c == 5)
 (
 jb V 114 [.op [.os (1,0) f,iN g,.bool h]] fun i j=>
 asI .i64 i fun k=>unc j fun l m=>za l fun n o p=>(unn m (jb V 114 [.op [.os (1,0) n,iN o,.bool p]] fun q r=>
 asI .i64 q fun s=>unc r fun t u=>za t fun v w x=>(unn u (grd (decide (ni (List.length (p5++[D.agg [iN c,iN (0),D.str { data:=#[] },iN k,iN s]])) <= LIM)) (nam (p5++[D.agg [iN c,iN (0),D.str { data:=#[] },iN k,iN s]]) fun y=>
 yP p0 (w6 (p1 + 1)) w x v y))))))
 (
 br (c == 6)
 (
 jb V 114 [.op [.os (1,0) f,iN g,.bool h]] fun i j=>
 asI .i64 i fun k=>unc j fun l m=>za l fun n o p=>(unn m (jb V 114 [.op [.os (1,0) n,iN o,.bool p]] fun q r=>
 asI .i64 q fun s=>unc r fun t u=>za t fun v w x=>(unn u (grd (decide (ni (List.length (p5++[D.agg [iN c,iN k,D.str { data:=#[] },iN s,iN (0)]])) <= LIM)) (nam (p5++[D.agg [iN c,iN k,D.str { data:=#[] },iN s,iN (0)]]) fun y=>
 yP p0 (w6 (p1 + 1)) w x v y))))))
 (
 br (c == 7)
 (
 jb V 114 [.op [.os (1,0) f,iN g,.bool h]] fun i j=>
 asI .i64 i fun k=>unc j fun l m=>za l fun n o p=>(unn m (grd (decide (ni (List.length (p5++[D.agg [iN c,iN (0),D.str { data:=#[] },iN k,iN (0)]])) <= LIM)) (nam (p5++[D.agg [iN c,iN (0),D.str { data:=#[] },iN k,iN (0)]]) fun q=>
 yP p0 (w6 (p1 + 1)) o p n q))))
 (
 grd (decide (ni (List.length (p5++[D.agg [iN c,iN (0),D.str { data:=#[] },iN (0),iN (0)]])) <= LIM)) (nam (p5++[D.agg [iN c,iN (0),D.str { data:=#[] },iN (0),iN (0)]]) fun i=>
 yP p0 (w6 (p1 + 1)) g h f i))))))))))))
 (
 br p3
 (
 br (p2 == ni p4.length)
 (
 jb V 60 [.agg [.rs (5,0) p5]] fun a b=>
 asB a fun c=>unn b (some ((.agg [.os (5,0) p5]),[.op [.os (1,0) p4,iN p2,.bool c]])))
 (some ((.agg [.os (5,0) p5]),[.op [.os (1,0) p4,iN p2,.bool false]])))
 (some ((.agg [.os (5,0) p5]),[.op [.os (1,0) p4,iN p2,.bool false]]))))
 (
 br p3
 (
 br (p2 == ni p4.length)
 (
 jb V 60 [.agg [.rs (5,0) p5]] fun a b=>
 asB a fun c=>unn b (some ((.agg [.os (5,0) p5]),[.op [.os (1,0) p4,iN p2,.bool c]])))
 (some ((.agg [.os (5,0) p5]),[.op [.os (1,0) p4,iN p2,.bool false]])))
 (some ((.agg [.os (5,0) p5]),[.op [.os (1,0) p4,iN p2,.bool false]]))):=by
 exact (yC _ _ _).trans (by kernel_rfl)
theorem Pd (a0_0:List D) (a0_1 a0_2:Int):V 74 [.op [.rs (1,0) a0_0,iN a0_1,iN a0_2]] =
 jb V 142 [.op [.rs (1,0) a0_0,iN a0_1,iN a0_2]] fun a b=>
 asAgg a fun c=>unc c fun d e=>jl (5,0) d fun f=>unc e fun g h=>jl (4,0) g fun i=>unc h fun j k=>jl (3,0) j fun l=>unn k (unc b fun m n=>nC m fun o=>unc o fun p q=>kq (1,0) p fun r=>unc q fun s t=>asI .i64 s fun u=>unc t fun v w=>asI .i64 v fun x=>unn w (unn n (jb V 76 [.op [.rs (1,0) r,iN u,iN x],(iN (ni i.length))] fun y z=>
 asI .i64 y fun A=>unc z fun B C=>nC B fun E=>unc E fun F G=>kq (1,0) F fun H=>unc G fun I J=>asI .i64 I fun K=>unc J fun L M=>asI .i64 L fun N=>unn M (unn C (jb V 76 [.op [.rs (1,0) H,iN K,iN N],iN (25)] fun O P=>
 asI .i64 O fun Q=>unc P fun R S=>nC R fun T=>unc T fun U W=>kq (1,0) U fun X=>unc W fun Y Z=>asI .i64 Y fun a0=>unc Z fun a1 a2=>asI .i64 a1 fun a3=>unn a2 (unn S (br (Q == 0)
 (
 jb V 76 [.op [.rs (1,0) X,iN a0,iN a3],iN (11)] fun a4 a5=>
 asI .i64 a4 fun a6=>unc a5 fun a7 a8=>nC a7 fun a9=>unc a9 fun b0 b1=>kq (1,0) b0 fun b2=>unc b1 fun b3 b4=>asI .i64 b3 fun b5=>unc b4 fun b6 b7=>asI .i64 b6 fun b8=>unn b7 (unn a8 (grd (decide (0 <= A) && decide (A < ni i.length)) (cT i A.toNat fun b9=>
 asAgg b9 fun c0=>nam (List.set i A.toNat (D.agg (List.take 0 c0++[iN a6]++List.drop 1 c0))) fun c1=>
 some ((.agg [.os (5,0) f,.os (4,0) c1,.os (3,0) l]),[.op [.rs (1,0) b2,iN b5,iN b8]])))))
 (
 br (Q == 1)
 (
 jb V 122 [.op [.rs (1,0) X,iN a0,iN a3],(.rs (1,0) [iN (-1),iN (0),iN A,(iN (w6 (A + 1))),(iN (ni i.length)),(iN (w6 (ni i.length + 1)))])] fun a4 a5=>
 asI .i64 a4 fun a6=>unc a5 fun a7 a8=>nC a7 fun a9=>unc a9 fun b0 b1=>kq (1,0) b0 fun b2=>unc b1 fun b3 b4=>asI .i64 b3 fun b5=>unc b4 fun b6 b7=>asI .i64 b6 fun b8=>unn b7 (unn a8 (grd (decide (0 <= A) && decide (A < ni i.length)) (cT i A.toNat fun b9=>
 asAgg b9 fun c0=>nam (List.set i A.toNat (D.agg (List.take 1 c0++[iN a6]++List.drop 2 c0))) fun c1=>
 some ((.agg [.os (5,0) f,.os (4,0) c1,.os (3,0) l]),[.op [.rs (1,0) b2,iN b5,iN b8]])))))
 (
 br (Q == 2)
 (
 jb V 76 [.op [.rs (1,0) X,iN a0,iN a3],iN (7)] fun a4 a5=>
 asI .i64 a4 fun a6=>unc a5 fun a7 a8=>nC a7 fun a9=>unc a9 fun b0 b1=>kq (1,0) b0 fun b2=>unc b1 fun b3 b4=>asI .i64 b3 fun b5=>unc b4 fun b6 b7=>asI .i64 b6 fun b8=>unn b7 (unn a8 (grd (decide (0 <= A) && decide (A < ni i.length)) (cT i A.toNat fun b9=>
 asAgg b9 fun c0=>nam (List.set i A.toNat (D.agg (List.take 2 c0++[iN (w6 (a6 - 1))]++List.drop 3 c0))) fun c1=>
 some ((.agg [.os (5,0) f,.os (4,0) c1,.os (3,0) l]),[.op [.rs (1,0) b2,iN b5,iN b8]])))))
 (
 br (Q == 3)
 (
 jb V 75 [.op [.rs (1,0) X,iN a0,iN a3],(.rs (1,0) [.str ({ data:=#[] }),.str ({ data:=#[97] }),.str ({ data:=#[65] })])] fun a4 a5=>
 asS a4 fun a6=>unc a5 fun a7 a8=>nC a7 fun a9=>unc a9 fun b0 b1=>kq (1,0) b0 fun b2=>unc b1 fun b3 b4=>asI .i64 b3 fun b5=>unc b4 fun b6 b7=>asI .i64 b6 fun b8=>unn b7 (unn a8 (grd (decide (0 <= A) && decide (A < ni i.length)) (cT i A.toNat fun b9=>
 asAgg b9 fun c0=>nam (List.set i A.toNat (D.agg (List.take 3 c0++[D.str a6]++List.drop 4 c0))) fun c1=>
 some ((.agg [.os (5,0) f,.os (4,0) c1,.os (3,0) l]),[.op [.rs (1,0) b2,iN b5,iN b8]])))))
 (
 br (Q == 4)
 (
 jb V 75 [.op [.rs (1,0) X,iN a0,iN a3],(.rs (1,0) [.str ({ data:=#[102] }),.str ({ data:=#[109,97,105,110] }),.str ({ data:=#[122,122] }),.str ({ data:=#[65] })])] fun a4 a5=>
 asS a4 fun a6=>unc a5 fun a7 a8=>nC a7 fun a9=>unc a9 fun b0 b1=>kq (1,0) b0 fun b2=>unc b1 fun b3 b4=>asI .i64 b3 fun b5=>unc b4 fun b6 b7=>asI .i64 b6 fun b8=>unn b7 (unn a8 (jb V 76 [.op [.rs (1,0) b2,iN b5,iN b8],iN (60)] fun b9 c0=>
 asI .i64 b9 fun c1=>unc c0 fun c2 c3=>nC c2 fun c4=>unc c4 fun c5 c6=>kq (1,0) c5 fun c7=>unc c6 fun c8 c9=>asI .i64 c8 fun d0=>unc c9 fun d1 d2=>asI .i64 d1 fun d3=>unn d2 (unn c3 (jb V 76 [.op [.rs (1,0) c7,iN d0,iN d3],iN (6)] fun d4 d5=>
 asI .i64 d4 fun d6=>unc d5 fun d7 d8=>nC d7 fun d9=>unc d9 fun e0 e1=>kq (1,0) e0 fun e2=>unc e1 fun e3 e4=>asI .i64 e3 fun e5=>unc e4 fun e6 e7=>asI .i64 e6 fun e8=>unn e7 (unn d8 (grd (decide (ni (List.length (l++[D.agg [D.str a6,iN c1,iN d6]])) <= LIM)) (nam (l++[D.agg [D.str a6,iN c1,iN d6]]) fun e9=>
 some ((.agg [.os (5,0) f,.os (4,0) i,.os (3,0) e9]),[.op [.rs (1,0) e2,iN e5,iN e8]])))))))))
 (
 br (Q == 5)
 (
 jb V 90 [.op [.rs (1,0) X,iN a0,iN a3]] fun a4 a5=>
 asAgg a4 fun a6=>unc a6 fun a7 a8=>jl (5,0) a7 fun a9=>unn a8 (unc a5 fun b0 b1=>nC b0 fun b2=>unc b2 fun b3 b4=>kq (1,0) b3 fun b5=>unc b4 fun b6 b7=>asI .i64 b6 fun b8=>unc b7 fun b9 c0=>asI .i64 b9 fun c1=>unn c0 (unn b1 (some ((.agg [.os (5,0) a9,.os (4,0) i,.os (3,0) l]),[.op [.rs (1,0) b5,iN b8,iN c1]])))))
 (some ((.agg [.os (5,0) f,.os (4,0) i,.os (3,0) l]),[.op [.rs (1,0) X,iN a0,iN a3]])))))))))))))):=by
 exact (yD Tryz.func74 rfl _).trans (by kernel_rfl)
theorem Jg (p0:ByteArray) (p1:Nat) (p2:Int) (p3 p4 p5 p6:List D):y1 p0 p1 p2 p3 p4 p5 p6 =
 br (decide (p2 < ni (ByteArray.size p0)))
 (
 grd (decide (0 <= p2) && decide (p2 < ni (ByteArray.size p0))) (br (bt p0 p2 == 32)
 (y1 p0 p1 (w6 (p2 + 1)) p3 p4 p5 p6)
 (
 br (bt p0 p2 == 40)
 (grd (decide
 (ni
 (List.length
 (part p5 (some (0,p1)) ++
 [D.agg
 [iN p2,
 D.os
 (TypeInfo.size (Tables.types (Program.toTables Tryz.prog))[3],
 match qU Tryz.prog (3) with
 | true=>0
 | false=>1)
 []]])) <=
 LIM)) (nam (part p5 (some (0,p1)) ++
 [D.agg
 [iN p2,
 D.os
 (TypeInfo.size (Tables.types (Program.toTables Tryz.prog))[3],
 match qU Tryz.prog (3) with
 | true=>0
 | false=>1)
 []]]) fun a=>
 y4 p0 (w6 (p2 + 1)) p3 p4 a p6))
 (
 br (bt p0 p2 == 41)
 (
 br (w6 (ni p1 - 1) == 0)
 (
 jb V 147 [.agg [.rs (5,0) p3]] fun a b=>
 asAgg a fun c=>unc c fun d e=>jl (5,0) d fun f=>unn e (unn b (some ((.tup [.agg [.os (5,0) f],.os (1,0) p4,iN (5),iN p2]),[]))))
 (
 grd (decide (0 <= w6 (ni p1 - 1)) && decide (w6 (ni p1 - 1) < ni p1) && decide (0 + p1 <= List.length p5)) (cT p5 (0 + Int.toNat (w6 (ni p1 - 1))) fun a=>
 asAgg a fun b=>cT b 1 fun c=>
 jl (1,0) c fun d=>asAgg a fun e=>jb V 210 [.op [.os (5,0) p6],.rs (1,0) d] fun f g=>
 asI .i64 f fun h=>unc g fun i j=>nC i fun k=>unc k fun l m=>jl (5,0) l fun n=>unn m (unn j (grd (gW p1 (List.length (List.set p5 (0 + Int.toNat (w6 (ni p1 - 1))) (D.agg (List.take 1 e++[D.dead]++List.drop 2 e))) - 0) none (some (w6 (ni p1 - 1)))) (grd (decide (0 <= w6 (w6 (ni p1 - 1) - 1)) && decide (w6 (w6 (ni p1 - 1) - 1) < ni (Int.toNat (w6 (ni p1 - 1)))) && decide (0 + Int.toNat (w6 (ni p1 - 1)) <= List.length (List.set p5 (0 + Int.toNat (w6 (ni p1 - 1))) (D.agg (List.take 1 e++[D.dead]++List.drop 2 e))))) (cT (List.set p5 (0 + Int.toNat (w6 (ni p1 - 1))) (D.agg (List.take 1 e++[D.dead]++List.drop 2 e))) (0 + Int.toNat (w6 (w6 (ni p1 - 1) - 1))) fun o=>
 asAgg o fun p=>cT p 1 fun q=>
 jl (1,0) q fun r=>asAgg o fun s=>grd (decide (ni (List.length (r++[iN h])) <= LIM)) (nam (r++[iN h]) fun t=>
 grd (decide (0 <= w6 (w6 (ni p1 - 1) - 1)) && decide (w6 (w6 (ni p1 - 1) - 1) < ni (Int.toNat (w6 (ni p1 - 1)))) && decide (0 + Int.toNat (w6 (ni p1 - 1)) <= List.length (List.set (List.set p5 (0 + Int.toNat (w6 (ni p1 - 1))) (D.agg (List.take 1 e++[D.dead]++List.drop 2 e))) (0 + Int.toNat (w6 (w6 (ni p1 - 1) - 1))) (D.agg (List.take 1 s++[D.dead]++List.drop 2 s))))) (cT (List.set (List.set p5 (0 + Int.toNat (w6 (ni p1 - 1))) (D.agg (List.take 1 e++[D.dead]++List.drop 2 e))) (0 + Int.toNat (w6 (w6 (ni p1 - 1) - 1))) (D.agg (List.take 1 s++[D.dead]++List.drop 2 s))) (0 + Int.toNat (w6 (w6 (ni p1 - 1) - 1))) fun u=>
 asAgg u fun v=>nam (List.set (List.set (List.set p5 (0 + Int.toNat (w6 (ni p1 - 1))) (D.agg (List.take 1 e++[D.dead]++List.drop 2 e))) (0 + Int.toNat (w6 (w6 (ni p1 - 1) - 1))) (D.agg (List.take 1 s++[D.dead]++List.drop 2 s))) (0 + Int.toNat (w6 (w6 (ni p1 - 1) - 1)))
 (D.agg
 (List.take 1 v ++
 [D.os
 (TypeInfo.size (Tables.types (Program.toTables Tryz.prog))[3],
 match qU Tryz.prog (3) with
 | true=>0
 | false=>1)
 t] ++
 List.drop 2 v))) fun w=>
 y1 p0 (Int.toNat (w6 (ni p1 - 1))) (w6 (p2 + 1)) p3 p4 w n)))))))))
 (
 jb V 211 [.int .u8 (bt p0 p2)] fun a b=>
 asB a fun c=>unn b (br c
 (zG p0 p1 p2 (w6 (ni p1 - 1)) p2 p3 p4 p5 p6)
 (
 jb V 147 [.agg [.rs (5,0) p3]] fun d e=>
 asAgg d fun f=>unc f fun g h=>jl (5,0) g fun i=>unn h (unn e (some ((.tup [.agg [.os (5,0) i],.os (1,0) p4,iN (2),iN p2]),[]))))))))))
 (
 br (decide (ni p1 > 1))
 (
 jb V 147 [.agg [.rs (5,0) p3]] fun a b=>
 asAgg a fun c=>unc c fun d e=>jl (5,0) d fun f=>unn e (unn b (grd (decide (0 <= w6 (ni p1 - 1)) && decide (w6 (ni p1 - 1) < ni p1) && decide (0 + p1 <= List.length p5)) (cT p5 (0 + Int.toNat (w6 (ni p1 - 1))) fun g=>
 asAgg g fun h=>cT h 0 fun i=>
 asI .i64 i fun j=>some ((.tup [.agg [.os (5,0) f],.os (1,0) p4,iN (4),iN j]),[])))))
 (
 jb V 60 [.agg [.rs (5,0) p6]] fun a b=>
 asB a fun c=>unn b (br (!c)
 (
 jb V 147 [.agg [.rs (5,0) p3]] fun d e=>
 asAgg d fun f=>unc f fun g h=>jl (5,0) g fun i=>unn h (unn e (some ((.tup [.agg [.os (5,0) i],.os (1,0) p4,iN (6),iN (0)]),[]))))
 (
 grd (decide (0 <= 0) && decide (0 < ni p1) && decide (0 + p1 <= List.length p5)) (cT p5 0 fun d=>
 asAgg d fun e=>cT e 1 fun f=>
 jl (1,0) f fun g=>asAgg d fun h=>grd (decide (ni (List.length ([]++g)) <= LIM)) (nam ([]++g) fun i=>
 some ((.tup [.agg [.os (5,0) p6],.os (1,0) i,iN (0),(iN (ni (ByteArray.size p0)))]),[]))))))):=by
 exact (yC _ _ _).trans (by kernel_rfl)
theorem MO (a0_0 a0_1 a0_2:List D) (a1_:Int):V 123 [.agg [.rs (5,0) a0_0,.rs (4,0) a0_1,.rs (3,0) a0_2],iN a1_] =
 grd (decide (0 <= a1_) && decide (a1_ < ni a0_1.length)) (cT a0_1 a1_.toNat fun a=>
 VN a fun b c d e=>(br (b == 1)
 (
 jb V 56 [.agg [.rs (5,0) a0_0],iN c] fun f g=>
 asB f fun h=>unn g (br h
 (
 br (d == 0)
 (some ((.bool (kc e { data:=#[] })),[]))
 (some ((.bool false),[])))
 (some ((.bool false),[]))))
 (
 br (b == 2)
 (
 jb V 58 [iN c,iN (0),iN (20)] fun f g=>
 asB f fun h=>unn g (jb V 58 [iN d,iN (0),iN (3)] fun i j=>
 asB i fun k=>unn j (br h
 (
 br k
 (some ((.bool (kc e { data:=#[] })),[]))
 (some ((.bool false),[])))
 (some ((.bool false),[])))))
 (
 br (b == 3)
 (
 jb V 124 [.str e] fun f g=>
 asB f fun h=>unn g (br (c == 0)
 (
 br (d == 0)
 (some ((.bool h),[]))
 (some ((.bool false),[])))
 (some ((.bool false),[]))))
 (
 br (b == 4)
 (
 br (b == 4)
 (
 jb V 58 [iN c,(iN (w6 (a1_ + 1))),(iN (ni a0_1.length))] fun f g=>
 asB f fun h=>unn g (br h
 (
 br (d == 0)
 (some ((.bool (kc e { data:=#[] })),[]))
 (some ((.bool false),[])))
 (some ((.bool false),[]))))
 (
 br (b == 6)
 (
 jb V 58 [iN c,(iN (w6 (a1_ + 1))),(iN (w6 (ni a0_1.length - 1)))] fun f g=>
 asB f fun h=>unn g (jb V 58 [iN d,iN (0),iN (4)] fun i j=>
 asB i fun k=>unn j (br h
 (
 br k
 (some ((.bool (kc e { data:=#[] })),[]))
 (some ((.bool false),[])))
 (some ((.bool false),[])))))
 (
 br (b == 7)
 (
 jb V 58 [iN d,iN (0),iN (4)] fun f g=>
 asB f fun h=>unn g (br (c == 0)
 (
 br h
 (some ((.bool (kc e { data:=#[] })),[]))
 (some ((.bool false),[])))
 (some ((.bool false),[]))))
 (
 br (b == 8)
 (
 br (b == 8)
 (
 br (c == 0)
 (
 br (d == 0)
 (some ((.bool (kc e { data:=#[] })),[]))
 (some ((.bool false),[])))
 (some ((.bool false),[])))
 (some ((.bool false),[])))
 (
 br (b == 9)
 (
 br (c == 0)
 (
 br (d == 0)
 (some ((.bool (kc e { data:=#[] })),[]))
 (some ((.bool false),[])))
 (some ((.bool false),[])))
 (some ((.bool false),[])))))))
 (
 br (b == 5)
 (
 jb V 58 [iN c,(iN (w6 (a1_ + 1))),(iN (ni a0_1.length))] fun f g=>
 asB f fun h=>unn g (br h
 (
 br (d == 0)
 (some ((.bool (kc e { data:=#[] })),[]))
 (some ((.bool false),[])))
 (some ((.bool false),[]))))
 (
 br (b == 6)
 (
 jb V 58 [iN c,(iN (w6 (a1_ + 1))),(iN (w6 (ni a0_1.length - 1)))] fun f g=>
 asB f fun h=>unn g (jb V 58 [iN d,iN (0),iN (4)] fun i j=>
 asB i fun k=>unn j (br h
 (
 br k
 (some ((.bool (kc e { data:=#[] })),[]))
 (some ((.bool false),[])))
 (some ((.bool false),[])))))
 (
 br (b == 7)
 (
 jb V 58 [iN d,iN (0),iN (4)] fun f g=>
 asB f fun h=>unn g (br (c == 0)
 (
 br h
 (some ((.bool (kc e { data:=#[] })),[]))
 (some ((.bool false),[])))
 (some ((.bool false),[]))))
 (
 br (b == 8)
 (
 br (b == 8)
 (
 br (c == 0)
 (
 br (d == 0)
 (some ((.bool (kc e { data:=#[] })),[]))
 (some ((.bool false),[])))
 (some ((.bool false),[])))
 (some ((.bool false),[])))
 (
 br (b == 9)
 (
 br (c == 0)
 (
 br (d == 0)
 (some ((.bool (kc e { data:=#[] })),[]))
 (some ((.bool false),[])))
 (some ((.bool false),[])))
 (some ((.bool false),[])))))))))))):=by
 exact (yD Tryz.func123 rfl _).trans (by kernel_rfl)
theorem Nb (a0_0 a0_1 a0_2:List D) (a1_:Int):V 127 [.agg [.rs (5,0) a0_0,.rs (4,0) a0_1,.rs (3,0) a0_2],iN a1_] =
 grd (decide (0 <= a1_) && decide (a1_ < ni a0_1.length)) (cT a0_1 a1_.toNat fun a=>
 VN a fun b c d e=>(br (b == 1)
 (
 br (b == b && (c == c && (d == 0 && (kc e { data:=#[] } && true))))
 (
 jb V 61 [.agg [.rs (5,0) a0_0],iN c] fun f g=>
 asB f fun h=>unn g (some ((.bool h),[])))
 (some ((.bool false),[])))
 (
 br (b == 2)
 (
 br (kc e { data:=#[] })
 (
 jb V 62 [iN c,iN (0),iN (20)] fun f g=>
 asB f fun h=>unn g (br h
 (
 jb V 62 [iN d,iN (0),iN (3)] fun i j=>
 asB i fun k=>unn j (some ((.bool k),[])))
 (some ((.bool false),[]))))
 (some ((.bool false),[])))
 (
 br (b == 3)
 (
 br (b == b && (c == 0 && (d == 0 && (kc e e && true))))
 (
 jb V 128 [.str e] fun f g=>
 asB f fun h=>unn g (some ((.bool h),[])))
 (some ((.bool false),[])))
 (
 br (b == 4)
 (
 br (b == 4)
 (
 br (b == b && (c == c && (d == 0 && (kc e { data:=#[] } && true))))
 (
 br (decide (c > a1_))
 (some ((.bool (decide (c <= ni a0_1.length))),[]))
 (some ((.bool false),[])))
 (some ((.bool false),[])))
 (
 br (b == 6)
 (
 br (kc e { data:=#[] })
 (
 br (decide (c > a1_))
 (
 br (decide (c < ni a0_1.length))
 (
 jb V 62 [iN d,iN (0),iN (4)] fun f g=>
 asB f fun h=>unn g (some ((.bool h),[])))
 (some ((.bool false),[])))
 (some ((.bool false),[])))
 (some ((.bool false),[])))
 (
 br (b == 7)
 (
 br (b == b && (c == 0 && (d == d && (kc e { data:=#[] } && true))))
 (
 jb V 62 [iN d,iN (0),iN (4)] fun f g=>
 asB f fun h=>unn g (some ((.bool h),[])))
 (some ((.bool false),[])))
 (
 br (b == 8)
 (
 br (b == 8)
 (some ((.bool (b == b && (c == 0 && (d == 0 && (kc e { data:=#[] } && true))))),[]))
 (some ((.bool false),[])))
 (
 br (b == 9)
 (some ((.bool (b == b && (c == 0 && (d == 0 && (kc e { data:=#[] } && true))))),[]))
 (some ((.bool false),[])))))))
 (
 br (b == 5)
 (
 br (b == b && (c == c && (d == 0 && (kc e { data:=#[] } && true))))
 (
 br (decide (c > a1_))
 (some ((.bool (decide (c <= ni a0_1.length))),[]))
 (some ((.bool false),[])))
 (some ((.bool false),[])))
 (
 br (b == 6)
 (
 br (kc e { data:=#[] })
 (
 br (decide (c > a1_))
 (
 br (decide (c < ni a0_1.length))
 (
 jb V 62 [iN d,iN (0),iN (4)] fun f g=>
 asB f fun h=>unn g (some ((.bool h),[])))
 (some ((.bool false),[])))
 (some ((.bool false),[])))
 (some ((.bool false),[])))
 (
 br (b == 7)
 (
 br (b == b && (c == 0 && (d == d && (kc e { data:=#[] } && true))))
 (
 jb V 62 [iN d,iN (0),iN (4)] fun f g=>
 asB f fun h=>unn g (some ((.bool h),[])))
 (some ((.bool false),[])))
 (
 br (b == 8)
 (
 br (b == 8)
 (some ((.bool (b == b && (c == 0 && (d == 0 && (kc e { data:=#[] } && true))))),[]))
 (some ((.bool false),[])))
 (
 br (b == 9)
 (some ((.bool (b == b && (c == 0 && (d == 0 && (kc e { data:=#[] } && true))))),[]))
 (some ((.bool false),[])))))))))))):=by
 exact (yD Tryz.func127 rfl _).trans (by kernel_rfl)
theorem OI (a0_0 a0_1:Int) (a0_2:ByteArray) (a0_3 a0_4 a1_:Int):V 126 [.agg [iN a0_0,iN a0_1,.str a0_2,iN a0_3,iN a0_4],iN a1_] =
 br (a0_0 == 1)
 (
 jb V 58 [iN a0_1,iN (0),iN (0)] fun a b=>
 asB a fun c=>unn b (br c
 (
 br (kc a0_2 { data:=#[] })
 (
 br (a0_3 == 0)
 (some ((.bool (a0_4 == 0)),[]))
 (some ((.bool false),[])))
 (some ((.bool false),[])))
 (some ((.bool false),[]))))
 (
 br (a0_0 == 2)
 (
 jb V 58 [iN a0_1,iN (0),iN (1)] fun a b=>
 asB a fun c=>unn b (br c
 (
 br (kc a0_2 { data:=#[] })
 (
 br (a0_3 == 0)
 (some ((.bool (a0_4 == 0)),[]))
 (some ((.bool false),[])))
 (some ((.bool false),[])))
 (some ((.bool false),[]))))
 (
 br (a0_0 == 3)
 (
 jb V 58 [iN a0_1,iN (-1000000000),iN (1000000000)] fun a b=>
 asB a fun c=>unn b (br c
 (
 br (kc a0_2 { data:=#[] })
 (
 br (a0_3 == 0)
 (some ((.bool (a0_4 == 0)),[]))
 (some ((.bool false),[])))
 (some ((.bool false),[])))
 (some ((.bool false),[]))))
 (
 br (a0_0 == 4)
 (
 jb V 124 [.str a0_2] fun a b=>
 asB a fun c=>unn b (jb V 58 [iN a0_1,iN (0),iN (0)] fun d e=>
 asB d fun f=>unn e (br f
 (
 br c
 (
 br (a0_3 == 0)
 (some ((.bool (a0_4 == 0)),[]))
 (some ((.bool false),[])))
 (some ((.bool false),[])))
 (some ((.bool false),[])))))
 (
 br (a0_0 == 5)
 (
 jb V 58 [iN a0_3,iN (0),(iN (w6 (a1_ - 1)))] fun a b=>
 asB a fun c=>unn b (jb V 58 [iN a0_4,iN (0),(iN (w6 (a1_ - 1)))] fun d e=>
 asB d fun f=>unn e (jb V 58 [iN a0_1,iN (0),iN (0)] fun g h=>
 asB g fun i=>unn h (br i
 (
 br (kc a0_2 { data:=#[] })
 (
 br c
 (some ((.bool f),[]))
 (some ((.bool false),[])))
 (some ((.bool false),[])))
 (some ((.bool false),[]))))))
 (
 br (a0_0 == 6)
 (
 jb V 58 [iN a0_3,iN (0),(iN (w6 (a1_ - 1)))] fun a b=>
 asB a fun c=>unn b (jb V 58 [iN a0_1,iN (0),iN (1000000000)] fun d e=>
 asB d fun f=>unn e (br f
 (
 br (kc a0_2 { data:=#[] })
 (
 br c
 (some ((.bool (a0_4 == 0)),[]))
 (some ((.bool false),[])))
 (some ((.bool false),[])))
 (some ((.bool false),[])))))
 (
 br (a0_0 == 7)
 (
 jb V 58 [iN a0_3,iN (0),(iN (w6 (a1_ - 1)))] fun a b=>
 asB a fun c=>unn b (jb V 58 [iN a0_1,iN (0),iN (0)] fun d e=>
 asB d fun f=>unn e (br f
 (
 br (kc a0_2 { data:=#[] })
 (
 br c
 (some ((.bool (a0_4 == 0)),[]))
 (some ((.bool false),[])))
 (some ((.bool false),[])))
 (some ((.bool false),[])))))
 (
 br (a0_0 == 8)
 (
 jb V 58 [iN a0_1,iN (0),iN (99)] fun a b=>
 asB a fun c=>unn b (br c
 (
 br (kc a0_2 { data:=#[] })
 (
 br (a0_3 == 0)
 (some ((.bool (a0_4 == 0)),[]))
 (some ((.bool false),[])))
 (some ((.bool false),[])))
 (some ((.bool false),[]))))
 (
 br (a0_0 == 9)
 (
 jb V 58 [iN a0_1,iN (0),iN (1000000000)] fun a b=>
 asB a fun c=>unn b (br c
 (
 br (kc a0_2 { data:=#[] })
 (
 br (a0_3 == 0)
 (some ((.bool (a0_4 == 0)),[]))
 (some ((.bool false),[])))
 (some ((.bool false),[])))
 (some ((.bool false),[]))))
 (some ((.bool false),[])))))))))):=by
 exact (yD Tryz.func126 rfl _).trans (by kernel_rfl)
theorem D5 (p0 p1:List D) (p2 p3:Int) (p4 p5 p6:List D):AF p0 p1 p2 p3 p4 p5 p6 =
 br (decide (p2 < ni p0.length))
 (
 br (p3 == 0)
 (
 br (decide (p2 > 0))
 (
 jb V 237 [.op [.os (5,0) p4,.os (4,0) p5,.os (3,0) p6,iN p3],(.agg [iN (9),iN (0),iN (0),.str ({ data:=#[] })])] fun a b=>
 asI .i64 a fun _=>unc b fun c d=>tk2 c fun e f g h=>(unn d (grd (decide (0 <= p2) && decide (p2 < ni p0.length)) (cT p0 p2.toNat fun i=>
 asI .i64 i fun j=>jb V 244 [.op [.os (5,0) e,.os (4,0) f,.os (3,0) g,iN h],iN j,.rs (1,1) p1] fun k l=>
 iV k fun m=>unn m (unc l fun n o=>tk2 n fun p q r s=>(unn o (AF p0 p1 (w6 (p2 + 1)) s p q r)))))))
 (
 grd (decide (0 <= p2) && decide (p2 < ni p0.length)) (cT p0 p2.toNat fun a=>
 asI .i64 a fun b=>jb V 244 [.op [.os (5,0) p4,.os (4,0) p5,.os (3,0) p6,iN p3],iN b,.rs (1,1) p1] fun c d=>
 iV c fun e=>unn e (unc d fun f g=>tk2 f fun h i j k=>(unn g (AF p0 p1 (w6 (p2 + 1)) k h i j))))))
 (some ((.tup []),[.op [.os (5,0) p4,.os (4,0) p5,.os (3,0) p6,iN p3]])))
 (some ((.tup []),[.op [.os (5,0) p4,.os (4,0) p5,.os (3,0) p6,iN p3]])):=by
 exact (yC _ _ _).trans (by kernel_rfl)
theorem MJ (a0_0 a0_1 a0_2:List D) (a1_:ByteArray) (a2_:Int):V 24 [.agg [.rs (5,0) a0_0,.rs (4,0) a0_1,.rs (3,0) a0_2],.str a1_,iN a2_] =
 jb V 77 [.agg [.rs (5,0) a0_0,.rs (4,0) a0_1,.rs (3,0) a0_2],.str a1_] fun a b=>
 iV a fun c=>unc c fun d e=>tk5 d fun f g h i j k l m=>(unc e fun n o=>asB n fun p=>unn o (unn b (br (!p)
 (some ((.tup [.agg [iN (0),.os (5,0) [],iN (0),iN (0),iN (0),iN (0),iN (0),iN (0),iN (0),.os (1,0) [],.os (1,0) []],.bool false]),[]))
 (
 jb V 26 [.agg [.rs (5,0) a0_0,.rs (4,0) a0_1,.rs (3,0) a0_2],.agg [iN a2_,.rs (5,0) f,iN g,iN h,iN i,iN j,iN k,iN l,iN m,.rs (1,0) [],.rs (1,0) []]] fun q r=>
 asB q fun s=>unn r (br (!s)
 (some ((.tup [.agg [iN (0),.os (5,0) [],iN (0),iN (0),iN (0),iN (0),iN (0),iN (0),iN (0),.os (1,0) [],.os (1,0) []],.bool false]),[]))
 (some ((.tup [.agg [iN a2_,.os (5,0) f,iN g,iN h,iN i,iN j,iN k,iN l,iN m,.os (1,0) [],.os (1,0) []],.bool true]),[]))))))):=by
 exact (yD Tryz.func24 rfl _).trans (by kernel_rfl)
theorem O7 (a0_0:List D) (a0_1 a0_2:Int) (a1_:List D):V 75 [.op [.rs (1,0) a0_0,iN a0_1,iN a0_2],.rs (1,0) a1_] =
 jb V 76 [.op [.rs (1,0) a0_0,iN a0_1,iN a0_2],(iN (ni a1_.length))] fun a b=>
 asI .i64 a fun c=>unc b fun d e=>nC d fun f=>unc f fun g h=>kq (1,0) g fun i=>unc h fun j k=>asI .i64 j fun l=>unc k fun m n=>asI .i64 m fun o=>unn n (unn e (grd (decide (0 <= c) && decide (c < ni a1_.length)) (cT a1_ c.toNat fun p=>
 asS p fun q=>some ((.str q),[.op [.rs (1,0) i,iN l,iN o]])))):=by
 exact (yD Tryz.func75 rfl _).trans (by kernel_rfl)
theorem CY (p0 p1 p2:Int) (p3 p4 p5 p6:List D):z9 p0 p1 p2 p3 p4 p5 p6 =
 br (decide (p1 < p0))
 (
 grd (decide (0 <= p1) && decide (p1 < ni p3.length)) (cT p3 p1.toNat fun a=>
 asS a fun b=>grd (decide (0 <= p0) && decide (p0 < ni p3.length)) (cT p3 p0.toNat fun c=>
 asS c fun d=>br (kc b d)
 (z9 p0 (w6 (p1 + 1)) (2) p3 p4 p5 p6)
 (z9 p0 (w6 (p1 + 1)) p2 p3 p4 p5 p6))))
 (zA (w6 (p0 + 1)) p2 p3 p4 p5 p6):=by
 exact (yC _ _ _).trans (by kernel_rfl)
theorem Dl (p0 p1:Int) (p2:List D) (p3 p4 p5 p6 p7 p8 p9:Int) (p10 p11:List D):Bm p0 p1 p2 p3 p4 p5 p6 p7 p8 p9 p10 p11 =
 br (decide (p0 < ni p11.length))
 (
 grd (decide (0 <= p0) && decide (p0 < ni p11.length)) (cT p11 p0.toNat fun a=>
 asS a fun b=>br (decide (ni (ByteArray.size b) > 400))
 (some ((.bool false),[]))
 (Bm (w6 (p0 + 1)) p1 p2 p3 p4 p5 p6 p7 p8 p9 p10 p11)))
 (some ((.bool true),[])):=by
 exact (yC _ _ _).trans (by kernel_rfl)
theorem Qn (p:List D) (k n:Int) (s:ByteArray) (a b:Int):V 158 [.op [.os (5,0) p],.agg [iN k,iN n,.str s,iN a,iN b]] =
 grd (decide (ni (List.length (p++[D.agg [iN k,iN n,D.str s,iN a,iN b]])) <= LIM)) (nam (p++[D.agg [iN k,iN n,D.str s,iN a,iN b]]) fun c=>
 some ((iN (w6 (ni c.length - 1))),[.op [.os (5,0) c]])):=by
 exact (yD Tryz.func158 rfl _).trans (by kernel_rfl)
theorem Pm (b:List D) (i:Int) (k:Bool):V 115 [.op [.os (1,0) b,iN i,.bool k]] =
 jb V 114 [.op [.os (1,0) b,iN i,.bool k]] fun a c=>
 asI .i64 a fun d=>unc c fun e f=>za e fun g h j=>(unn f (br (decide (d > 3000))
 (Aa d (0) h false g)
 (Aa d (0) h j g))):=by
 exact (yD Tryz.func115 rfl _).trans (by kernel_rfl)
theorem Ot (a0_0 a0_1 a0_2:List D):V 54 [.agg [.rs (5,0) a0_0,.rs (4,0) a0_1,.rs (3,0) a0_2]] =
 jb V 55 [.agg [.rs (5,0) a0_0]] fun a b=>
 asB a fun c=>unn b (br (!c)
 (some ((.bool false),[]))
 (
 br (decide (ni a0_1.length > 400))
 (some ((.bool false),[]))
 (
 br (decide (ni a0_2.length > 20))
 (some ((.bool false),[]))
 (BC (ni a0_1.length) (0) a0_0 a0_1 a0_2)))):=by
 exact (yD Tryz.func54 rfl _).trans (by kernel_rfl)
theorem DL (p0 p1:Int) (p2 p3 p4:List D):BC p0 p1 p2 p3 p4 =
 br (decide (p1 < p0))
 (
 jb V 123 [.agg [.rs (5,0) p2,.rs (4,0) p3,.rs (3,0) p4],iN p1] fun a b=>
 asB a fun c=>unn b (br (!c)
 (some ((.bool false),[]))
 (BC p0 (w6 (p1 + 1)) p2 p3 p4)))
 (Bi p4 (ni p4.length) (0) p2 p3 p4):=by
 exact (yC _ _ _).trans (by kernel_rfl)
theorem MR (a0_:ByteArray):V 82 [.str a0_] =
 jb V 146 [.str a0_] fun a b=>
 iV a fun c=>unc c fun d e=>asAgg d fun f=>unc f fun g h=>jl (5,0) g fun _=>unn h (unc e fun i j=>asI .i64 i fun _=>unc j fun k l=>asB k fun m=>unn l (unn b (some ((.bool m),[])))):=by
 exact (yD Tryz.func82 rfl _).trans (by kernel_rfl)
theorem Nc (p l d:List D) (h:Int) (x:List D):V 231 [.op [.os (5,0) p,.os (4,0) l,.os (3,0) d,iN h],.rs (1,0) x] =
 br (decide (ni x.length > 4))
 (zH x (0) (1) [] p l d)
 (zH x (0) h [] p l d):=by
 exact (yD Tryz.func231 rfl _).trans (by kernel_rfl)
theorem Nh (a0_0:List D):V 70 [.agg [.rs (5,0) a0_0]] =
 jb V 69 [(iN (ni a0_0.length))] fun a b=>
 jl (1,0) a fun c=>unn b (yU (0) a0_0 c):=by
 exact (yD Tryz.func70 rfl _).trans (by kernel_rfl)
end Go.Eng
/-! the functions as the interpreter has them -/
namespace Go.Eng
open Go.Proofs Go.Proofs.Tryz
set_option maxRecDepth 100000
theorem KJ (p0:ByteArray) (p1:Int) (p2 p3 p4 p5:List D):y4 p0 p1 p2 p3 p4 p5 =
 br (decide (p1 < ni (ByteArray.size p0)))
 (
 grd (decide (0 <= p1) && decide (p1 < ni (ByteArray.size p0))) (br (bt p0 p1 == 32)
 (y4 p0 (w6 (p1 + 1)) p2 p3 p4 p5)
 (
 br (bt p0 p1 == 40)
 (grd (decide
 (ni
 (List.length
 (p4 ++
 [D.agg
 [iN p1,
 D.os
 (TypeInfo.size (Tables.types (Program.toTables Tryz.prog))[3],
 match qU Tryz.prog (3) with
 | true=>0
 | false=>1)
 []]])) <=
 LIM)) (nam (p4 ++
 [D.agg
 [iN p1,
 D.os
 (TypeInfo.size (Tables.types (Program.toTables Tryz.prog))[3],
 match qU Tryz.prog (3) with
 | true=>0
 | false=>1)
 []]]) fun a=>
 y4 p0 (w6 (p1 + 1)) p2 p3 a p5))
 (
 br (bt p0 p1 == 41)
 (
 br (w6 (ni p4.length - 1) == 0)
 (
 jb V 147 [.agg [.rs (5,0) p2]] fun a b=>
 asAgg a fun c=>unc c fun d e=>jl (5,0) d fun f=>unn e (unn b (some ((.tup [.agg [.os (5,0) f],.os (1,0) p3,iN (5),iN p1]),[]))))
 (
 grd (decide (0 <= w6 (ni p4.length - 1)) && decide (w6 (ni p4.length - 1) < ni p4.length)) (cT p4 (Int.toNat (w6 (ni p4.length - 1))) fun a=>
 asAgg a fun b=>cT b 1 fun c=>
 jl (1,0) c fun d=>asAgg a fun e=>jb V 210 [.op [.os (5,0) p5],.rs (1,0) d] fun f g=>
 asI .i64 f fun h=>unc g fun i j=>nC i fun k=>unc k fun l m=>jl (5,0) l fun n=>unn m (unn j (grd (cW (List.length (List.set p4 (Int.toNat (w6 (ni p4.length - 1))) (D.agg (List.take 1 e++[D.dead]++List.drop 2 e)))) none (some (w6 (ni p4.length - 1)))) (grd (decide (0 <= w6 (w6 (ni p4.length - 1) - 1)) && decide (w6 (w6 (ni p4.length - 1) - 1) < ni (Int.toNat (w6 (ni p4.length - 1)))) && decide (0 + Int.toNat (w6 (ni p4.length - 1)) <= List.length (List.set p4 (Int.toNat (w6 (ni p4.length - 1))) (D.agg (List.take 1 e++[D.dead]++List.drop 2 e))))) (cT (List.set p4 (Int.toNat (w6 (ni p4.length - 1))) (D.agg (List.take 1 e++[D.dead]++List.drop 2 e))) (0 + Int.toNat (w6 (w6 (ni p4.length - 1) - 1))) fun o=>
 asAgg o fun p=>cT p 1 fun q=>
 jl (1,0) q fun r=>asAgg o fun s=>grd (decide (ni (List.length (r++[iN h])) <= LIM)) (nam (r++[iN h]) fun t=>
 grd (decide (0 <= w6 (w6 (ni p4.length - 1) - 1)) && decide (w6 (w6 (ni p4.length - 1) - 1) < ni (Int.toNat (w6 (ni p4.length - 1)))) && decide (0 + Int.toNat (w6 (ni p4.length - 1)) <= List.length (List.set (List.set p4 (Int.toNat (w6 (ni p4.length - 1))) (D.agg (List.take 1 e++[D.dead]++List.drop 2 e))) (0 + Int.toNat (w6 (w6 (ni p4.length - 1) - 1))) (D.agg (List.take 1 s++[D.dead]++List.drop 2 s))))) (cT (List.set (List.set p4 (Int.toNat (w6 (ni p4.length - 1))) (D.agg (List.take 1 e++[D.dead]++List.drop 2 e))) (0 + Int.toNat (w6 (w6 (ni p4.length - 1) - 1))) (D.agg (List.take 1 s++[D.dead]++List.drop 2 s))) (0 + Int.toNat (w6 (w6 (ni p4.length - 1) - 1))) fun u=>
 asAgg u fun v=>nam (List.set (List.set (List.set p4 (Int.toNat (w6 (ni p4.length - 1))) (D.agg (List.take 1 e++[D.dead]++List.drop 2 e))) (0 + Int.toNat (w6 (w6 (ni p4.length - 1) - 1))) (D.agg (List.take 1 s++[D.dead]++List.drop 2 s))) (0 + Int.toNat (w6 (w6 (ni p4.length - 1) - 1)))
 (D.agg
 (List.take 1 v ++
 [D.os
 (TypeInfo.size (Tables.types (Program.toTables Tryz.prog))[3],
 match qU Tryz.prog (3) with
 | true=>0
 | false=>1)
 t] ++
 List.drop 2 v))) fun w=>
 y1 p0 (Int.toNat (w6 (ni p4.length - 1))) (w6 (p1 + 1)) p2 p3 w n)))))))))
 (
 jb V 211 [.int .u8 (bt p0 p1)] fun a b=>
 asB a fun c=>unn b (br c
 (zZ p0 p1 (w6 (ni p4.length - 1)) p1 p2 p3 p4 p5)
 (
 jb V 147 [.agg [.rs (5,0) p2]] fun d e=>
 asAgg d fun f=>unc f fun g h=>jl (5,0) g fun i=>unn h (unn e (some ((.tup [.agg [.os (5,0) i],.os (1,0) p3,iN (2),iN p1]),[]))))))))))
 (
 br (decide (ni p4.length > 1))
 (
 jb V 147 [.agg [.rs (5,0) p2]] fun a b=>
 asAgg a fun c=>unc c fun d e=>jl (5,0) d fun f=>unn e (unn b (grd (decide (0 <= w6 (ni p4.length - 1)) && decide (w6 (ni p4.length - 1) < ni p4.length)) (cT p4 (Int.toNat (w6 (ni p4.length - 1))) fun g=>
 asAgg g fun h=>cT h 0 fun i=>
 asI .i64 i fun j=>some ((.tup [.agg [.os (5,0) f],.os (1,0) p3,iN (4),iN j]),[])))))
 (
 jb V 60 [.agg [.rs (5,0) p5]] fun a b=>
 asB a fun c=>unn b (br (!c)
 (
 jb V 147 [.agg [.rs (5,0) p2]] fun d e=>
 asAgg d fun f=>unc f fun g h=>jl (5,0) g fun i=>unn h (unn e (some ((.tup [.agg [.os (5,0) i],.os (1,0) p3,iN (6),iN (0)]),[]))))
 (
 grd (decide (0 <= 0) && decide (0 < ni p4.length)) (cT p4 0 fun d=>
 asAgg d fun e=>cT e 1 fun f=>
 jl (1,0) f fun g=>asAgg d fun h=>grd (decide (ni (List.length ([]++g)) <= LIM)) (nam ([]++g) fun i=>
 some ((.tup [.agg [.os (5,0) p5],.os (1,0) i,iN (0),(iN (ni (ByteArray.size p0)))]),[]))))))):=by
 exact (yC _ _ _).trans (by kernel_rfl)
theorem Nf :V 213 [] =
 some ((.os (1,0) [.str ({ data:=#[40,100,101,102,105,110,101,32,40,102,32,110,41,32,40,105,102,32,40,60,32,110,32,50,41,32,110,32,40,43,32,40,102,32,40,45,32,110,32,49,41,41,32,40,102,32,40,45,32,110,32,50,41,41,41,41,41,32,40,102,32,54,41] }),(.str ({ data:=List.toArray (List.append [40,100,101,102,105,110,101,32,40,117,112,32,110,41,32,40,105,102,32,40,60,32,110,32,51,41,32,40,100,111,32,40] [112,114,105,110,116,32,110,41,32,40,117,112,32,40,43,32,110,32,49,41,41,41,32,110,41,41,32,40,117,112,32,48,41]) })),.str ({ data:=#[40,108,101,116,32,120,32,53,32,40,108,101,116,32,102,32,40,102,110,32,40,121,41,32,40,43,32,120,32,121,41,41,32,40,112,114,105,110,116,32,40,102,32,52,41,41,41,41] }),.str ({ data:=#[40,112,114,105,110,116,32,40,99,97,108,108,99,99,32,40,102,110,32,40,107,41,32,40,100,111,32,40,107,32,55,41,32,56,41,41,41,41] }),(.str ({ data:=List.toArray (List.append [40,100,101,102,105,110,101,32,40,109,97,112,32,102,32,108,41,32,40,105,102,32,40,110,117,108,108,63,32,108,41,32,40,41,32,40,99,111,110,115,32,40,102,32,40,99,97,114,32,108,41,41,32,40,109,97,112,32,102] [32,40,99,100,114,32,108,41,41,41,41,41,32,40,112,114,105,110,116,32,40,109,97,112,32,40,102,110,32,40,120,41,32,40,42,32,120,32,120,41,41,32,40,113,117,111,116,101,32,40,49,32,50,32,51,41,41,41,41]) })),.str ({ data:=#[40,100,111,32,40,115,112,97,119,110,32,40,102,110,32,40,41,32,40,100,111,32,40,112,114,105,110,116,32,49,41,32,40,112,114,105,110,116,32,50,41,41,41,41,32,40,112,114,105,110,116,32,51,41,41] }),(.str ({ data:=List.toArray (List.append [40,108,101,116,32,112,32,40,115,112,97,119,110,32,40,102,110,32,40,41,32,40,112,114,105,110,116,32,40,114,101,99,118,41] [41,41,41,32,40,100,111,32,40,115,101,110,100,32,112,32,40,113,117,111,116,101,32,40,97,32,98,41,41,41,32,48,41,41]) })),(.str ({ data:=List.toArray (List.append [40,108,101,116,32,112,32,40,115,112,97,119,110,32,40,102,110,32,40,41,32,40,108,101,116,32,102,32,40,114,101,99,118,41,32,40,112,114,105,110,116,32,40,102] [32,53,41,41,41,41,41,32,40,108,101,116,32,122,32,57,32,40,115,101,110,100,32,112,32,40,102,110,32,40,120,41,32,40,43,32,120,32,122,41,41,41,41,41]) })),.str ({ data:=#[40,100,111,32,40,112,114,105,110,116,32,49,41,32,40,103,111,32,49,41,32,40,112,114,105,110,116,32,50,41,32,40,103,111,32,48,41,32,40,112,114,105,110,116,32,51,41,41] }),(.str ({ data:=List.toArray (List.append [40,108,101,116,32,109,101,32,40,115,101,108,102,41,32,40,100,111,32,40,115,112,97,119,110,32,40,102,110,32,40,41,32,40,100,111,32,40] [103,111,32,49,41,32,40,115,101,110,100,32,109,101,32,52,50,41,41,41,41,32,40,112,114,105,110,116,32,40,114,101,99,118,41,41,41,41]) })),(.str ({ data:=List.toArray (List.append [40,100,101,102,105,110,101,32,40,108,111,111,112,32,110,41,32,40,105,102,32,40,61,32,110,32,48,41,32,40,112,114,105,110,116,32,40] [113,117,111,116,101,32,101,110,100,41,41,32,40,108,111,111,112,32,40,45,32,110,32,49,41,41,41,41,32,40,108,111,111,112,32,57,41]) })),.str ({ data:=#[40,112,114,105,110,116,32,40,99,97,114,32,40,113,117,111,116,101,32,40,41,41,41,41] }),.str ({ data:=#[40,112,114,105,110,116,32,40,102,32,49,41,41] }),.str ({ data:=#[40,43,32,49,32,35,116,41] }),.str ({ data:=#[40,112,114,105,110,116,32,40,99,111,110,115,32,49,32,40,99,111,110,115,32,50,32,40,41,41,41,41] }),(.str ({ data:=List.toArray (List.append (List.append [40,100,101,102,105,110,101,32,40,112,105,110,103,32,112,32,110,41,32,40,105,102,32,40,60,32,110,32,49,41,32,48,32,40,100,111,32,40,115,101,110,100,32,112,32] [110,41,32,40,112,114,105,110,116,32,40,114,101,99,118,41,41,32,40,112,105,110,103,32,112,32,40,45,32,110,32,49,41,41,41,41,41,32,40,108,101,116,32,109,101,32]) (List.append [40,115,101,108,102,41,32,40,112,105,110,103,32,40,115,112,97,119,110,32,40,102,110,32,40,41,32,40,100,111,32,40,103,111,32,49,41,32,40,115,101,110,100,32,109,101] [32,40,43,32,49,48,32,40,114,101,99,118,41,41,41,32,40,115,101,110,100,32,109,101,32,40,43,32,49,48,32,40,114,101,99,118,41,41,41,41,41,41,32,50,41,41])) })),(.str ({ data:=List.toArray (List.append [40,108,101,116,32,107,32,40,99,97,108,108,99,99,32,40,102,110,32,40,99,41,32,99,41,41,32,40,105,102,32,40,112,97,105,114,63] [32,107,41,32,40,112,114,105,110,116,32,40,99,97,114,32,107,41,41,32,40,107,32,40,113,117,111,116,101,32,40,53,41,41,41,41,41]) })),(.str ({ data:=List.toArray (List.append [40,108,101,116,32,112,32,40,115,112,97,119,110,32,40,102,110,32,40,41,32,40,100,111,32,40,103,111,32,49,41,32,40,108,101,116,32,107,32,40,114,101,99,118,41,32,40,107,32,56] [41,41,41,41,41,32,40,112,114,105,110,116,32,40,99,97,108,108,99,99,32,40,102,110,32,40,107,41,32,40,100,111,32,40,115,101,110,100,32,112,32,107,41,32,51,41,41,41,41,41]) }))]),[]):=by
 exact (yD Tryz.func213 rfl _).trans (by kernel_rfl)
theorem M9 (a0_0:List D) (a0_1 a0_2 a1_0 a1_1:Int) (a1_2:ByteArray) (a1_3 a1_4:Int):V 156 [.op [.rs (1,0) a0_0,iN a0_1,iN a0_2],.agg [iN a1_0,iN a1_1,.str a1_2,iN a1_3,iN a1_4]] =
 jb V 76 [.op [.rs (1,0) a0_0,iN a0_1,iN a0_2],iN (8)] fun a b=>
 asI .i64 a fun c=>unc b fun d e=>tk4 d fun f g h=>(unn e (br (c == 0)
 (
 jb V 76 [.op [.rs (1,0) f,iN g,iN h],iN (11)] fun i j=>
 asI .i64 i fun k=>unc j fun l m=>tk4 l fun n o p=>(unn m (some ((.agg [iN k,iN a1_1,.str a1_2,iN a1_3,iN a1_4]),[.op [.rs (1,0) n,iN o,iN p]]))))
 (
 br (c == 1)
 (
 jb V 76 [.op [.rs (1,0) f,iN g,iN h],iN (20)] fun i j=>
 asI .i64 i fun k=>unc j fun l m=>tk4 l fun n o p=>(unn m (some ((.agg [iN a1_0,iN a1_1,.str a1_2,(iN (w6 (k - 1))),iN a1_4]),[.op [.rs (1,0) n,iN o,iN p]]))))
 (
 br (c == 2)
 (
 jb V 76 [.op [.rs (1,0) f,iN g,iN h],iN (20)] fun i j=>
 asI .i64 i fun k=>unc j fun l m=>tk4 l fun n o p=>(unn m (some ((.agg [iN a1_0,iN a1_1,.str a1_2,iN a1_3,(iN (w6 (k - 1)))]),[.op [.rs (1,0) n,iN o,iN p]]))))
 (
 br (c == 3)
 (
 jb V 122 [.op [.rs (1,0) f,iN g,iN h],(.rs (1,0) [iN (-1),iN (2),iN (99),iN (100),iN (1000000000),iN (1000000001),iN (-1000000000),iN (-1000000001)])] fun i j=>
 asI .i64 i fun k=>unc j fun l m=>tk4 l fun n o p=>(unn m (some ((.agg [iN a1_0,iN k,.str a1_2,iN a1_3,iN a1_4]),[.op [.rs (1,0) n,iN o,iN p]]))))
 (
 br (c == 4)
 (
 jb V 75 [.op [.rs (1,0) f,iN g,iN h],(.rs (1,0) [.str ({ data:=#[] }),.str ({ data:=#[97] }),.str ({ data:=#[65,98] }),.str ({ data:=#[97,98,99,100,101,102,103,104,105,106,107,108] }),.str ({ data:=#[97,98,99,100,101,102,103,104,105,106,107,108,109] }),.str ({ data:=#[97,49] })])] fun i j=>
 asS i fun k=>unc j fun l m=>tk4 l fun n o p=>(unn m (some ((.agg [iN a1_0,iN a1_1,.str k,iN a1_3,iN a1_4]),[.op [.rs (1,0) n,iN o,iN p]]))))
 (some ((.agg [iN a1_0,iN a1_1,.str a1_2,iN a1_3,iN a1_4]),[.op [.rs (1,0) f,iN g,iN h]])))))))):=by
 exact (yD Tryz.func156 rfl _).trans (by kernel_rfl)
theorem Ib (a0_0:List D) (a0_1 a0_2:Int):V 192 [.op [.rs (1,0) a0_0,iN a0_1,iN a0_2]] =
 jb V 155 [.op [.rs (1,0) a0_0,iN a0_1,iN a0_2],iN (4)] fun a b=>
 asB a fun c=>unc b fun d e=>nC d fun f=>unc f fun g h=>kq (1,0) g fun i=>unc h fun j k=>asI .i64 j fun l=>unc k fun m n=>asI .i64 m fun o=>unn n (unn e (br (!c)
 (
 jb V 213 [] fun p q=>
 jl (1,0) p fun r=>unn q (jb V 75 [.op [.rs (1,0) i,iN l,iN o],.rs (1,0) r] fun s t=>
 asS s fun u=>unc t fun v w=>nC v fun x=>unc x fun y z=>kq (1,0) y fun A=>unc z fun B C=>asI .i64 B fun E=>unc C fun F G=>asI .i64 F fun H=>unn G (unn w (some ((.str u),[.op [.rs (1,0) A,iN E,iN H]])))))
 (
 jb V 214 [.op [.rs (1,0) i,iN l,iN o],iN (3)] fun p q=>
 asS p fun r=>unc q fun s t=>nC s fun u=>unc u fun v w=>kq (1,0) v fun x=>unc w fun y z=>asI .i64 y fun A=>unc z fun B C=>asI .i64 B fun E=>unn C (unn t (some ((.str r),[.op [.rs (1,0) x,iN A,iN E]])))))):=by
 exact (yD Tryz.func192 rfl _).trans (by kernel_rfl)
theorem KW (a0_0:List D) (a0_1 a0_2:Int) (a1_:List D):V 122 [.op [.rs (1,0) a0_0,iN a0_1,iN a0_2],.rs (1,0) a1_] =
 jb V 76 [.op [.rs (1,0) a0_0,iN a0_1,iN a0_2],(iN (ni a1_.length))] fun a b=>
 asI .i64 a fun c=>unc b fun d e=>nC d fun f=>unc f fun g h=>kq (1,0) g fun i=>unc h fun j k=>asI .i64 j fun l=>unc k fun m n=>asI .i64 m fun o=>unn n (unn e (grd (decide (0 <= c) && decide (c < ni a1_.length)) (cT a1_ c.toNat fun p=>
 asI .i64 p fun q=>some ((iN q),[.op [.rs (1,0) i,iN l,iN o]])))):=by
 exact (yD Tryz.func122 rfl _).trans (by kernel_rfl)
theorem Ci (p0:List D) (p1:ByteArray) (p2 p3:Int):Am p0 p1 p2 p3 =
 br (decide (p3 < p2))
 (
 grd (decide (0 <= p3) && decide (p3 < ni p0.length)) (cT p0 p3.toNat fun a=>
 UY a fun b c d=>(jb V 179 [.agg [.str b,iN c,iN d],(.bp [.str p1])] fun e f=>
 asB e fun g=>unn f (br g
 (some ((iN p3),[]))
 (Am p0 p1 p2 (w6 (p3 + 1)))))))
 (some ((iN (-1)),[])):=by
 exact (yC _ _ _).trans (by kernel_rfl)
theorem Jo (b:List D) (i:Int) (k:Bool) :V 190 [.op [.os (1,0) b,iN i,.bool k]] =
 jb V 209 [.rs (1,0) b,iN i] fun a c=>
 PQ a fun d e f=>(unn c (br (!f)
 (some ((.str ({ data:=#[] })),[.op [.os (1,0) b,iN i,.bool false]]))
 (some ((.str d),[.op [.os (1,0) b,iN e,.bool k]])))):=by
 exact (yD Tryz.func190 rfl _).trans (by kernel_rfl)
theorem Pj (a0_0 a1_:List D):V 86 [.agg [.rs (5,0) a0_0],.rs (1,0) a1_] =
 jb V 149 [.agg [.rs (5,0) a0_0],.rs (1,0) a1_] fun a b=>
 jl (1,0) a fun c=>unn b (jb V 148 [.op [.os (5,0) []],(.agg [.rs (5,0) a0_0]),.rs (1,0) c] fun d e=>
 jl (1,0) d fun f=>unc e fun g h=>nC g fun i=>unc i fun j k=>jl (5,0) j fun l=>unn k (unn h (Ce a1_ (0) f [] l))):=by
 exact (yD Tryz.func86 rfl _).trans (by kernel_rfl)
theorem DR (p0:Int) (p1 p2 p3:List D):BM p0 p1 p2 p3 =
 br (decide (p0 < ni p2.length))
 (
 jb V 127 [.agg [.rs (5,0) p1,.rs (4,0) p2,.rs (3,0) p3],iN p0] fun a b=>
 asB a fun c=>unn b (br (!c)
 (some ((.bool false),[]))
 (BM (w6 (p0 + 1)) p1 p2 p3)))
 (BQ (0) p1 p2 p3):=by
 exact (yC _ _ _).trans (by kernel_rfl)
theorem MU (a0_0 a1_:List D):V 193 [.agg [.rs (5,0) a0_0],.rs (1,0) a1_] =
 jb V 60 [.agg [.rs (5,0) a0_0]] fun a b=>
 asB a fun c=>unn b (br (!c)
 (some ((.tup [.agg [.os (5,0) [],.os (4,0) [],.os (3,0) []],iN (3),iN (0)]),[]))
 (Bj a1_ (0) a0_0)):=by
 exact (yD Tryz.func193 rfl _).trans (by kernel_rfl)
theorem J8 (a0_:Int):V 211 [.int .u8 a0_] =
 jb V 180 [.int .u8 a0_] fun a b=>
 asB a fun c=>unn b (br c
 (some ((.bool true),[]))
 (
 jb V 226 [.int .u8 a0_] fun d e=>
 asB d fun f=>unn e (br f
 (some ((.bool true),[]))
 (some ((.bool (a0_ == 35)),[]))))):=by
 exact (yD Tryz.func211 rfl _).trans (by kernel_rfl)
theorem MZ (a0_:ByteArray):V 139 [.str a0_] =
 jb V 69 [(iN (ni (ByteArray.size a0_)))] fun a b=>
 jl (1,0) a fun c=>unn b (grd (decide (ni (List.length (c++gU a0_)) <= LIM)) (nam (c++gU a0_) fun d=>
 some ((.os (1,0) d),[]))):=by
 exact (yD Tryz.func139 rfl _).trans (by kernel_rfl)
theorem Dw (a0_:List D) (a1_:Int):V 203 [.rs (1,0) a0_,.int .u8 a1_] =
 jb V 221 [.rs (1,0) a0_,.int .u8 a1_] fun a b=>
 asI .i64 a fun c=>unn b (some ((.bool (decide (c >= 0))),[])):=by
 exact (yD Tryz.func203 rfl _).trans (by kernel_rfl)
theorem Js (a0_0:List D) (a0_1 a0_2:Int):V 142 [.op [.rs (1,0) a0_0,iN a0_1,iN a0_2]] =
 zK (0) a0_0 a0_1 a0_2:=by
 exact (yD Tryz.func142 rfl _).trans (by kernel_rfl)
theorem Oz (a0_0:List D):V 55 [.agg [.rs (5,0) a0_0]] =
 BH a0_0 (ni a0_0.length) (0) a0_0:=by
 exact (yD Tryz.func55 rfl _).trans (by kernel_rfl)
theorem Tn (a0_:List D):V 12 [.rs (1,0) a0_] =
 some ((.bool (decide (ni a0_.length > 1048576))),[]):=by
 exact (yD Tryz.func12 rfl _).trans (by kernel_rfl)

end Go.Eng
/-! the functions as the interpreter has them -/
namespace Go.Eng
open Go.Proofs Go.Proofs.Tryz
set_option maxRecDepth 100000
theorem Dt (p0:Int) (p1 p2:List D):yU p0 p1 p2 =
 br (decide (p0 < ni p1.length))
 (
 grd (decide (0 <= p0) && decide (p0 < ni p1.length)) (cT p1 p0.toNat fun a=>
 tk1 a fun b c d e f=>(jb V 69 [iN b] fun g h=>
 jl (1,0) g fun i=>unn h (grd (decide (ni (List.length (p2++i)) <= LIM)) (nam (p2++i) fun j=>
 br (b == 2)
 (
 br (b == 2)
 (
 jb V 69 [iN c] fun k l=>
 jl (1,0) k fun m=>unn l (grd (decide (ni (List.length (j++m)) <= LIM)) (nam (j++m) fun n=>
 yU (w6 (p0 + 1)) p1 n)))
 (
 br (b == 3)
 (
 jb V 69 [(iN (w6 (c + 1000000000)))] fun k l=>
 jl (1,0) k fun m=>unn l (grd (decide (ni (List.length (j++m)) <= LIM)) (nam (j++m) fun n=>
 yU (w6 (p0 + 1)) p1 n)))
 (
 br (b == 4)
 (
 jb V 139 [.str d] fun k l=>
 jl (1,0) k fun m=>unn l (grd (decide (ni (List.length (j++m)) <= LIM)) (nam (j++m) fun n=>
 yU (w6 (p0 + 1)) p1 n)))
 (
 br (b == 5)
 (
 jb V 69 [iN e] fun k l=>
 jl (1,0) k fun m=>unn l (grd (decide (ni (List.length (j++m)) <= LIM)) (nam (j++m) fun n=>
 jb V 69 [iN f] fun o p=>
 jl (1,0) o fun q=>unn p (grd (decide (ni (List.length (n++q)) <= LIM)) (nam (n++q) fun r=>
 yU (w6 (p0 + 1)) p1 r)))))
 (
 br (b == 6)
 (
 jb V 69 [iN c] fun k l=>
 jl (1,0) k fun m=>unn l (grd (decide (ni (List.length (j++m)) <= LIM)) (nam (j++m) fun n=>
 jb V 69 [iN e] fun o p=>
 jl (1,0) o fun q=>unn p (grd (decide (ni (List.length (n++q)) <= LIM)) (nam (n++q) fun r=>
 yU (w6 (p0 + 1)) p1 r)))))
 (
 br (b == 7)
 (
 jb V 69 [iN e] fun k l=>
 jl (1,0) k fun m=>unn l (grd (decide (ni (List.length (j++m)) <= LIM)) (nam (j++m) fun n=>
 yU (w6 (p0 + 1)) p1 n)))
 (yU (w6 (p0 + 1)) p1 j)))))))
 (
 br (b == 8)
 (
 br (b == 8)
 (
 jb V 69 [iN c] fun k l=>
 jl (1,0) k fun m=>unn l (grd (decide (ni (List.length (j++m)) <= LIM)) (nam (j++m) fun n=>
 yU (w6 (p0 + 1)) p1 n)))
 (
 br (b == 3)
 (
 jb V 69 [(iN (w6 (c + 1000000000)))] fun k l=>
 jl (1,0) k fun m=>unn l (grd (decide (ni (List.length (j++m)) <= LIM)) (nam (j++m) fun n=>
 yU (w6 (p0 + 1)) p1 n)))
 (
 br (b == 4)
 (
 jb V 139 [.str d] fun k l=>
 jl (1,0) k fun m=>unn l (grd (decide (ni (List.length (j++m)) <= LIM)) (nam (j++m) fun n=>
 yU (w6 (p0 + 1)) p1 n)))
 (
 br (b == 5)
 (
 jb V 69 [iN e] fun k l=>
 jl (1,0) k fun m=>unn l (grd (decide (ni (List.length (j++m)) <= LIM)) (nam (j++m) fun n=>
 jb V 69 [iN f] fun o p=>
 jl (1,0) o fun q=>unn p (grd (decide (ni (List.length (n++q)) <= LIM)) (nam (n++q) fun r=>
 yU (w6 (p0 + 1)) p1 r)))))
 (
 br (b == 6)
 (
 jb V 69 [iN c] fun k l=>
 jl (1,0) k fun m=>unn l (grd (decide (ni (List.length (j++m)) <= LIM)) (nam (j++m) fun n=>
 jb V 69 [iN e] fun o p=>
 jl (1,0) o fun q=>unn p (grd (decide (ni (List.length (n++q)) <= LIM)) (nam (n++q) fun r=>
 yU (w6 (p0 + 1)) p1 r)))))
 (
 br (b == 7)
 (
 jb V 69 [iN e] fun k l=>
 jl (1,0) k fun m=>unn l (grd (decide (ni (List.length (j++m)) <= LIM)) (nam (j++m) fun n=>
 yU (w6 (p0 + 1)) p1 n)))
 (yU (w6 (p0 + 1)) p1 j)))))))
 (
 br (b == 9)
 (
 jb V 69 [iN c] fun k l=>
 jl (1,0) k fun m=>unn l (grd (decide (ni (List.length (j++m)) <= LIM)) (nam (j++m) fun n=>
 yU (w6 (p0 + 1)) p1 n)))
 (
 br (b == 3)
 (
 jb V 69 [(iN (w6 (c + 1000000000)))] fun k l=>
 jl (1,0) k fun m=>unn l (grd (decide (ni (List.length (j++m)) <= LIM)) (nam (j++m) fun n=>
 yU (w6 (p0 + 1)) p1 n)))
 (
 br (b == 4)
 (
 jb V 139 [.str d] fun k l=>
 jl (1,0) k fun m=>unn l (grd (decide (ni (List.length (j++m)) <= LIM)) (nam (j++m) fun n=>
 yU (w6 (p0 + 1)) p1 n)))
 (
 br (b == 5)
 (
 jb V 69 [iN e] fun k l=>
 jl (1,0) k fun m=>unn l (grd (decide (ni (List.length (j++m)) <= LIM)) (nam (j++m) fun n=>
 jb V 69 [iN f] fun o p=>
 jl (1,0) o fun q=>unn p (grd (decide (ni (List.length (n++q)) <= LIM)) (nam (n++q) fun r=>
 yU (w6 (p0 + 1)) p1 r)))))
 (
 br (b == 6)
 (
 jb V 69 [iN c] fun k l=>
 jl (1,0) k fun m=>unn l (grd (decide (ni (List.length (j++m)) <= LIM)) (nam (j++m) fun n=>
 jb V 69 [iN e] fun o p=>
 jl (1,0) o fun q=>unn p (grd (decide (ni (List.length (n++q)) <= LIM)) (nam (n++q) fun r=>
 yU (w6 (p0 + 1)) p1 r)))))
 (
 br (b == 7)
 (
 jb V 69 [iN e] fun k l=>
 jl (1,0) k fun m=>unn l (grd (decide (ni (List.length (j++m)) <= LIM)) (nam (j++m) fun n=>
 yU (w6 (p0 + 1)) p1 n)))
 (yU (w6 (p0 + 1)) p1 j)))))))))))))
 (some ((.os (1,0) p2),[])):=by
 exact (yC _ _ _).trans (by kernel_rfl)
theorem JT (p0:ByteArray) (p1 p2 p3:Int) (p4 p5 p6 p7:List D):zZ p0 p1 p2 p3 p4 p5 p6 p7 =
 br (decide (p1 < ni (ByteArray.size p0)))
 (
 grd (decide (0 <= p1) && decide (p1 < ni (ByteArray.size p0))) (jb V 211 [.int .u8 (bt p0 p1)] fun a b=>
 asB a fun c=>unn b (br c
 (zZ p0 (w6 (p1 + 1)) p2 p3 p4 p5 p6 p7)
 (
 grd (cW (ByteArray.size p0) (some p3) (some p1)) (jb V 212 [(.str (ByteArray.extract p0 p3.toNat p1.toNat))] fun d e=>
 iV d fun f=>unc f fun g h=>tk1 g fun i j k l m=>(unc h fun n o=>asB n fun p=>unn o (unn e (br (!p)
 (
 jb V 147 [.agg [.rs (5,0) p4]] fun q r=>
 asAgg q fun s=>unc s fun t u=>jl (5,0) t fun v=>unn u (unn r (some ((.tup [.agg [.os (5,0) v],.os (1,0) p5,iN (3),iN p3]),[]))))
 (
 grd (decide (0 <= p2) && decide (p2 < ni p6.length)) (cT p6 p2.toNat fun q=>
 asAgg q fun r=>cT r 1 fun s=>
 jl (1,0) s fun t=>asAgg q fun u=>jb V 158 [.op [.os (5,0) p7],.agg [iN i,iN j,.str k,iN l,iN m]] fun v w=>
 asI .i64 v fun x=>unc w fun y z=>nC y fun A=>unc A fun B C=>jl (5,0) B fun E=>unn C (unn z (grd (decide (ni (List.length (t++[iN x])) <= LIM)) (nam (t++[iN x]) fun F=>
 grd (decide (0 <= p2) && decide (p2 < ni (List.length (List.set p6 p2.toNat (D.agg (List.take 1 u++[D.dead]++List.drop 2 u)))))) (cT (List.set p6 p2.toNat (D.agg (List.take 1 u++[D.dead]++List.drop 2 u))) p2.toNat fun G=>
 asAgg G fun H=>nam (List.set (List.set p6 p2.toNat (D.agg (List.take 1 u++[D.dead]++List.drop 2 u))) p2.toNat
 (D.agg
 (List.take 1 H ++
 [D.os
 (TypeInfo.size (Tables.types (Program.toTables Tryz.prog))[3],
 match qU Tryz.prog (3) with
 | true=>0
 | false=>1)
 F] ++
 List.drop 2 H))) fun I=>
 y4 p0 p1 p4 p5 I E))))))))))))))
 (
 grd (cW (ByteArray.size p0) (some p3) (some p1)) (jb V 212 [(.str (ByteArray.extract p0 p3.toNat p1.toNat))] fun a b=>
 iV a fun c=>unc c fun d e=>tk1 d fun f g h i j=>(unc e fun k l=>asB k fun m=>unn l (unn b (br (!m)
 (
 jb V 147 [.agg [.rs (5,0) p4]] fun n o=>
 asAgg n fun p=>unc p fun q r=>jl (5,0) q fun s=>unn r (unn o (some ((.tup [.agg [.os (5,0) s],.os (1,0) p5,iN (3),iN p3]),[]))))
 (
 grd (decide (0 <= p2) && decide (p2 < ni p6.length)) (cT p6 p2.toNat fun n=>
 asAgg n fun o=>cT o 1 fun p=>
 jl (1,0) p fun q=>asAgg n fun r=>jb V 158 [.op [.os (5,0) p7],.agg [iN f,iN g,.str h,iN i,iN j]] fun s t=>
 asI .i64 s fun u=>unc t fun v w=>nC v fun x=>unc x fun y z=>jl (5,0) y fun A=>unn z (unn w (grd (decide (ni (List.length (q++[iN u])) <= LIM)) (nam (q++[iN u]) fun B=>
 grd (decide (0 <= p2) && decide (p2 < ni (List.length (List.set p6 p2.toNat (D.agg (List.take 1 r++[D.dead]++List.drop 2 r)))))) (cT (List.set p6 p2.toNat (D.agg (List.take 1 r++[D.dead]++List.drop 2 r))) p2.toNat fun C=>
 asAgg C fun E=>nam (List.set (List.set p6 p2.toNat (D.agg (List.take 1 r++[D.dead]++List.drop 2 r))) p2.toNat
 (D.agg
 (List.take 1 E ++
 [D.os
 (TypeInfo.size (Tables.types (Program.toTables Tryz.prog))[3],
 match qU Tryz.prog (3) with
 | true=>0
 | false=>1)
 B] ++
 List.drop 2 E))) fun F=>
 y4 p0 p1 p4 p5 F A))))))))))):=by
 exact (yC _ _ _).trans (by kernel_rfl)
theorem J6 (a0_0:List D) (a0_1 a0_2 a1_:Int):V 197 [.op [.rs (1,0) a0_0,iN a0_1,iN a0_2],iN a1_] =
 br (a1_ == 0)
 (
 jb V 201 [.op [.rs (1,0) a0_0,iN a0_1,iN a0_2]] fun a b=>
 asAgg a fun c=>unc c fun d e=>asI .i64 d fun f=>unc e fun g h=>asI .i64 g fun i=>unc h fun j k=>asS j fun l=>unc k fun m n=>asI .i64 m fun o=>unc n fun p q=>asI .i64 p fun r=>unn q (unc b fun s t=>nC s fun u=>unc u fun v w=>kq (1,0) v fun x=>unc w fun y z=>asI .i64 y fun A=>unc z fun B C=>asI .i64 B fun E=>unn C (unn t (some ((.agg [iN f,iN i,.str l,iN o,iN r]),[.op [.rs (1,0) x,iN A,iN E]])))))
 (
 jb V 155 [.op [.rs (1,0) a0_0,iN a0_1,iN a0_2],iN (2)] fun a b=>
 asB a fun c=>unc b fun d e=>nC d fun f=>unc f fun g h=>kq (1,0) g fun i=>unc h fun j k=>asI .i64 j fun l=>unc k fun m n=>asI .i64 m fun o=>unn n (unn e (br c
 (
 jb V 201 [.op [.rs (1,0) i,iN l,iN o]] fun p q=>
 asAgg p fun r=>unc r fun s t=>asI .i64 s fun u=>unc t fun v w=>asI .i64 v fun x=>unc w fun y z=>asS y fun A=>unc z fun B C=>asI .i64 B fun E=>unc C fun F G=>asI .i64 F fun H=>unn G (unc q fun I J=>nC I fun K=>unc K fun L M=>kq (1,0) L fun N=>unc M fun O P=>asI .i64 O fun Q=>unc P fun R S=>asI .i64 R fun T=>unn S (unn J (some ((.agg [iN u,iN x,.str A,iN E,iN H]),[.op [.rs (1,0) N,iN Q,iN T]])))))
 (
 jb V 116 [iN a1_,iN (5)] fun p q=>
 asI .i64 p fun r=>unn q (jb V 76 [.op [.rs (1,0) i,iN l,iN o],iN r] fun s t=>
 asI .i64 s fun u=>unc t fun v w=>nC v fun x=>unc x fun y z=>kq (1,0) y fun A=>unc z fun B C=>asI .i64 B fun E=>unc C fun F G=>asI .i64 F fun H=>unn G (unn w (jb V 76 [.op [.rs (1,0) A,iN E,iN H],iN (8)] fun I J=>
 asI .i64 I fun K=>unc J fun L M=>nC L fun N=>unc N fun O P=>kq (1,0) O fun Q=>unc P fun R S=>asI .i64 R fun T=>unc S fun U W=>asI .i64 U fun X=>unn W (unn M (br (K == 0)
 (
 jb V 76 [.op [.rs (1,0) Q,iN T,iN X],iN (9)] fun Y Z=>
 asI .i64 Y fun a0=>unc Z fun a1 a2=>nC a1 fun a3=>unc a3 fun a4 a5=>kq (1,0) a4 fun a6=>unc a5 fun a7 a8=>asI .i64 a7 fun a9=>unc a8 fun b0 b1=>asI .i64 b0 fun b2=>unn b1 (unn a2 (some ((.agg [iN (6),iN a0,.str ({ data:=#[] }),(iN (w6 (w6 (a1_ - 1) - u))),iN (0)]),[.op [.rs (1,0) a6,iN a9,iN b2]]))))
 (
 br (K == 1)
 (some ((.agg [iN (7),iN (0),.str ({ data:=#[] }),(iN (w6 (w6 (a1_ - 1) - u))),iN (0)]),[.op [.rs (1,0) Q,iN T,iN X]]))
 (
 jb V 116 [iN a1_,iN (4)] fun Y Z=>
 asI .i64 Y fun a0=>unn Z (jb V 76 [.op [.rs (1,0) Q,iN T,iN X],iN a0] fun a1 a2=>
 asI .i64 a1 fun a3=>unc a2 fun a4 a5=>nC a4 fun a6=>unc a6 fun a7 a8=>kq (1,0) a7 fun a9=>unc a8 fun b0 b1=>asI .i64 b0 fun b2=>unc b1 fun b3 b4=>asI .i64 b3 fun b5=>unn b4 (unn a5 (some ((.agg [iN (5),iN (0),.str ({ data:=#[] }),(iN (w6 (w6 (a1_ - 1) - u))),(iN (w6 (w6 (a1_ - 1) - a3)))]),[.op [.rs (1,0) a9,iN b2,iN b5]]))))))))))))))):=by
 exact (yD Tryz.func197 rfl _).trans (by kernel_rfl)
theorem Pa (a0_0 a0_1:Int) (a0_2:ByteArray) (a0_3 a0_4 a1_:Int):V 130 [.agg [iN a0_0,iN a0_1,.str a0_2,iN a0_3,iN a0_4],iN a1_] =
 jb V 62 [iN a0_3,iN (0),(iN (w6 (a1_ - 1)))] fun a b=>
 asB a fun c=>unn b (jb V 62 [iN a0_4,iN (0),(iN (w6 (a1_ - 1)))] fun d e=>
 asB d fun f=>unn e (br (a0_0 == 1)
 (some ((.bool (a0_0 == 1 && (a0_1 == 0 && (kc a0_2 { data:=#[] } && (a0_3 == 0 && (a0_4 == 0 && true)))))),[]))
 (
 br (a0_0 == 2)
 (
 jb V 62 [iN a0_1,iN (0),iN (1)] fun g h=>
 asB g fun i=>unn h (br i
 (some ((.bool (a0_0 == 2 && (a0_1 == a0_1 && (kc a0_2 { data:=#[] } && (a0_3 == 0 && (a0_4 == 0 && true)))))),[]))
 (some ((.bool false),[]))))
 (
 br (a0_0 == 3)
 (
 jb V 62 [iN a0_1,iN (-1000000000),iN (1000000000)] fun g h=>
 asB g fun i=>unn h (br i
 (some ((.bool (a0_0 == 3 && (a0_1 == a0_1 && (kc a0_2 { data:=#[] } && (a0_3 == 0 && (a0_4 == 0 && true)))))),[]))
 (some ((.bool false),[]))))
 (
 br (a0_0 == 4)
 (
 jb V 128 [.str a0_2] fun g h=>
 asB g fun i=>unn h (br i
 (some ((.bool (a0_0 == 4 && (a0_1 == 0 && (kc a0_2 a0_2 && (a0_3 == 0 && (a0_4 == 0 && true)))))),[]))
 (some ((.bool false),[]))))
 (
 br (a0_0 == 5)
 (
 br c
 (
 br f
 (
 br (a0_1 == 0)
 (some ((.bool (kc a0_2 { data:=#[] })),[]))
 (some ((.bool false),[])))
 (some ((.bool false),[])))
 (some ((.bool false),[])))
 (
 br (a0_0 == 6)
 (
 br c
 (
 jb V 62 [iN a0_1,iN (0),iN (1000000000)] fun g h=>
 asB g fun i=>unn h (br i
 (
 br (a0_4 == 0)
 (some ((.bool (kc a0_2 { data:=#[] })),[]))
 (some ((.bool false),[])))
 (some ((.bool false),[]))))
 (some ((.bool false),[])))
 (
 br (a0_0 == 7)
 (
 br c
 (
 br (a0_1 == 0)
 (
 br (a0_4 == 0)
 (some ((.bool (kc a0_2 { data:=#[] })),[]))
 (some ((.bool false),[])))
 (some ((.bool false),[])))
 (some ((.bool false),[])))
 (
 br (a0_0 == 8)
 (
 jb V 62 [iN a0_1,iN (0),iN (99)] fun g h=>
 asB g fun i=>unn h (br i
 (some ((.bool (a0_0 == 8 && (a0_1 == a0_1 && (kc a0_2 { data:=#[] } && (a0_3 == 0 && (a0_4 == 0 && true)))))),[]))
 (some ((.bool false),[]))))
 (
 br (a0_0 == 9)
 (
 jb V 62 [iN a0_1,iN (0),iN (1000000000)] fun g h=>
 asB g fun i=>unn h (br i
 (some ((.bool (a0_0 == 9 && (a0_1 == a0_1 && (kc a0_2 { data:=#[] } && (a0_3 == 0 && (a0_4 == 0 && true)))))),[]))
 (some ((.bool false),[]))))
 (some ((.bool false),[])))))))))))):=by
 exact (yD Tryz.func130 rfl _).trans (by kernel_rfl)
theorem KM (a0_0 a0_1 a0_2 a1_0:List D) (a1_1 a1_2 a1_3 a1_4 a1_5 a1_6 a1_7:Int):V 14 [.agg [.rs (5,0) a0_0,.rs (4,0) a0_1,.rs (3,0) a0_2],.agg [.rs (5,0) a1_0,iN a1_1,iN a1_2,iN a1_3,iN a1_4,iN a1_5,iN a1_6,iN a1_7]] =
 jb V 54 [.agg [.rs (5,0) a0_0,.rs (4,0) a0_1,.rs (3,0) a0_2]] fun a b=>
 asB a fun c=>unn b (br (!c)
 (some ((.bool false),[]))
 (
 jb V 55 [.agg [.rs (5,0) a1_0]] fun d e=>
 asB d fun f=>unn e (br (!f)
 (some ((.bool false),[]))
 (
 jb V 56 [.agg [.rs (5,0) a1_0],iN a1_2] fun g h=>
 asB g fun i=>unn h (br (!i)
 (some ((.bool false),[]))
 (
 jb V 56 [.agg [.rs (5,0) a1_0],iN a1_3] fun j k=>
 asB j fun l=>unn k (br (!l)
 (some ((.bool false),[]))
 (
 jb V 56 [.agg [.rs (5,0) a1_0],iN a1_4] fun m n=>
 asB m fun o=>unn n (br (!o)
 (some ((.bool false),[]))
 (
 br (a1_5 == 0)
 (
 jb V 57 [.agg [.rs (5,0) a0_0,.rs (4,0) a0_1,.rs (3,0) a0_2],iN a1_1] fun p q=>
 asB p fun r=>unn q (br r
 (
 br (a1_6 == 0)
 (some ((.bool (a1_7 == 0)),[]))
 (some ((.bool false),[])))
 (some ((.bool false),[]))))
 (
 br (a1_5 == 1)
 (
 jb V 57 [.agg [.rs (5,0) a0_0,.rs (4,0) a0_1,.rs (3,0) a0_2],iN a1_1] fun p q=>
 asB p fun r=>unn q (br r
 (
 jb V 58 [iN a1_6,iN (13),iN (19)] fun s t=>
 asB s fun u=>unn t (br u
 (
 br (a1_6 != 18)
 (
 jb V 56 [.agg [.rs (5,0) a1_0],iN a1_7] fun v w=>
 asB v fun x=>unn w (some ((.bool x),[])))
 (some ((.bool false),[])))
 (some ((.bool false),[]))))
 (some ((.bool false),[]))))
 (
 br (a1_5 == 2)
 (
 br (a1_1 == 0)
 (
 br (a1_6 == 0)
 (
 jb V 56 [.agg [.rs (5,0) a1_0],iN a1_7] fun p q=>
 asB p fun r=>unn q (some ((.bool r),[])))
 (some ((.bool false),[])))
 (some ((.bool false),[])))
 (
 br (a1_5 == 3)
 (
 br (a1_1 == 0)
 (
 jb V 58 [iN a1_6,iN (1),iN (7)] fun p q=>
 asB p fun r=>unn q (br r
 (some ((.bool (a1_7 == 0)),[]))
 (some ((.bool false),[]))))
 (some ((.bool false),[])))
 (some ((.bool false),[]))))))))))))))):=by
 exact (yD Tryz.func14 rfl _).trans (by kernel_rfl)
theorem Fh (p0 p1:ByteArray) (p2 p3:Int):zN p0 p1 p2 p3 =
 br (decide (p3 < ni (ByteArray.size p1)))
 (
 grd (decide (0 <= p3) && decide (p3 < ni (ByteArray.size p1))) (jb V 226 [.int .u8 (bt p1 p3)] fun a b=>
 asB a fun c=>unn b (br (!c)
 (some ((.tup [iN (0),.bool false]),[]))
 (grd (decide (0 <= p3) && decide (p3 < ni (ByteArray.size p1))) (zN p0 p1 (w6 (w6 (w6 (10 * p2) + w6 (bt p1 p3)) - 48)) (w6 (p3 + 1)))))))
 (
 br (ni (ByteArray.size p1) != ni (ByteArray.size p0))
 (
 jb V 202 [(iN (w6 (0 - p2)))] fun a b=>
 asS a fun c=>unn b (br (kc c p0)
 (
 jb V 62 [(iN (w6 (0 - p2))),iN (-1000000000),iN (1000000000)] fun d e=>
 asB d fun f=>unn e (some ((.tup [(iN (w6 (0 - p2))),.bool f]),[])))
 (some ((.tup [(iN (w6 (0 - p2))),.bool false]),[]))))
 (
 jb V 202 [iN p2] fun a b=>
 asS a fun c=>unn b (br (kc c p0)
 (
 jb V 62 [iN p2,iN (-1000000000),iN (1000000000)] fun d e=>
 asB d fun f=>unn e (some ((.tup [iN p2,.bool f]),[])))
 (some ((.tup [iN p2,.bool false]),[]))))):=by
 exact (yC _ _ _).trans (by kernel_rfl)
theorem KO (a0_:ByteArray):V 146 [.str a0_] =
 jb V 72 [.op [.os (1,0) (gU a0_),iN (0),.bool true]] fun a b=>
 asAgg a fun c=>unc c fun d e=>jl (5,0) d fun f=>unn e (unc b fun g h=>za g fun _ _ i=>(unn h (jb V 195 [.agg [.rs (5,0) f],(iN (w6 (ni f.length - 1)))] fun j k=>
 tk6 j fun l m=>(unn k (br (!i)
 (some ((.tup [.agg [.os (5,0) []],iN (0),.bool false]),[]))
 (
 br (!m)
 (some ((.tup [.agg [.os (5,0) []],iN (0),.bool false]),[]))
 (
 br (!kc l a0_)
 (some ((.tup [.agg [.os (5,0) []],iN (0),.bool false]),[]))
 (some ((.tup [.agg [.os (5,0) f],(iN (w6 (ni f.length - 1))),.bool true]),[]))))))))):=by
 exact (yD Tryz.func146 rfl _).trans (by kernel_rfl)
theorem GZ (p0:Int) (p1 p2:List D):AL p0 p1 p2 =
 grd (decide (0 <= p0) && decide (p0 < ni p1.length)) (cT p1 p0.toNat fun a=>
 asAgg a fun b=>cT b 0 fun c=>
 asI .i64 c fun d=>br (d == 5)
 (
 grd (decide (0 <= p0) && decide (p0 < ni p1.length)) (cT p1 p0.toNat fun e=>
 asAgg e fun f=>cT f 3 fun g=>
 asI .i64 g fun h=>grd (decide (ni (List.length (p2++[iN h])) <= LIM)) (nam (p2++[iN h]) fun i=>
 grd (decide (0 <= p0) && decide (p0 < ni p1.length)) (cT p1 p0.toNat fun j=>
 asAgg j fun k=>cT k 4 fun l=>
 asI .i64 l fun m=>AL m p1 i))))
 (
 grd (decide (0 <= p0) && decide (p0 < ni p1.length)) (cT p1 p0.toNat fun e=>
 asAgg e fun f=>cT f 0 fun g=>
 asI .i64 g fun h=>br (h != 1)
 (some ((.tup [.os (1,0) [],.bool false]),[]))
 (some ((.tup [.os (1,0) p2,.bool true]),[]))))):=by
 exact (yC _ _ _).trans (by kernel_rfl)
theorem MI (a0_:List D) (a1_:Int):V 209 [.rs (1,0) a0_,iN a1_] =
 jb V 140 [.rs (1,0) a0_,iN a1_] fun a b=>
 TU a fun c d e=>(unn b (br (!e)
 (some ((.tup [.str ({ data:=#[] }),iN (0),.bool false]),[]))
 (
 br (decide (c > w6 (ni a0_.length - d)))
 (some ((.tup [.str ({ data:=#[] }),iN (0),.bool false]),[]))
 (grd (cW a0_.length (some d) (some (w6 (d + c)))) (gy (wu (wt a0_ (w6 (d + c))) d) fun f=>some ((.tup [.str f,(iN (w6 (d + c))),.bool true]),[])))))):=by
 exact (yD Tryz.func209 rfl _).trans (by kernel_rfl)
theorem Fj (p0:List D) (p1:ByteArray) (p2 p3:Int):Cr p0 p1 p2 p3 =
 grd (decide (0 <= p2) && decide (p2 < ni p0.length)) (cT p0 p2.toNat fun a=>
 kq (1,0) a fun b=>br (decide (p3 < ni b.length))
 (
 grd (decide (0 <= p2) && decide (p2 < ni p0.length)) (cT p0 p2.toNat fun c=>
 kq (1,0) c fun d=>grd (decide (0 <= p3) && decide (p3 < ni d.length)) (cT d p3.toNat fun e=>
 asS e fun f=>br (kc f p1)
 (some ((.tup [iN p2,iN p3]),[]))
 (Cr p0 p1 p2 (w6 (p3 + 1))))))
 (AY p0 p1 (w6 (p2 + 1)))):=by
 exact (yC _ _ _).trans (by kernel_rfl)
theorem Je (p0:Int) (p1:List D):BJ p0 p1 =
 br (decide (p0 > 127))
 (
 grd (!decide (128 = 0)) (grd (decide (ni (List.length (p1++[D.int IntKind.u8 (IntKind.wrap IntKind.u8 (w6 (Int.tmod p0 (128) + 128)))])) <= LIM)) (nam (p1++[D.int IntKind.u8 (IntKind.wrap IntKind.u8 (w6 (Int.tmod p0 (128) + 128)))]) fun a=>
 grd (!decide (128 = 0)) (BJ (w6 (Int.tdiv p0 (128))) a))))
 (
 grd (decide (ni (List.length (p1++[D.int IntKind.u8 (IntKind.wrap IntKind.u8 p0)])) <= LIM)) (nam (p1++[D.int IntKind.u8 (IntKind.wrap IntKind.u8 p0)]) fun a=>
 some ((.os (1,0) a),[]))):=by
 exact (yC _ _ _).trans (by kernel_rfl)
theorem D4 (p0:List D) (p1 p2:Int) (p3:List D):BZ p0 p1 p2 p3 =
 br (decide (p2 >= 0))
 (
 grd (decide (0 <= p2) && decide (p2 < ni p0.length)) (cT p0 p2.toNat fun a=>
 asI .i64 a fun b=>jb V 158 [.op [.os (5,0) p3],(.agg [iN (5),iN (0),.str ({ data:=#[] }),iN b,iN p1])] fun c d=>
 asI .i64 c fun e=>unc d fun f g=>nC f fun h=>unc h fun i j=>jl (5,0) i fun k=>unn j (unn g (BZ p0 e (w6 (p2 - 1)) k))))
 (some ((iN p1),[.op [.os (5,0) p3]])):=by
 exact (yC _ _ _).trans (by kernel_rfl)
theorem Ly (p:List D) (k n:Int) (s:ByteArray) (a b:Int):V 157 [.op [.os (5,0) p],.agg [iN k,iN n,.str s,iN a,iN b]] =
 grd (decide (ni (List.length (p++[D.agg [iN k,iN n,D.str s,iN a,iN b]])) <= LIM)) (nam (p++[D.agg [iN k,iN n,D.str s,iN a,iN b]]) fun c=>
 some ((iN (w6 (ni c.length - 1))),[.op [.os (5,0) c]])):=by
 exact (yD Tryz.func157 rfl _).trans (by kernel_rfl)
theorem J3 (b:List D) (i:Int) (k:Bool) :V 71 [.op [.os (1,0) b,iN i,.bool k]] =
 jb V 140 [.rs (1,0) b,iN i] fun a c=>
 TU a fun d e f=>(unn c (br (!f)
 (some ((iN (0)),[.op [.os (1,0) b,iN i,.bool false]]))
 (some ((iN d),[.op [.os (1,0) b,iN e,.bool k]])))):=by
 exact (yD Tryz.func71 rfl _).trans (by kernel_rfl)
theorem Jr (a0_0:List D) (a0_1 a0_2:Int):V 154 [.op [.rs (1,0) a0_0,iN a0_1,iN a0_2]] =
 jb V 76 [.op [.rs (1,0) a0_0,iN a0_1,iN a0_2],iN (16)] fun a b=>
 asI .i64 a fun c=>unc b fun d e=>nC d fun f=>unc f fun g h=>kq (1,0) g fun i=>unc h fun j k=>asI .i64 j fun l=>unc k fun m n=>asI .i64 m fun o=>unn n (unn e (CU c (0) i l o)):=by
 exact (yD Tryz.func154 rfl _).trans (by kernel_rfl)
theorem OL (a0_0 a0_1 a0_2:List D):V 59 [.agg [.rs (5,0) a0_0,.rs (4,0) a0_1,.rs (3,0) a0_2]] =
 jb V 60 [.agg [.rs (5,0) a0_0]] fun a b=>
 asB a fun c=>unn b (br (!c)
 (some ((.bool false),[]))
 (
 br (decide (ni a0_1.length > 400))
 (some ((.bool false),[]))
 (
 br (decide (ni a0_2.length > 20))
 (some ((.bool false),[]))
 (BM (0) a0_0 a0_1 a0_2)))):=by
 exact (yD Tryz.func59 rfl _).trans (by kernel_rfl)
theorem Au (p0:List D) (p1 p2 p3:Int):zy p0 p1 p2 p3 =
 br (decide (p3 < p2))
 (
 grd (decide (0 <= p3) && decide (p3 < ni p0.length)) (cT p0 p3.toNat fun a=>
 asI .u8 a fun b=>br (p1 == b)
 (some ((iN p3),[]))
 (zy p0 p1 p2 (w6 (p3 + 1)))))
 (some ((iN (-1)),[])):=by
 exact (yC _ _ _).trans (by kernel_rfl)
theorem Pi (p q t:List D):V 148 [.op [.os (5,0) p],.agg [.rs (5,0) q],.rs (1,0) t] =
 grd (decide (0 <= ni q.length) && decide (ni q.length <= LIM)) (zu t (0) q (List.replicate (Int.toNat (ni q.length)) (iN (0))) p):=by
 exact (yD Tryz.func148 rfl _).trans (by kernel_rfl)
theorem ML (a0_:ByteArray):V 138 [.str a0_] =
 jb V 67 [(iN (ni (ByteArray.size a0_)))] fun a b=>
 jl (1,0) a fun c=>unn b (grd (decide (ni (List.length (c++gU a0_)) <= LIM)) (nam (c++gU a0_) fun d=>
 some ((.os (1,0) d),[]))):=by
 exact (yD Tryz.func138 rfl _).trans (by kernel_rfl)
theorem OJ (a0_ a1_ a2_:Int):V 58 [iN a0_,iN a1_,iN a2_] =
 br (decide (a0_ >= a1_))
 (some ((.bool (decide (a0_ <= a2_))),[]))
 (some ((.bool false),[])):=by
 exact (yD Tryz.func58 rfl _).trans (by kernel_rfl)
theorem Na (a0_:Int):V 226 [.int .u8 a0_] =
 br (decide (a0_ >= 48))
 (some ((.bool (decide (a0_ <= 57))),[]))
 (some ((.bool false),[])):=by
 exact (yD Tryz.func226 rfl _).trans (by kernel_rfl)
end Go.Eng
