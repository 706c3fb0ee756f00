/- the program and the reference on plain data, part 1 -/
import Derived.Test.YtkndfhaehnfnmaaGreatEngC
import Derived.Test.YtkndfhaehnfnmaaGreatProg
/-! bytes,texts,digits: plain facts -/
namespace Go.Eng
noncomputable section

def mk (l : List UInt8) : ByteArray := ⟨l.toArray⟩
theorem yO (l : List UInt8) : (mk l).size = l.length := by simp [mk,ByteArray.size]
theorem AV (a b : List UInt8) : mk a ++ mk b = mk (a ++ b) := by
 apply ByteArray.ext
 simp [mk]
theorem Qz (l : List UInt8) : (mk l).data.toList = l := by simp [mk]
theorem RN (s : ByteArray) : mk s.data.toList = s := by
 apply ByteArray.ext
 simp [mk]
theorem mk_inj {a b : List UInt8} : mk a = mk b ↔ a = b := by
 constructor
 ·intro h
  have := congrArg (fun s => s.data.toList) h
  simpa [Qz] using this
 ·rintro rfl; rfl
theorem Lm (s : ByteArray) : ∀ (k i : Nat) (acc : List UInt8),k = s.size - i -> ByteArray.toList.loop s i acc = acc.reverse ++ s.data.toList.drop i
 | 0,i,acc,h => by
  unfold ByteArray.toList.loop
  have hs : s.data.toList.length = s.size := by rw [Array.length_toList]; rfl
  rw [if_neg (by omega),List.drop_of_length_le (by omega),List.append_nil]
 | k + 1,i,acc,h => by
  unfold ByteArray.toList.loop
  have hs : s.data.toList.length = s.size := by rw [Array.length_toList]; rfl
  rw [if_pos (by omega),Lm s k (i + 1) _ (by omega)]
  have hi : i < s.data.toList.length := by omega
  rw [List.drop_eq_getElem_cons hi]
  have hi' : i < s.data.size := by simpa using hi
  have hg : s.get! i = s.data.toList[i] := by
   show s.data[i]! = _
   rw [getElem!_pos s.data i hi',Array.getElem_toList]
  rw [hg]
  simp
theorem Lk (s : ByteArray) : s.toList = s.data.toList := by
 have := Lm s s.size 0 [] (by omega)
 rw [List.reverse_nil,List.nil_append,List.drop_zero] at this
 exact this
theorem Cm (x y : ByteArray) : kc x y = decide (x = y) := by
 unfold kc
 rw [Lk,Lk]
 by_cases h : x = y
 ·subst h; simp
 ·have h2 : ¬ x.data.toList = y.data.toList := by
   intro e; apply h; rw [<- RN x,<- RN y,e]
  rw [decide_eq_false h]
  exact beq_eq_false_iff_ne.2 h2
theorem J8 (a b : List UInt8) : kc (mk a) (mk b) = decide (a = b) := by
 rw [Cm]; simp only [mk_inj]
abbrev eU (b : UInt8) : D := .int .u8 (b.toNat : Int)
theorem OI {l : List UInt8} {i : Nat} {x : UInt8} (h : l[i]? = some x) : bt (mk l) (i : Int) = (x.toNat : Int) := by
 simp only [bt,Qz,Int.toNat_natCast]
 rw [List.getD_eq_getElem?_getD,h]; rfl
theorem DT (l : List UInt8) (a b : Nat) : (mk l).extract a b = mk ((l.drop a).take (b - a)) := by
 apply ByteArray.ext
 simp [mk,ByteArray.data_extract,List.extract_eq_take_drop]
theorem UT (l : List UInt8) : gU (mk l) = l.map eU := by simp [gU,Qz]
theorem TH {R : Type} (l : List UInt8) (K : ByteArray -> Option R) : gy (l.map eU) K = K (mk l) := by
 have hm : ∀ (f : D -> Option UInt8),(∀ x : UInt8,f (eU x) = some x) -> ∀ l : List UInt8,(l.map eU).mapM f = some l := by
  intro f hf l
  induction l with
  | nil => rfl
  | cons x l ih => rw [List.map_cons,List.mapM_cons,hf,ih]; rfl
 unfold gy
 rw [hm _ (fun x => by simp [])]; rfl
theorem TJ {R : Type} (n : Int) (K : ByteArray -> Option R) : gy [.int .u8 n] K = K (mk [UInt8.ofNat n.toNat]) := rfl
theorem Xg {n : Int} (h0 : 0 <= n) (h1 : n < 256) : IntKind.wrap .u8 n = n := by
 simp [IntKind.wrap,IntKind.bits,IntKind.signed]; omega

def Ef (n : Nat) : List UInt8 := if n < 10 then [UInt8.ofNat (48 + n)] else Ef (n / 10) ++ [UInt8.ofNat (48 + n % 10)]
termination_by n
def Ch (n : Int) : List UInt8 := if n < 0 then 45 :: Ef n.natAbs else Ef n.natAbs
theorem zJ {n : Nat} (h : n < 10) : Ef n = [UInt8.ofNat (48 + n)] := by rw [Ef,if_pos h]
theorem DQ {n : Nat} (h : ¬ n < 10) : Ef n = Ef (n / 10) ++ [UInt8.ofNat (48 + n % 10)] := by rw [Ef,if_neg h]
theorem LY : ∀ (k n : Nat),n < 10 ^ (k + 1) -> (Ef n).length <= k + 1
 | 0,n,h => by rw [zJ (by simpa using h)]; simp
 | k + 1,n,h => by
  by_cases h10 : n < 10
  ·rw [zJ h10]; simp
  ·rw [DQ h10]
   have := LY k (n / 10) (by rw [Nat.pow_succ] at h; omega)
   simp; omega
theorem VJ (n : Nat) : 0 < (Ef n).length := by
 by_cases h10 : n < 10
 ·rw [zJ h10]; simp
 ·rw [DQ h10]; simp
theorem PP {n : Int} (h0 : 0 <= n) (h1 : n < 10) : Utf8.encode (48 + n) = mk [UInt8.ofNat (48 + n).toNat] := by
 obtain ⟨k,rfl⟩ := Int.eq_ofNat_of_zero_le h0
 have : k = 0 \/ k = 1 \/ k = 2 \/ k = 3 \/ k = 4 \/ k = 5 \/ k = 6 \/ k = 7 \/ k = 8 \/ k = 9 := by omega
 rcases this with rfl | rfl | rfl | rfl | rfl | rfl | rfl | rfl | rfl | rfl <;> rfl
end
end Go.Eng
/-! the functions as the interpreter has them: loop heads -/
namespace Go.Eng
noncomputable section
open Go.Proofs Go.Proofs.Tryz
set_option maxRecDepth 100000
def cf0:Cfg:={ ext:=fun _=>none,own:=fun f=>match f with | 13=>false | 23=>false | 27=>false | 30=>false | 43=>false | 44=>false | 51=>false | 52=>false | 112=>false | _=>true,mode:=fun f i=>match f,i with | 40,0=>.mut | 41,0=>.mut | 49,0=>.mut | 108,0=>.mut | 109,0=>.mut | 110,0=>.mut | 169,0=>.mut | 183,0=>.mut | 73,0=>.mv | 162,0=>.mv | 101,1=>.mv | 172,2=>.mv | _,_=>.ro }
abbrev iN:Int->D:=D.int IntKind.i64
abbrev tk1 {R:Type} (x:D) (K:List D->List D->List D->Int->Option R):Option R:=nC x fun l=>unc l fun x0 l0=>jl (5,0) x0 fun v0=>unc l0 fun x1 l1=>jl (4,0) x1 fun v1=>unc l1 fun x2 l2=>jl (3,0) x2 fun v2=>unc l2 fun x3 l3=>asI .i64 x3 fun v3=>unn l3 (K v0 v1 v2 v3)
@[congr] theorem Yr {R:Type} {x y:D} (h:x = y) (K:_):tk1 (R:=R) x K = tk1 y K:=by rw [h]
abbrev tk2 {R:Type} (x:D) (K:List D->Bool->Option R):Option R:=iV x fun l=>unc l fun x0 l0=>jl (1,0) x0 fun v0=>unc l0 fun x1 l1=>asB x1 fun v1=>unn l1 (K v0 v1)
@[congr] theorem Yu {R:Type} {x y:D} (h:x = y) (K:_):tk2 (R:=R) x K = tk2 y K:=by rw [h]
abbrev tk3 {R:Type} (x:D) (K:List D->Int->Int->Option R):Option R:=nC x fun l=>unc l fun x0 l0=>kq (1,0) x0 fun v0=>unc l0 fun x1 l1=>asI .i64 x1 fun v1=>unc l1 fun x2 l2=>asI .i64 x2 fun v2=>unn l2 (K v0 v1 v2)
@[congr] theorem Yv {R:Type} {x y:D} (h:x = y) (K:_):tk3 (R:=R) x K = tk3 y K:=by rw [h]
abbrev tk4 {R:Type} (x:D) (K:Int->Bool->Option R):Option R:=iV x fun l=>unc l fun x0 l0=>asI .i64 x0 fun v0=>unc l0 fun x1 l1=>asB x1 fun v1=>unn l1 (K v0 v1)
@[congr] theorem Yw {R:Type} {x y:D} (h:x = y) (K:_):tk4 (R:=R) x K = tk4 y K:=by rw [h]
abbrev tk5 {R:Type} (x:D) (K:List D->Int->Int->Int->Int->Int->Int->Int->Option R):Option R:=nC x fun l=>unc l fun x0 l0=>jl (5,0) x0 fun v0=>unc l0 fun x1 l1=>asI .i64 x1 fun v1=>unc l1 fun x2 l2=>asI .i64 x2 fun v2=>unc l2 fun x3 l3=>asI .i64 x3 fun v3=>unc l3 fun x4 l4=>asI .i64 x4 fun v4=>unc l4 fun x5 l5=>asI .i64 x5 fun v5=>unc l5 fun x6 l6=>asI .i64 x6 fun v6=>unc l6 fun x7 l7=>asI .i64 x7 fun v7=>unn l7 (K v0 v1 v2 v3 v4 v5 v6 v7)
@[congr] theorem Yx {R:Type} {x y:D} (h:x = y) (K:_):tk5 (R:=R) x K = tk5 y K:=by rw [h]
abbrev tk6 {R:Type} (x:D) (K:Int->Int->ByteArray->Int->Int->Option R):Option R:=asAgg x fun l=>unc l fun x0 l0=>asI .i64 x0 fun v0=>unc l0 fun x1 l1=>asI .i64 x1 fun v1=>unc l1 fun x2 l2=>asS x2 fun v2=>unc l2 fun x3 l3=>asI .i64 x3 fun v3=>unc l3 fun x4 l4=>asI .i64 x4 fun v4=>unn l4 (K v0 v1 v2 v3 v4)
@[congr] theorem Yz {R:Type} {x y:D} (h:x = y) (K:_):tk6 (R:=R) x K = tk6 y K:=by rw [h]
abbrev tk7 {R:Type} (x:D) (K:List D->Int->Int->Int->Int->Int->Int->Int->Option R):Option R:=asAgg x fun l=>unc l fun x0 l0=>jl (5,0) x0 fun v0=>unc l0 fun x1 l1=>asI .i64 x1 fun v1=>unc l1 fun x2 l2=>asI .i64 x2 fun v2=>unc l2 fun x3 l3=>asI .i64 x3 fun v3=>unc l3 fun x4 l4=>asI .i64 x4 fun v4=>unc l4 fun x5 l5=>asI .i64 x5 fun v5=>unc l5 fun x6 l6=>asI .i64 x6 fun v6=>unc l6 fun x7 l7=>asI .i64 x7 fun v7=>unn l7 (K v0 v1 v2 v3 v4 v5 v6 v7)
@[congr] theorem YA {R:Type} {x y:D} (h:x = y) (K:_):tk7 (R:=R) x K = tk7 y K:=by rw [h]
abbrev tk8 {R:Type} (x:D) (K:ByteArray->Bool->Option R):Option R:=iV x fun l=>unc l fun x0 l0=>asS x0 fun v0=>unc l0 fun x1 l1=>asB x1 fun v1=>unn l1 (K v0 v1)
@[congr] theorem YB {R:Type} {x y:D} (h:x = y) (K:_):tk8 (R:=R) x K = tk8 y K:=by rw [h]
abbrev tk9 {R:Type} (x:D) (K:Int->Int->Option R):Option R:=iV x fun l=>unc l fun x0 l0=>asI .i64 x0 fun v0=>unc l0 fun x1 l1=>asI .i64 x1 fun v1=>unn l1 (K v0 v1)
@[congr] theorem YC {R:Type} {x y:D} (h:x = y) (K:_):tk9 (R:=R) x K = tk9 y K:=by rw [h]
abbrev Wk {R:Type} (x:D) (K:Int->List D->Bool->Option R):Option R:=iV x fun l=>unc l fun x0 l0=>asI .i64 x0 fun v0=>unc l0 fun x1 l1=>jl (1,0) x1 fun v1=>unc l1 fun x2 l2=>asB x2 fun v2=>unn l2 (K v0 v1 v2)
@[congr] theorem Ym {R:Type} {x y:D} (h:x = y) (K:_):Wk (R:=R) x K = Wk y K:=by rw [h]
abbrev Xz {R:Type} (x:D) (K:List D->List D->List D->Option R):Option R:=asAgg x fun l=>unc l fun x0 l0=>jl (5,0) x0 fun v0=>unc l0 fun x1 l1=>jl (4,0) x1 fun v1=>unc l1 fun x2 l2=>jl (3,0) x2 fun v2=>unn l2 (K v0 v1 v2)
@[congr] theorem Yn {R:Type} {x y:D} (h:x = y) (K:_):Xz (R:=R) x K = Xz y K:=by rw [h]
abbrev Wl {R:Type} (x:D) (K:ByteArray->Int->Int->Option R):Option R:=asAgg x fun l=>unc l fun x0 l0=>asS x0 fun v0=>unc l0 fun x1 l1=>asI .i64 x1 fun v1=>unc l1 fun x2 l2=>asI .i64 x2 fun v2=>unn l2 (K v0 v1 v2)
@[congr] theorem Yo {R:Type} {x y:D} (h:x = y) (K:_):Wl (R:=R) x K = Wl y K:=by rw [h]
abbrev Vt {R:Type} (x:D) (K:Int->Int->Int->ByteArray->Option R):Option R:=asAgg x fun l=>unc l fun x0 l0=>asI .i64 x0 fun v0=>unc l0 fun x1 l1=>asI .i64 x1 fun v1=>unc l1 fun x2 l2=>asI .i64 x2 fun v2=>unc l2 fun x3 l3=>asS x3 fun v3=>unn l3 (K v0 v1 v2 v3)
@[congr] theorem Yp {R:Type} {x y:D} (h:x = y) (K:_):Vt (R:=R) x K = Vt y K:=by rw [h]
abbrev Cr {R:Type} (x:D) (K:List D->List D->Option R):Option R:=nC x fun l=>unc l fun x0 l0=>kq (5,0) x0 fun v0=>unc l0 fun x1 l1=>jl (1,0) x1 fun v1=>unn l1 (K v0 v1)
@[congr] theorem Yq {R:Type} {x y:D} (h:x = y) (K:_):Cr (R:=R) x K = Cr y K:=by rw [h]
abbrev uu : A := .undef
abbrev V:=Vn Tryz.prog cf0
abbrev R:=Rn Tryz.prog cf0
def DG (p0 p1 p2 p3 p4 p5 p6 p7:Int) (p8:List D) (p9 p10:Int) (p11 p12 p13 p14:List D) (p15 p16 p17 p18 p19 p20 p21:Int):Option Ret:=R 30 Tryz.f30 [] (yv Tryz.f30 4) ⟨[uu,uu,.ref 0 0 0,.ref 1 0 0,.ref 2 0 0,uu,.ref 3 0 0,.ref 4 0 0,.ref 5 0 0,.d (iN p0),uu,uu,uu,uu,uu,uu,uu,uu,uu,uu,uu,uu,uu,uu,uu,uu,uu,uu,uu,uu,uu,uu,uu,uu,uu,uu,uu,uu],[(0,some (.var [.d .nl,.d .nl,.d .nl])),(1,some (.var [.d .nl,.d (iN p1),.d (iN p2),.d (iN p3),.d (iN p4),.d (iN p5),.d (iN p6),.d (iN p7)])),(2,some (.var [.d .nl])),(3,some (.var [.d (.rs (1,0) p8),.d (iN p9),.d (iN p10)])),(4,some (.var [.d (.rs (5,0) p11),.d (.rs (4,0) p12),.d (.rs (3,0) p13)])),(5,some (.var [.d (.rs (5,0) p14),.d (iN p15),.d (iN p16),.d (iN p17),.d (iN p18),.d (iN p19),.d (iN p20),.d (iN p21)]))],6,[]⟩
def z4 (p0 p1 p2 p3 p4 p5 p6 p7:Int) (p8:List D) (p9 p10:Int) (p11 p12 p13:List D) (p14 p15 p16 p17 p18 p19 p20:Int) (p21:List D):Option Ret:=R 30 Tryz.f30 [] (yv Tryz.f30 4) ⟨[uu,uu,.ref 0 0 0,.ref 1 0 0,.ref 2 0 0,uu,.ref 3 0 0,.ref 4 0 0,.ref 5 0 0,.d (iN p0),uu,uu,uu,uu,uu,uu,uu,uu,uu,uu,uu,uu,uu,uu,uu,uu,uu,uu,uu,uu,uu,uu,uu,uu,uu,uu,uu,uu],[(0,some (.var [.d .nl,.d .nl,.d .nl])),(1,some (.var [.d .nl,.d (iN p1),.d (iN p2),.d (iN p3),.d (iN p4),.d (iN p5),.d (iN p6),.d (iN p7)])),(2,some (.var [.d .nl])),(3,some (.var [.d (.rs (1,0) p8),.d (iN p9),.d (iN p10)])),(4,some (.var [.d (.rs (5,0) p11),.d (.rs (4,0) p12),.d (.rs (3,0) p13)])),(5,some (.var [.asl 6 none,.d (iN p14),.d (iN p15),.d (iN p16),.d (iN p17),.d (iN p18),.d (iN p19),.d (iN p20)])),(6,some (.arr (5,0) p21))],7,[]⟩
def CE (p0:List D) (p1 p2:Int):Option Ret:=R 51 Tryz.f51 [] (yv Tryz.f51 3) ⟨[.d (.rs (1,0) p0),uu,uu,.d (iN p1),.d (iN p2),uu,uu,uu,uu,uu,uu,uu,uu,uu,uu,uu,uu,uu,uu,uu,uu,uu,uu,uu,uu,uu,uu,uu,uu,uu,uu,uu],[],0,[]⟩
def BJ (p0 p1:Int) (p2 p3 p4:List D):Option Ret:=R 54 Tryz.f54 [] (yv Tryz.f54 4) ⟨[uu,.ref 0 0 0,uu,uu,uu,uu,uu,uu,uu,uu,uu,uu,uu,uu,uu,uu,uu,uu,uu,uu,uu,uu,uu,uu,.d (iN p0),.d (iN p1),uu,uu,uu,uu,uu,uu,uu,uu,uu,uu,uu,uu,uu,uu,uu,uu,uu,uu,uu,uu,uu,uu,uu,uu,uu,uu,uu,uu,uu,uu,uu,uu,uu,uu,uu,uu,uu,uu,uu,uu,uu,uu,uu,uu],[(0,some (.var [.d (.rs (5,0) p2),.d (.rs (4,0) p3),.d (.rs (3,0) p4)]))],1,[]⟩
def Bw (p0:List D) (p1 p2:Int) (p3 p4 p5:List D):Option Ret:=R 54 Tryz.f54 [] (yv Tryz.f54 10) ⟨[uu,.ref 0 0 0,uu,uu,uu,uu,uu,uu,uu,uu,uu,uu,uu,uu,uu,uu,uu,uu,uu,uu,uu,uu,uu,uu,uu,uu,uu,uu,uu,uu,uu,uu,uu,uu,.d (.rs (3,0) p0),.d (iN p1),.d (iN p2),uu,uu,uu,uu,uu,uu,uu,uu,uu,uu,uu,uu,uu,uu,uu,uu,uu,uu,uu,uu,uu,uu,uu,uu,uu,uu,uu,uu,uu,uu,uu,uu,uu],[(0,some (.var [.d (.rs (5,0) p3),.d (.rs (4,0) p4),.d (.rs (3,0) p5)]))],1,[]⟩
def BM (p0:List D) (p1 p2:Int) (p3:List D):Option Ret:=R 55 Tryz.f55 [] (yv Tryz.f55 2) ⟨[uu,.ref 0 0 0,uu,uu,uu,uu,.d (.rs (5,0) p0),.d (iN p1),.d (iN p2),uu,uu,uu,uu,uu,uu,uu,uu,uu,uu,uu,uu,uu],[(0,some (.var [.d (.rs (5,0) p3)]))],1,[]⟩
def BU (p0:Int) (p1 p2 p3:List D):Option Ret:=R 59 Tryz.f59 [] (yv Tryz.f59 4) ⟨[uu,.ref 0 0 0,uu,.d (iN p0),uu,uu,uu,uu,uu,uu,uu,uu,uu,uu,uu,uu,uu,uu,uu,uu,uu,uu,uu,uu,uu,uu,uu,uu,uu,uu,uu,uu,uu,uu,uu,uu,uu,uu,uu,uu,uu,uu,uu,uu,uu,uu,uu,uu,uu,uu,uu,uu,uu,uu,uu,uu,uu,uu,uu,uu,uu,uu,uu,uu,uu,uu,uu,uu,uu,uu,uu,uu,uu],[(0,some (.var [.d (.rs (5,0) p1),.d (.rs (4,0) p2),.d (.rs (3,0) p3)]))],1,[]⟩
def BV (p0:Int) (p1 p2 p3:List D):Option Ret:=R 59 Tryz.f59 [] (yv Tryz.f59 9) ⟨[uu,.ref 0 0 0,uu,uu,.d (iN p0),uu,uu,uu,uu,uu,uu,uu,uu,uu,uu,uu,uu,uu,uu,uu,uu,uu,uu,uu,uu,uu,uu,uu,uu,uu,uu,uu,uu,uu,uu,uu,uu,uu,uu,uu,uu,uu,uu,uu,uu,uu,uu,uu,uu,uu,uu,uu,uu,uu,uu,uu,uu,uu,uu,uu,uu,uu,uu,uu,uu,uu,uu,uu,uu,uu,uu,uu,uu],[(0,some (.var [.d (.rs (5,0) p1),.d (.rs (4,0) p2),.d (.rs (3,0) p3)]))],1,[]⟩
def BW (p0:Int) (p1:List D):Option Ret:=R 60 Tryz.f60 [] (yv Tryz.f60 2) ⟨[uu,.ref 0 0 0,uu,.d (iN p0),uu,uu,uu,uu,uu,uu,uu,uu,uu,uu,uu,uu,uu,uu,uu,uu,uu,uu,uu],[(0,some (.var [.d (.rs (5,0) p1)]))],1,[]⟩
def zQ (p0:Int) (p1:List D) (p2 p3:Int) (p4:List D):Option Ret:=R 90 Tryz.f90 [87] (yv Tryz.f90 8) ⟨[uu,uu,.ref 0 0 0,.ref 1 0 0,uu,.d (iN p0),uu,uu,uu,uu,uu,uu,uu,uu,uu,uu,uu,uu,uu,uu,uu,uu,uu,uu,uu,uu,uu,uu,uu,uu,uu,uu,uu,uu,uu,uu,uu,uu,uu,uu,uu,uu,uu,uu,uu,uu,uu,uu,uu,uu,uu,uu],[(0,some (.var [.d .nl])),(1,some (.var [.asl 3 none])),(2,some (.var [.d (.rs (1,0) p1),.d (iN p2),.d (iN p3)])),(3,some (.arr (5,0) p4))],4,[.ref 2 0 0]⟩
def AE (p0:ByteArray) (p1 p2:Int):Option Ret:=R 124 Tryz.f124 [] (yv Tryz.f124 4) ⟨[.d (.str p0),uu,uu,uu,uu,uu,uu,uu,uu,.d (iN p1),.d (iN p2),uu,uu,uu,uu,uu,uu,uu,uu],[],0,[]⟩
def AF (p0:ByteArray) (p1:Int):Option Ret:=R 128 Tryz.f128 [] (yv Tryz.f128 2) ⟨[.d (.str p0),uu,uu,.d (iN p1),uu,uu,uu,uu,uu,uu,uu,uu,uu,uu,uu,uu,uu,uu],[],0,[]⟩
def Cz (p0:ByteArray) (p1:Int) (p2 p3 p4:List D):Option Ret:=R 129 Tryz.f129 [] (yv Tryz.f129 2) ⟨[uu,.d (.str p0),.ref 0 0 0,uu,uu,.d (iN p1),uu,uu,uu,uu,uu,uu,uu,uu,uu,uu,uu,uu,uu,uu,uu,uu],[(0,some (.var [.d (.rs (5,0) p2),.d (.rs (4,0) p3),.d (.rs (3,0) p4)]))],1,[]⟩
def y3 (p0:List D) (p1 p2:Int) (p3 p4 p5:List D):Option Ret:=R 137 Tryz.f137 [((Go.Func.params Tryz.f137).toList.getD 0 0)] (yv Tryz.f137 4) ⟨[.ref 0 0 0,uu,uu,uu,uu,uu,uu,.asl 1 none,.asl 2 none,uu,uu,uu,uu,uu,uu,uu,uu,uu,uu,.d (.rs (5,0) p0),.d (iN p1),.d (iN p2),uu,uu,uu,uu,uu,uu,uu,uu,uu,uu,uu,uu,uu,uu,uu,uu,uu,uu,uu,uu,uu,uu,uu,uu,uu,uu,uu,uu,uu,uu,uu,uu,uu,uu,uu,uu,uu,uu,uu,uu,uu,uu,uu,uu,uu],[(0,some (.var [.asl 3 none])),(1,some (.arr (1,0) p3)),(2,some (.arr (1,0) p4)),(3,some (.arr (5,0) p5))],4,[.ref 0 0 0]⟩
def zK (p0:Int) (p1:List D) (p2 p3:Int):Option Ret:=R 142 Tryz.f142 [87] (yv Tryz.f142 2) ⟨[.ref 0 0 0,uu,.ref 1 0 0,.d (iN p0),uu,uu,uu,uu,uu,uu,uu,uu,uu,uu,uu,uu,uu,uu,uu,uu,uu,uu,uu,uu,uu,uu,uu,uu,uu,uu,uu,uu,uu,uu,uu,uu,uu,uu,uu,uu,uu,uu,uu,uu,uu,uu,uu,uu,uu,uu,uu,uu,uu,uu,uu,uu,uu,uu,uu,uu],[(0,some (.var [.d (.rs (1,0) p1),.d (iN p2),.d (iN p3)])),(1,some (.var [.d .nl,.d .nl,.d .nl]))],2,[.ref 0 0 0]⟩
def zt (p0:List D) (p1:Int) (p2 p3 p4:List D):Option Ret:=R 148 Tryz.f148 [((Go.Func.params Tryz.f148).toList.getD 0 0)] (yv Tryz.f148 3) ⟨[.ref 0 0 0,uu,.d (.rs (1,0) p0),uu,.ref 1 0 0,uu,uu,.asl 2 none,.d (iN p1),uu,uu,uu,uu,uu,uu,uu,uu,uu,uu,uu,uu,uu,uu,uu,uu,uu,uu,uu,uu,uu,uu,uu,uu,uu,uu,uu,uu,uu,uu,uu,uu,uu,uu,uu,uu,uu,uu,uu,uu,uu,uu,uu,uu,uu,uu,uu,uu,uu,uu,uu,uu,uu,uu],[(0,some (.var [.asl 3 none])),(1,some (.var [.d (.rs (5,0) p2)])),(2,some (.arr (1,0) p3)),(3,some (.arr (5,0) p4))],4,[.ref 0 0 0]⟩
def Aw (p0:List D) (p1:Int) (p2 p3:List D):Option Ret:=R 149 Tryz.f149 [] (yv Tryz.f149 3) ⟨[uu,.d (.rs (1,0) p0),.ref 0 0 0,uu,uu,.asl 1 none,.d (iN p1),uu,uu,uu,uu,uu,uu,uu,uu,uu,uu,uu,uu,uu,uu,uu,uu,uu,uu,uu,uu,uu,uu,uu,uu,uu,uu,uu,uu,uu,uu,uu,uu,uu,uu,uu,uu,uu,uu,uu,uu,uu,uu,uu,uu,uu,uu,uu,uu,uu,uu,uu,uu,uu,uu,uu,uu],[(0,some (.var [.d (.rs (5,0) p2)])),(1,some (.arr (1,0) p3))],2,[]⟩
def zm (p0:Int) (p1 p2:List D):Option Ret:=R 149 Tryz.f149 [] (yv Tryz.f149 7) ⟨[uu,uu,.ref 0 0 0,uu,uu,.asl 1 none,uu,.d (iN p0),uu,uu,uu,uu,uu,uu,uu,uu,uu,uu,uu,uu,uu,uu,uu,uu,uu,uu,uu,uu,uu,uu,uu,uu,uu,uu,uu,uu,uu,uu,uu,uu,uu,uu,uu,uu,uu,uu,uu,uu,uu,uu,uu,uu,uu,uu,uu,uu,uu,uu,uu,uu,uu,uu,uu],[(0,some (.var [.d (.rs (5,0) p1)])),(1,some (.arr (1,0) p2))],2,[]⟩
def zz (p0:Int) (p1:Bool) (p2 p3:List D):Option Ret:=R 151 Tryz.f151 [((Go.Func.params Tryz.f151).toList.getD 0 0)] (yv Tryz.f151 1) ⟨[.ref 0 0 0,.d (iN p0),uu,uu,.d (.bool p1),uu,uu,uu,uu,uu,uu,uu,uu,uu,uu,uu,uu,uu,uu,uu,uu,uu,uu,uu,uu,uu,uu,uu,uu,uu,uu,uu,uu,uu,uu,uu,uu,uu,uu,uu,uu,uu,uu,uu,uu,uu,uu,uu,uu,uu,uu,uu,uu,uu,uu,uu,uu,uu,uu,uu,uu,uu,uu,uu,uu],[(0,some (.var [.d (.rs (5,0) p2),.asl 1 none])),(1,some (.arr (1,0) p3))],2,[.ref 0 0 0]⟩
def Dl (p0 p1:Int) (p2:List D) (p3 p4:Int):Option Ret:=R 154 Tryz.f154 [87] (yv Tryz.f154 4) ⟨[.ref 0 0 0,uu,.ref 1 0 0,.ref 2 0 0,.d (iN p0),.d (iN p1),uu,uu,uu,uu,uu,uu,uu,uu,uu,uu,uu,uu,uu],[(0,some (.var [.d (.rs (1,0) p2),.d (iN p3),.d (iN p4)])),(1,some (.var [.d .nl])),(2,some (.var [.d .nl]))],3,[.ref 0 0 0]⟩
def zW (p0 p1:Int) (p2:List D) (p3 p4:Int) (p5:List D):Option Ret:=R 154 Tryz.f154 [87] (yv Tryz.f154 4) ⟨[.ref 0 0 0,uu,.ref 1 0 0,.ref 2 0 0,.d (iN p0),.d (iN p1),uu,uu,uu,uu,uu,uu,uu,uu,uu,uu,uu,uu,uu],[(0,some (.var [.d (.rs (1,0) p2),.d (iN p3),.d (iN p4)])),(1,some (.var [.d .nl])),(2,some (.var [.asl 3 none])),(3,some (.arr (5,0) p5))],4,[.ref 0 0 0]⟩
def Bi (p0 p1:Int) (p2:List D) (p3 p4:Int) (p5 p6 p7:List D) (p8 p9 p10 p11 p12 p13 p14 p15 p16 p17 p18 p19 p20 p21:Int) (p22:List D):Option Ret:=R 172 Tryz.f172 [87] (yv Tryz.f172 2) ⟨[.ref 0 0 0,uu,uu,.d (iN p0),uu,.ref 1 0 0,.ref 2 0 0,uu,.ref 3 0 0,.d (iN p1),uu,uu,uu,uu,uu,uu,uu,uu,uu,uu,uu,uu,uu,uu,uu,uu,uu,uu,uu],[(0,some (.var [.d (.rs (1,0) p2),.d (iN p3),.d (iN p4)])),(1,some (.var [.d (.rs (5,0) p5),.d (.rs (4,0) p6),.d (.rs (3,0) p7)])),(2,some (.var [.asl 4 none,.d (iN p8),.d (iN p9),.d (iN p10),.d (iN p11),.d (iN p12),.d (iN p13),.d (iN p14)])),(3,some (.var [.d .nl,.d (iN p15),.d (iN p16),.d (iN p17),.d (iN p18),.d (iN p19),.d (iN p20),.d (iN p21)])),(4,some (.arr (5,0) p22))],5,[.ref 0 0 0]⟩
def Am (p0:List D) (p1:ByteArray) (p2 p3:Int):Option Ret:=R 178 Tryz.f178 [] (yv Tryz.f178 2) ⟨[.d (.rs (3,0) p0),.fn 179 [.rp (1,1) [.str p1] 0 0],uu,uu,uu,uu,uu,.d (iN p2),.d (iN p3),uu,uu,uu,uu,uu,uu,uu,uu,uu,uu],[],0,[]⟩
def Bc (p0:List D) (p1 p2:Int) (p3 p4:List D):Option Ret:=R 189 Tryz.f189 [] (yv Tryz.f189 3) ⟨[uu,uu,.ref 0 0 0,uu,uu,.asl 1 none,uu,uu,uu,uu,uu,uu,uu,uu,.d (.rs (1,0) p0),.d (iN p1),.d (iN p2),uu,uu,uu,uu,uu,uu,uu,uu,uu,uu,uu,uu,uu,uu,uu,uu,uu,uu,uu,uu,uu,uu,uu,uu,uu,uu,uu,uu,uu,uu,uu,uu,uu,uu,uu,uu,uu,uu,uu,uu,uu,uu,uu,uu,uu],[(0,some (.var [.d (.rs (5,0) p3)])),(1,some (.arr (1,0) p4))],2,[]⟩
def zD (p0:Int) (p1 p2:List D):Option Ret:=R 189 Tryz.f189 [] (yv Tryz.f189 8) ⟨[uu,uu,.ref 0 0 0,uu,uu,.asl 1 none,uu,uu,.d (iN p0),uu,uu,uu,uu,uu,uu,uu,uu,uu,uu,uu,uu,uu,uu,uu,uu,uu,uu,uu,uu,uu,uu,uu,uu,uu,uu,uu,uu,uu,uu,uu,uu,uu,uu,uu,uu,uu,uu,uu,uu,uu,uu,uu,uu,uu,uu,uu,uu,uu,uu,uu,uu,uu],[(0,some (.var [.d (.rs (5,0) p1)])),(1,some (.arr (1,0) p2))],2,[]⟩
def y4 (p0:ByteArray) (p1:Int) (p2 p3 p4 p5:List D):Option Ret:=R 191 Tryz.f191 [] (yv Tryz.f191 9) ⟨[uu,.d (.str p0),.ref 0 0 0,uu,.ref 1 0 0,uu,uu,uu,.asl 2 none,.ref 3 0 0,.asl 4 none,.d (iN p1),uu,uu,uu,uu,uu,uu,uu,uu,uu,uu,uu,uu,uu,uu,uu,uu,uu,uu,uu,uu,uu,uu,uu,uu,uu,uu,uu,uu,uu,uu,uu,uu,uu,uu,uu,uu,uu,uu,uu,uu,uu,uu,uu,uu,uu,uu,uu,uu,uu,uu,uu,uu,uu,uu,uu,uu,uu,uu,uu,uu,uu,uu,uu,uu,uu,uu,uu,uu,uu,uu,uu,uu,uu,uu,uu,uu,uu,uu,uu,uu,uu,uu,uu,uu,uu,uu,uu,uu,uu,uu,uu,uu,uu,uu,uu,uu,uu,uu,uu,uu,uu,uu,uu,uu,uu,uu,uu,uu,uu,uu,uu,uu,uu,uu,uu,uu,uu,uu,uu,uu,uu,uu,uu,uu,uu,uu,uu,uu,uu,uu,uu,uu,uu,uu,uu,uu,uu,uu,uu,uu,uu,uu,uu,uu,uu,uu,uu,uu,uu,uu,uu,uu,uu,uu,uu,uu,uu,uu],[(0,some (.var [.d (.rs (5,0) p2)])),(1,some (.var [.d .nl])),(2,some (.arr (1,0) p3)),(3,some (.var [.asl 5 none])),(4,some (.arr (2,2) p4)),(5,some (.arr (5,0) p5))],6,[]⟩
def y1 (p0:ByteArray) (p1:Nat) (p2:Int) (p3 p4 p5 p6:List D):Option Ret:=R 191 Tryz.f191 [] (yv Tryz.f191 9) ⟨[uu,.d (.str p0),.ref 0 0 0,uu,.ref 1 0 0,uu,uu,uu,.asl 2 none,.ref 3 0 0,.asl 4 (some (0,p1)),.d (iN p2),uu,uu,uu,uu,uu,uu,uu,uu,uu,uu,uu,uu,uu,uu,uu,uu,uu,uu,uu,uu,uu,uu,uu,uu,uu,uu,uu,uu,uu,uu,uu,uu,uu,uu,uu,uu,uu,uu,uu,uu,uu,uu,uu,uu,uu,uu,uu,uu,uu,uu,uu,uu,uu,uu,uu,uu,uu,uu,uu,uu,uu,uu,uu,uu,uu,uu,uu,uu,uu,uu,uu,uu,uu,uu,uu,uu,uu,uu,uu,uu,uu,uu,uu,uu,uu,uu,uu,uu,uu,uu,uu,uu,uu,uu,uu,uu,uu,uu,uu,uu,uu,uu,uu,uu,uu,uu,uu,uu,uu,uu,uu,uu,uu,uu,uu,uu,uu,uu,uu,uu,uu,uu,uu,uu,uu,uu,uu,uu,uu,uu,uu,uu,uu,uu,uu,uu,uu,uu,uu,uu,uu,uu,uu,uu,uu,uu,uu,uu,uu,uu,uu,uu,uu,uu,uu,uu,uu,uu],[(0,some (.var [.d (.rs (5,0) p3)])),(1,some (.var [.d .nl])),(2,some (.arr (1,0) p4)),(3,some (.var [.asl 5 none])),(4,some (.arr (2,2) p5)),(5,some (.arr (5,0) p6))],6,[]⟩
def z6 (p0:ByteArray) (p1 p2 p3:Int) (p4 p5 p6 p7:List D):Option Ret:=R 191 Tryz.f191 [] (yv Tryz.f191 27) ⟨[uu,.d (.str p0),.ref 0 0 0,uu,.ref 1 0 0,uu,uu,uu,.asl 2 none,.ref 3 0 0,.asl 4 none,.d (iN p1),.d (iN p2),uu,uu,.d (iN p3),uu,uu,uu,uu,uu,uu,uu,uu,uu,uu,uu,uu,uu,uu,uu,uu,uu,uu,uu,uu,uu,uu,uu,uu,uu,uu,uu,uu,uu,uu,uu,uu,uu,uu,uu,uu,uu,uu,uu,uu,uu,uu,uu,uu,uu,uu,uu,uu,uu,uu,uu,uu,uu,uu,uu,uu,uu,uu,uu,uu,uu,uu,uu,uu,uu,uu,uu,uu,uu,uu,uu,uu,uu,uu,uu,uu,uu,uu,uu,uu,uu,uu,uu,uu,uu,uu,uu,uu,uu,uu,uu,uu,uu,uu,uu,uu,uu,uu,uu,uu,uu,uu,uu,uu,uu,uu,uu,uu,uu,uu,uu,uu,uu,uu,uu,uu,uu,uu,uu,uu,uu,uu,uu,uu,uu,uu,uu,uu,uu,uu,uu,uu,uu,uu,uu,uu,uu,uu,uu,uu,uu,uu,uu,uu,uu,uu,uu,uu,uu,uu,uu,uu,uu,uu],[(0,some (.var [.d (.rs (5,0) p4)])),(1,some (.var [.d .nl])),(2,some (.arr (1,0) p5)),(3,some (.var [.asl 5 none])),(4,some (.arr (2,2) p6)),(5,some (.arr (5,0) p7))],6,[]⟩
def zH (p0:ByteArray) (p1:Nat) (p2 p3 p4:Int) (p5 p6 p7 p8:List D):Option Ret:=R 191 Tryz.f191 [] (yv Tryz.f191 27) ⟨[uu,.d (.str p0),.ref 0 0 0,uu,.ref 1 0 0,uu,uu,uu,.asl 2 none,.ref 3 0 0,.asl 4 (some (0,p1)),.d (iN p2),.d (iN p3),uu,uu,.d (iN p4),uu,uu,uu,uu,uu,uu,uu,uu,uu,uu,uu,uu,uu,uu,uu,uu,uu,uu,uu,uu,uu,uu,uu,uu,uu,uu,uu,uu,uu,uu,uu,uu,uu,uu,uu,uu,uu,uu,uu,uu,uu,uu,uu,uu,uu,uu,uu,uu,uu,uu,uu,uu,uu,uu,uu,uu,uu,uu,uu,uu,uu,uu,uu,uu,uu,uu,uu,uu,uu,uu,uu,uu,uu,uu,uu,uu,uu,uu,uu,uu,uu,uu,uu,uu,uu,uu,uu,uu,uu,uu,uu,uu,uu,uu,uu,uu,uu,uu,uu,uu,uu,uu,uu,uu,uu,uu,uu,uu,uu,uu,uu,uu,uu,uu,uu,uu,uu,uu,uu,uu,uu,uu,uu,uu,uu,uu,uu,uu,uu,uu,uu,uu,uu,uu,uu,uu,uu,uu,uu,uu,uu,uu,uu,uu,uu,uu,uu,uu,uu,uu,uu,uu,uu,uu],[(0,some (.var [.d (.rs (5,0) p5)])),(1,some (.var [.d .nl])),(2,some (.arr (1,0) p6)),(3,some (.var [.asl 5 none])),(4,some (.arr (2,2) p7)),(5,some (.arr (5,0) p8))],6,[]⟩
def Bx (p0:List D) (p1:Int) (p2:List D):Option Ret:=R 193 Tryz.f193 [] (yv Tryz.f193 4) ⟨[uu,.d (.rs (1,0) p0),.ref 0 0 0,uu,.ref 1 0 0,uu,uu,.d (iN p1),uu,uu,uu,uu,uu,uu,uu,uu,uu,uu,uu,uu,uu,uu,uu,uu,uu,uu,uu,uu,uu,uu,uu,uu,uu,uu,uu,uu,uu,uu,uu,uu,uu,uu,uu,uu,uu,uu,uu,uu,uu,uu,uu,uu,uu,uu,uu,uu,uu,uu,uu,uu,uu,uu,uu,uu,uu,uu,uu,uu,uu,uu,uu,uu,uu,uu,uu,uu,uu,uu,uu,uu,uu,uu],[(0,some (.var [.d (.rs (5,0) p2)])),(1,some (.var [.d .nl,.d .nl,.d .nl]))],2,[]⟩
def Cw (p0:List D) (p1 p2:Int) (p3:List D):Option Ret:=R 193 Tryz.f193 [] (yv Tryz.f193 10) ⟨[uu,.d (.rs (1,0) p0),uu,uu,.ref 0 0 0,uu,uu,uu,.ref 1 0 0,.d (iN p1),uu,uu,uu,uu,uu,uu,uu,uu,uu,uu,uu,uu,uu,uu,uu,uu,uu,uu,uu,uu,uu,uu,uu,uu,uu,uu,uu,uu,uu,uu,uu,uu,uu,uu,uu,uu,uu,uu,uu,uu,uu,uu,uu,uu,uu,uu,uu,uu,uu,uu,uu,uu,uu,uu,uu,uu,uu,uu,uu,uu,uu,uu,uu,uu,uu,uu,uu,uu,uu,uu,uu,uu],[(0,some (.var [.d .nl,.d .nl,.d .nl])),(1,some (.var [.asl 2 none,.d .nl,.d .nl,.d (iN p2)])),(2,some (.arr (5,0) p3))],3,[]⟩
def Ap (p0:List D) (p1 p2:Int) (p3 p4 p5:List D):Option Ret:=R 193 Tryz.f193 [] (yv Tryz.f193 10) ⟨[uu,.d (.rs (1,0) p0),uu,uu,.ref 0 0 0,uu,uu,uu,.ref 1 0 0,.d (iN p1),uu,uu,uu,uu,uu,uu,uu,uu,uu,uu,uu,uu,uu,uu,uu,uu,uu,uu,uu,uu,uu,uu,uu,uu,uu,uu,uu,uu,uu,uu,uu,uu,uu,uu,uu,uu,uu,uu,uu,uu,uu,uu,uu,uu,uu,uu,uu,uu,uu,uu,uu,uu,uu,uu,uu,uu,uu,uu,uu,uu,uu,uu,uu,uu,uu,uu,uu,uu,uu,uu,uu,uu],[(0,some (.var [.d .nl,.d .nl,.d .nl])),(1,some (.var [.asl 2 none,.asl 3 none,.asl 4 none,.d (iN p2)])),(2,some (.arr (5,0) p3)),(3,some (.arr (4,0) p4)),(4,some (.arr (3,0) p5))],5,[]⟩
def AQ (p0:Int) (p1:ByteArray):Option Ret:=R 202 Tryz.f202 [] (yv Tryz.f202 6) ⟨[.d (iN p0),uu,uu,.d (.str p1),uu,uu,uu,uu,uu,uu,uu,uu,uu,uu,uu,uu,uu,uu,uu,uu,uu,uu,uu,uu,uu],[],0,[]⟩
def BZ (p0:List D) (p1 p2:Int) (p3:List D):Option Ret:=R 210 Tryz.f210 [((Go.Func.params Tryz.f210).toList.getD 0 0)] (yv Tryz.f210 3) ⟨[.ref 0 0 0,.d (.rs (1,0) p0),uu,uu,uu,.d (iN p1),.d (iN p2),uu,uu,uu,uu,uu,uu,uu,uu,uu,uu,uu,uu,uu,uu,uu,uu,uu,uu,uu],[(0,some (.var [.asl 1 none])),(1,some (.arr (5,0) p3))],2,[.ref 0 0 0]⟩
def CH (p0 p1:Int) (p2:List D):Option Ret:=R 216 Tryz.f216 [] (yv Tryz.f216 1) ⟨[uu,.d (iN p0),.d (iN p1),.ref 0 0 0,uu,uu,uu,uu,uu,uu,uu,uu,uu,uu,uu,uu,uu,uu,uu,uu,uu,uu,uu,uu,uu,uu,uu,uu,uu,uu,uu,uu,uu,uu,uu,uu,uu,uu,uu,uu],[(0,some (.var [.d (.rs (5,0) p2)]))],1,[]⟩
def Ce (p0 p1 p2 p3 p4 p5 p6 p7 p8:Int) (p9 p10 p11 p12 p13:List D):Option Ret:=R 219 Tryz.f219 [((Go.Func.params Tryz.f219).toList.getD 1 0)] (yv Tryz.f219 3) ⟨[uu,.ref 0 0 0,uu,.d (iN p0),.ref 1 0 0,uu,uu,uu,uu,.asl 2 none,.d (iN p1),uu,uu,uu,uu,uu,uu,uu,uu,uu,uu,uu,uu,uu,uu,uu,uu,uu,uu,uu,uu,uu,uu,uu,uu,uu,uu,uu,uu,uu,uu,uu,uu,uu,uu,uu,uu,uu,uu,uu,uu,uu,uu,uu],[(0,some (.var [.asl 3 none,.d (iN p2),.d (iN p3),.d (iN p4),.d (iN p5),.d (iN p6),.d (iN p7),.d (iN p8)])),(1,some (.var [.d (.rs (5,0) p9),.d (.rs (4,0) p10),.d (.rs (3,0) p11)])),(2,some (.arr (1,0) p12)),(3,some (.arr (5,0) p13))],4,[.ref 0 0 0]⟩
def zy (p0:List D) (p1 p2 p3:Int):Option Ret:=R 221 Tryz.f221 [] (yv Tryz.f221 2) ⟨[.d (.rs (1,0) p0),.d (.int .u8 p1),uu,uu,uu,uu,uu,.d (iN p2),.d (iN p3),uu,uu,uu,uu,uu,uu,uu,uu,uu,uu],[],0,[]⟩
def zM (p0 p1:ByteArray) (p2 p3:Int):Option Ret:=R 227 Tryz.f227 [] (yv Tryz.f227 8) ⟨[.d (.str p0),uu,uu,uu,.d (.str p1),.d (iN p2),.d (iN p3),uu,uu,uu,uu,uu,uu,uu,uu,uu,uu,uu,uu,uu,uu,uu,uu,uu,uu,uu,uu,uu,uu,uu,uu,uu,uu,uu,uu,uu,uu,uu,uu,uu,uu,uu,uu,uu,uu,uu,uu,uu,uu,uu,uu,uu,uu,uu,uu,uu,uu,uu,uu,uu,uu],[],0,[]⟩
def AP (p0:Int) (p1 p2:List D):Option Ret:=R 228 Tryz.f228 [] (yv Tryz.f228 2) ⟨[uu,.d (iN p0),.ref 0 0 0,uu,uu,uu,.asl 1 none,uu,uu,uu,uu,uu,uu,uu,uu,uu,uu,uu,uu,uu,uu,uu,uu,uu,uu,uu,uu,uu,uu,uu,uu,uu,uu,uu,uu,uu,uu,uu,uu],[(0,some (.var [.d (.rs (5,0) p1)])),(1,some (.arr (1,0) p2))],2,[]⟩
def Ae (p0:ByteArray) (p1 p2:List D) (p3 p4:Int) (p5 p6 p7:List D):Option Ret:=R 229 Tryz.f229 [((Go.Func.params Tryz.f229).toList.getD 0 0)] (yv Tryz.f229 1) ⟨[.ref 0 0 0,.d (.str p0),.d (.rs (1,0) p1),.d (.rs (1,0) p2),uu,uu,uu,uu,.d (iN p3),uu,uu,uu,uu,uu,uu,uu,uu,uu,uu,uu,uu,uu,uu,uu,uu,uu,uu,uu,uu,uu,uu,uu,uu,uu,uu,uu,uu,uu,uu,uu,uu,uu,uu,uu,uu,uu,uu,uu,uu,uu,uu,uu,uu,uu,uu,uu,uu,uu,uu,uu,uu,uu,uu,uu],[(0,some (.var [.asl 1 none,.asl 2 none,.asl 3 none,.d (iN p4)])),(1,some (.arr (5,0) p5)),(2,some (.arr (4,0) p6)),(3,some (.arr (3,0) p7))],4,[.ref 0 0 0]⟩
def zI (p0:List D) (p1 p2:Int) (p3 p4 p5 p6:List D):Option Ret:=R 231 Tryz.f231 [((Go.Func.params Tryz.f231).toList.getD 0 0)] (yv Tryz.f231 5) ⟨[.ref 0 0 0,.d (.rs (1,0) p0),uu,uu,uu,.asl 1 none,.d (iN p1),uu,uu,uu,uu,uu,uu,uu,uu,uu,uu,uu,uu,uu,uu,uu,uu,uu,uu,uu,uu,uu,uu,uu,uu,uu,uu,uu,uu,uu,uu,uu,uu,uu,uu,uu,uu,uu,uu,uu,uu,uu,uu,uu,uu,uu,uu,uu,uu,uu,uu,uu,uu,uu,uu,uu,uu,uu,uu,uu,uu,uu,uu,uu,uu,uu,uu,uu,uu,uu,uu,uu,uu,uu],[(0,some (.var [.asl 2 none,.asl 3 none,.asl 4 none,.d (iN p2)])),(1,some (.arr (1,0) p3)),(2,some (.arr (5,0) p4)),(3,some (.arr (4,0) p5)),(4,some (.arr (3,0) p6))],5,[.ref 0 0 0]⟩
def zA (p0 p1:Int) (p2 p3 p4 p5:List D):Option Ret:=R 231 Tryz.f231 [((Go.Func.params Tryz.f231).toList.getD 0 0)] (yv Tryz.f231 12) ⟨[.ref 0 0 0,uu,uu,uu,uu,.asl 1 none,uu,uu,uu,.d (iN p0),uu,uu,uu,uu,uu,uu,uu,uu,uu,uu,uu,uu,uu,uu,uu,uu,uu,uu,uu,uu,uu,uu,uu,uu,uu,uu,uu,uu,uu,uu,uu,uu,uu,uu,uu,uu,uu,uu,uu,uu,uu,uu,uu,uu,uu,uu,uu,uu,uu,uu,uu,uu,uu,uu,uu,uu,uu,uu,uu,uu,uu,uu,uu,uu,uu,uu,uu,uu,uu,uu],[(0,some (.var [.asl 2 none,.asl 3 none,.asl 4 none,.d (iN p1)])),(1,some (.arr (1,0) p2)),(2,some (.arr (5,0) p3)),(3,some (.arr (4,0) p4)),(4,some (.arr (3,0) p5))],5,[.ref 0 0 0]⟩
def Af (p0 p1 p2:Int) (p3 p4 p5 p6:List D):Option Ret:=R 231 Tryz.f231 [((Go.Func.params Tryz.f231).toList.getD 0 0)] (yv Tryz.f231 15) ⟨[.ref 0 0 0,uu,uu,uu,uu,.asl 1 none,uu,uu,uu,.d (iN p0),.d (iN p1),uu,uu,uu,uu,uu,uu,uu,uu,uu,uu,uu,uu,uu,uu,uu,uu,uu,uu,uu,uu,uu,uu,uu,uu,uu,uu,uu,uu,uu,uu,uu,uu,uu,uu,uu,uu,uu,uu,uu,uu,uu,uu,uu,uu,uu,uu,uu,uu,uu,uu,uu,uu,uu,uu,uu,uu,uu,uu,uu,uu,uu,uu,uu,uu,uu,uu,uu,uu,uu],[(0,some (.var [.asl 2 none,.asl 3 none,.asl 4 none,.d (iN p2)])),(1,some (.arr (1,0) p3)),(2,some (.arr (5,0) p4)),(3,some (.arr (4,0) p5)),(4,some (.arr (3,0) p6))],5,[.ref 0 0 0]⟩
def BX (p0:ByteArray) (p1:Int) (p2:List D):Option Ret:=R 232 Tryz.f232 [] (yv Tryz.f232 3) ⟨[.d (.str p0),uu,uu,.asl 0 none,.d (iN p1),uu,uu,uu,uu,uu,uu,uu,uu,uu,uu,uu,uu],[(0,some (.arr (1,0) p2))],1,[]⟩
def AH (p0 p1:List D) (p2 p3:Int) (p4 p5 p6:List D):Option Ret:=R 236 Tryz.f236 [((Go.Func.params Tryz.f236).toList.getD 0 0)] (yv Tryz.f236 1) ⟨[.ref 0 0 0,.d (.rs (1,0) p0),.d (.rs (1,1) p1),uu,uu,uu,.d (iN p2),uu,uu,uu,uu,uu,uu,uu,uu,uu,uu,uu,uu,uu,uu,uu,uu,uu,uu,uu,uu,uu,uu,uu,uu,uu],[(0,some (.var [.asl 1 none,.asl 2 none,.asl 3 none,.d (iN p3)])),(1,some (.arr (5,0) p4)),(2,some (.arr (4,0) p5)),(3,some (.arr (3,0) p6))],4,[.ref 0 0 0]⟩
def zj (p0:List D) (p1 p2:Int) (p3 p4 p5 p6:List D):Option Ret:=R 244 Tryz.f244 [((Go.Func.params Tryz.f244).toList.getD 0 0)] (yv Tryz.f244 25) ⟨[.ref 0 0 0,uu,.d (.rs (1,1) p0),uu,uu,uu,uu,uu,uu,.asl 1 none,uu,uu,.d (iN p1),uu,uu,uu,uu,uu,uu,uu,uu,uu,uu,uu,uu,uu,uu,uu,uu,uu,uu,uu,uu,uu,uu,uu,uu,uu,uu,uu,uu,uu,uu,uu,uu,uu,uu,uu,uu,uu,uu,uu,uu,uu,uu,uu,uu,uu,uu,uu,uu,uu,uu,uu,uu,uu,uu,uu,uu,uu,uu,uu,uu,uu,uu,uu,uu,uu,uu,uu,uu,uu,uu,uu,uu,uu,uu,uu,uu,uu,uu,uu,uu,uu,uu,uu,uu,uu,uu,uu,uu,uu,uu,uu,uu,uu,uu,uu,uu,uu,uu,uu,uu,uu,uu,uu,uu,uu,uu,uu,uu,uu,uu,uu,uu,uu,uu,uu,uu,uu,uu,uu],[(0,some (.var [.asl 2 none,.asl 3 none,.asl 4 none,.d (iN p2)])),(1,some (.arr (1,0) p3)),(2,some (.arr (5,0) p4)),(3,some (.arr (4,0) p5)),(4,some (.arr (3,0) p6))],5,[.ref 0 0 0]⟩
def Bh (p0:List D) (p1:ByteArray) (p2:Int):Option Ret:=R 248 Tryz.f248 [] (yv Tryz.f248 2) ⟨[.d (.rs (1,1) p0),.d (.str p1),uu,uu,uu,uu,.d (iN p2),uu,uu,uu,uu,uu,uu,uu,uu,uu,uu,uu,uu,uu,uu,uu,uu,uu,uu,uu,uu,uu,uu,uu,uu,uu,uu,uu],[],0,[]⟩
def CG (p0:List D) (p1:ByteArray) (p2 p3:Int):Option Ret:=R 248 Tryz.f248 [] (yv Tryz.f248 5) ⟨[.d (.rs (1,1) p0),.d (.str p1),uu,uu,uu,uu,.d (iN p2),.d (iN p3),uu,uu,uu,uu,uu,uu,uu,uu,uu,uu,uu,uu,uu,uu,uu,uu,uu,uu,uu,uu,uu,uu,uu,uu,uu,uu],[],0,[]⟩
def zF (p0:Int) (p1 p2 p3:List D):Option Ret:=R 252 Tryz.f252 [] (yv Tryz.f252 4) ⟨[uu,.ref 0 0 0,uu,.asl 1 none,.asl 2 none,.d (iN p0),uu,uu,uu,uu,uu,uu,uu,uu,uu,uu,uu,uu,uu,uu,uu,uu,uu,uu,uu,uu,uu,uu,uu,uu,uu,uu,uu,uu,uu,uu,uu,uu,uu,uu,uu,uu,uu,uu,uu,uu,uu,uu,uu,uu,uu,uu,uu,uu,uu,uu,uu,uu,uu,uu,uu,uu,uu,uu,uu,uu,uu,uu,uu,uu],[(0,some (.var [.d (.rs (5,0) p1)])),(1,some (.arr (1,0) p2)),(2,some (.arr (5,0) p3))],3,[]⟩
def y6 (p0 p1 p2:Int) (p3 p4 p5:List D) (p6 p7:Int) (p8:ByteArray) (p9 p10:Int):Option Ret:=R 252 Tryz.f252 [] (yv Tryz.f252 16) ⟨[uu,.ref 0 0 0,uu,.asl 1 none,.asl 2 none,.d (iN p0),.ref 3 0 0,.d (iN p1),.d (iN p2),uu,uu,uu,uu,uu,uu,uu,uu,uu,uu,uu,uu,uu,uu,uu,uu,uu,uu,uu,uu,uu,uu,uu,uu,uu,uu,uu,uu,uu,uu,uu,uu,uu,uu,uu,uu,uu,uu,uu,uu,uu,uu,uu,uu,uu,uu,uu,uu,uu,uu,uu,uu,uu,uu,uu,uu,uu,uu,uu,uu,uu],[(0,some (.var [.d (.rs (5,0) p3)])),(1,some (.arr (1,0) p4)),(2,some (.arr (5,0) p5)),(3,some (.var [.d (iN p6),.d (iN p7),.d (.str p8),.d (iN p9),.d (iN p10)]))],4,[]⟩
end
end Go.Eng
/-! the functions as the interpreter has them -/
namespace Go.Eng
open Go.Proofs Go.Proofs.Tryz
set_option maxRecDepth 100000
theorem Qj (p l d:List D) (h:Int) (s:ByteArray) (x e:List D):V 249 [.op [.os (5,0) p,.os (4,0) l,.os (3,0) d,iN h],.str s,.rs (1,0) x,.rs (1,1) e] =
 br (kc s { data:=#[113,117,111,116,101] })
 (
 br (ni x.length == 2)
 (
 grd (decide (0 <= 1) && decide (1 < ni x.length)) (cT x 1 fun a=>
 asI .i64 a fun b=>jb V 237 [.op [.os (5,0) p,.os (4,0) l,.os (3,0) d,iN h],(.agg [iN (1),iN b,iN (0),.str ({ data:=#[] })])] fun c f=>
 asI .i64 c fun _=>unc f fun g i=>tk1 g fun j k m n=>(unn i (some ((.tup []),[.op [.os (5,0) j,.os (4,0) k,.os (3,0) m,iN n]])))))
 (
 br (kc s { data:=#[105,102] })
 (
 br (ni x.length == 4)
 (
 grd (decide (0 <= 1) && decide (1 < ni x.length)) (cT x 1 fun a=>
 asI .i64 a fun b=>jb V 244 [.op [.os (5,0) p,.os (4,0) l,.os (3,0) d,iN h],iN b,.rs (1,1) e] fun c f=>
 iV c fun g=>unn g (unc f fun i j=>tk1 i fun k m n o=>(unn j (jb V 237 [.op [.os (5,0) k,.os (4,0) m,.os (3,0) n,iN o],(.agg [iN (4),iN (0),iN (0),.str ({ data:=#[] })])] fun q r=>
 asI .i64 q fun t=>unc r fun u v=>tk1 u fun w y z A=>(unn v (grd (decide (0 <= 2) && decide (2 < ni x.length)) (cT x 2 fun B=>
 asI .i64 B fun C=>jb V 244 [.op [.os (5,0) w,.os (4,0) y,.os (3,0) z,iN A],iN C,.rs (1,1) e] fun E F=>
 iV E fun G=>unn G (unc F fun H I=>tk1 H fun J K L M=>(unn I (jb V 237 [.op [.os (5,0) J,.os (4,0) K,.os (3,0) L,iN M],(.agg [iN (5),iN (0),iN (0),.str ({ data:=#[] })])] fun N O=>
 asI .i64 N fun P=>unc O fun Q R=>tk1 Q fun S T U W=>(unn R (jb V 253 [.op [.os (5,0) S,.os (4,0) T,.os (3,0) U,iN W],iN t] fun X Y=>
 iV X fun Z=>unn Z (unc Y fun a0 a1=>tk1 a0 fun a2 a3 a4 a5=>(unn a1 (grd (decide (0 <= 3) && decide (3 < ni x.length)) (cT x 3 fun a6=>
 asI .i64 a6 fun a7=>jb V 244 [.op [.os (5,0) a2,.os (4,0) a3,.os (3,0) a4,iN a5],iN a7,.rs (1,1) e] fun a8 a9=>
 iV a8 fun b0=>unn b0 (unc a9 fun b1 b2=>tk1 b1 fun b3 b4 b5 b6=>(unn b2 (jb V 253 [.op [.os (5,0) b3,.os (4,0) b4,.os (3,0) b5,iN b6],iN P] fun b7 b8=>
 iV b7 fun b9=>unn b9 (unc b8 fun c0 c1=>tk1 c0 fun c2 c3 c4 c5=>(unn c1 (some ((.tup []),[.op [.os (5,0) c2,.os (4,0) c3,.os (3,0) c4,iN c5]]))))))))))))))))))))))))
 (
 br (kc s { data:=#[100,111] })
 (
 br (decide (ni x.length >= 2))
 (
 grd (cW x.length (some (1)) none) (jb V 236 [.op [.os (5,0) p,.os (4,0) l,.os (3,0) d,iN h],(.rs (1,0) (wu x (1))),.rs (1,1) e] fun a b=>
 iV a fun c=>unn c (unc b fun f g=>tk1 f fun i j k m=>(unn g (some ((.tup []),[.op [.os (5,0) i,.os (4,0) j,.os (3,0) k,iN m]]))))))
 (
 br (kc s { data:=#[102,110] })
 (
 br (decide (ni x.length >= 3))
 (
 grd (decide (0 <= 1) && decide (1 < ni x.length)) (cT x 1 fun a=>
 asI .i64 a fun b=>jb V 228 [.agg [.rs (5,0) p],iN b] fun c f=>
 tk2 c fun g i=>(unn f (br (!i)
 (some ((.tup []),[.op [.os (5,0) p,.os (4,0) l,.os (3,0) d,iN (1)]]))
 (
 jb V 231 [.op [.os (5,0) p,.os (4,0) l,.os (3,0) d,iN h],.rs (1,0) g] fun j k=>
 jl (1,0) j fun m=>unc k fun n o=>tk1 n fun q r t u=>(unn o (grd (cW x.length (some (2)) none) (jb V 254 [.op [.os (5,0) q,.os (4,0) r,.os (3,0) t,iN u],.rs (1,0) m,(.rs (1,0) (wu x (2))),.rs (1,1) e] fun v w=>
 iV v fun y=>unn y (unc w fun z A=>tk1 z fun B C E F=>(unn A (some ((.tup []),[.op [.os (5,0) B,.os (4,0) C,.os (3,0) E,iN F]]))))))))))))
 (
 br (kc s { data:=#[108,101,116] })
 (
 br (decide (ni x.length >= 4))
 (
 grd (cW x.length (some (1)) (some (2))) (jb V 231 [.op [.os (5,0) p,.os (4,0) l,.os (3,0) d,iN h],(.rs (1,0) (wu (wt x (2)) (1)))] fun a b=>
 jl (1,0) a fun c=>unc b fun f g=>tk1 f fun i j k m=>(unn g (grd (cW x.length (some (3)) none) (jb V 254 [.op [.os (5,0) i,.os (4,0) j,.os (3,0) k,iN m],.rs (1,0) c,(.rs (1,0) (wu x (3))),.rs (1,1) e] fun n o=>
 iV n fun q=>unn q (unc o fun r t=>tk1 r fun u v w y=>(unn t (grd (decide (0 <= 2) && decide (2 < ni x.length)) (cT x 2 fun z=>
 asI .i64 z fun A=>jb V 244 [.op [.os (5,0) u,.os (4,0) v,.os (3,0) w,iN y],iN A,.rs (1,1) e] fun B C=>
 iV B fun E=>unn E (unc C fun F G=>tk1 F fun H I J K=>(unn G (jb V 237 [.op [.os (5,0) H,.os (4,0) I,.os (3,0) J,iN K],(.agg [iN (7),iN (0),iN (1),.str ({ data:=#[] })])] fun L M=>
 asI .i64 L fun _=>unc M fun N O=>tk1 N fun P Q R S=>(unn O (some ((.tup []),[.op [.os (5,0) P,.os (4,0) Q,.os (3,0) R,iN S]])))))))))))))))
 (some ((.tup []),[.op [.os (5,0) p,.os (4,0) l,.os (3,0) d,iN (1)]])))
 (some ((.tup []),[.op [.os (5,0) p,.os (4,0) l,.os (3,0) d,iN (1)]]))))
 (
 br (kc s { data:=#[108,101,116] })
 (
 br (decide (ni x.length >= 4))
 (
 grd (cW x.length (some (1)) (some (2))) (jb V 231 [.op [.os (5,0) p,.os (4,0) l,.os (3,0) d,iN h],(.rs (1,0) (wu (wt x (2)) (1)))] fun a b=>
 jl (1,0) a fun c=>unc b fun f g=>tk1 f fun i j k m=>(unn g (grd (cW x.length (some (3)) none) (jb V 254 [.op [.os (5,0) i,.os (4,0) j,.os (3,0) k,iN m],.rs (1,0) c,(.rs (1,0) (wu x (3))),.rs (1,1) e] fun n o=>
 iV n fun q=>unn q (unc o fun r t=>tk1 r fun u v w y=>(unn t (grd (decide (0 <= 2) && decide (2 < ni x.length)) (cT x 2 fun z=>
 asI .i64 z fun A=>jb V 244 [.op [.os (5,0) u,.os (4,0) v,.os (3,0) w,iN y],iN A,.rs (1,1) e] fun B C=>
 iV B fun E=>unn E (unc C fun F G=>tk1 F fun H I J K=>(unn G (jb V 237 [.op [.os (5,0) H,.os (4,0) I,.os (3,0) J,iN K],(.agg [iN (7),iN (0),iN (1),.str ({ data:=#[] })])] fun L M=>
 asI .i64 L fun _=>unc M fun N O=>tk1 N fun P Q R S=>(unn O (some ((.tup []),[.op [.os (5,0) P,.os (4,0) Q,.os (3,0) R,iN S]])))))))))))))))
 (some ((.tup []),[.op [.os (5,0) p,.os (4,0) l,.os (3,0) d,iN (1)]])))
 (some ((.tup []),[.op [.os (5,0) p,.os (4,0) l,.os (3,0) d,iN (1)]])))))
 (
 br (kc s { data:=#[102,110] })
 (
 br (decide (ni x.length >= 3))
 (
 grd (decide (0 <= 1) && decide (1 < ni x.length)) (cT x 1 fun a=>
 asI .i64 a fun b=>jb V 228 [.agg [.rs (5,0) p],iN b] fun c f=>
 tk2 c fun g i=>(unn f (br (!i)
 (some ((.tup []),[.op [.os (5,0) p,.os (4,0) l,.os (3,0) d,iN (1)]]))
 (
 jb V 231 [.op [.os (5,0) p,.os (4,0) l,.os (3,0) d,iN h],.rs (1,0) g] fun j k=>
 jl (1,0) j fun m=>unc k fun n o=>tk1 n fun q r t u=>(unn o (grd (cW x.length (some (2)) none) (jb V 254 [.op [.os (5,0) q,.os (4,0) r,.os (3,0) t,iN u],.rs (1,0) m,(.rs (1,0) (wu x (2))),.rs (1,1) e] fun v w=>
 iV v fun y=>unn y (unc w fun z A=>tk1 z fun B C E F=>(unn A (some ((.tup []),[.op [.os (5,0) B,.os (4,0) C,.os (3,0) E,iN F]]))))))))))))
 (
 br (kc s { data:=#[108,101,116] })
 (
 br (decide (ni x.length >= 4))
 (
 grd (cW x.length (some (1)) (some (2))) (jb V 231 [.op [.os (5,0) p,.os (4,0) l,.os (3,0) d,iN h],(.rs (1,0) (wu (wt x (2)) (1)))] fun a b=>
 jl (1,0) a fun c=>unc b fun f g=>tk1 f fun i j k m=>(unn g (grd (cW x.length (some (3)) none) (jb V 254 [.op [.os (5,0) i,.os (4,0) j,.os (3,0) k,iN m],.rs (1,0) c,(.rs (1,0) (wu x (3))),.rs (1,1) e] fun n o=>
 iV n fun q=>unn q (unc o fun r t=>tk1 r fun u v w y=>(unn t (grd (decide (0 <= 2) && decide (2 < ni x.length)) (cT x 2 fun z=>
 asI .i64 z fun A=>jb V 244 [.op [.os (5,0) u,.os (4,0) v,.os (3,0) w,iN y],iN A,.rs (1,1) e] fun B C=>
 iV B fun E=>unn E (unc C fun F G=>tk1 F fun H I J K=>(unn G (jb V 237 [.op [.os (5,0) H,.os (4,0) I,.os (3,0) J,iN K],(.agg [iN (7),iN (0),iN (1),.str ({ data:=#[] })])] fun L M=>
 asI .i64 L fun _=>unc M fun N O=>tk1 N fun P Q R S=>(unn O (some ((.tup []),[.op [.os (5,0) P,.os (4,0) Q,.os (3,0) R,iN S]])))))))))))))))
 (some ((.tup []),[.op [.os (5,0) p,.os (4,0) l,.os (3,0) d,iN (1)]])))
 (some ((.tup []),[.op [.os (5,0) p,.os (4,0) l,.os (3,0) d,iN (1)]]))))
 (
 br (kc s { data:=#[108,101,116] })
 (
 br (decide (ni x.length >= 4))
 (
 grd (cW x.length (some (1)) (some (2))) (jb V 231 [.op [.os (5,0) p,.os (4,0) l,.os (3,0) d,iN h],(.rs (1,0) (wu (wt x (2)) (1)))] fun a b=>
 jl (1,0) a fun c=>unc b fun f g=>tk1 f fun i j k m=>(unn g (grd (cW x.length (some (3)) none) (jb V 254 [.op [.os (5,0) i,.os (4,0) j,.os (3,0) k,iN m],.rs (1,0) c,(.rs (1,0) (wu x (3))),.rs (1,1) e] fun n o=>
 iV n fun q=>unn q (unc o fun r t=>tk1 r fun u v w y=>(unn t (grd (decide (0 <= 2) && decide (2 < ni x.length)) (cT x 2 fun z=>
 asI .i64 z fun A=>jb V 244 [.op [.os (5,0) u,.os (4,0) v,.os (3,0) w,iN y],iN A,.rs (1,1) e] fun B C=>
 iV B fun E=>unn E (unc C fun F G=>tk1 F fun H I J K=>(unn G (jb V 237 [.op [.os (5,0) H,.os (4,0) I,.os (3,0) J,iN K],(.agg [iN (7),iN (0),iN (1),.str ({ data:=#[] })])] fun L M=>
 asI .i64 L fun _=>unc M fun N O=>tk1 N fun P Q R S=>(unn O (some ((.tup []),[.op [.os (5,0) P,.os (4,0) Q,.os (3,0) R,iN S]])))))))))))))))
 (some ((.tup []),[.op [.os (5,0) p,.os (4,0) l,.os (3,0) d,iN (1)]])))
 (some ((.tup []),[.op [.os (5,0) p,.os (4,0) l,.os (3,0) d,iN (1)]]))))))
 (
 br (kc s { data:=#[100,111] })
 (
 br (decide (ni x.length >= 2))
 (
 grd (cW x.length (some (1)) none) (jb V 236 [.op [.os (5,0) p,.os (4,0) l,.os (3,0) d,iN h],(.rs (1,0) (wu x (1))),.rs (1,1) e] fun a b=>
 iV a fun c=>unn c (unc b fun f g=>tk1 f fun i j k m=>(unn g (some ((.tup []),[.op [.os (5,0) i,.os (4,0) j,.os (3,0) k,iN m]]))))))
 (
 br (kc s { data:=#[102,110] })
 (
 br (decide (ni x.length >= 3))
 (
 grd (decide (0 <= 1) && decide (1 < ni x.length)) (cT x 1 fun a=>
 asI .i64 a fun b=>jb V 228 [.agg [.rs (5,0) p],iN b] fun c f=>
 tk2 c fun g i=>(unn f (br (!i)
 (some ((.tup []),[.op [.os (5,0) p,.os (4,0) l,.os (3,0) d,iN (1)]]))
 (
 jb V 231 [.op [.os (5,0) p,.os (4,0) l,.os (3,0) d,iN h],.rs (1,0) g] fun j k=>
 jl (1,0) j fun m=>unc k fun n o=>tk1 n fun q r t u=>(unn o (grd (cW x.length (some (2)) none) (jb V 254 [.op [.os (5,0) q,.os (4,0) r,.os (3,0) t,iN u],.rs (1,0) m,(.rs (1,0) (wu x (2))),.rs (1,1) e] fun v w=>
 iV v fun y=>unn y (unc w fun z A=>tk1 z fun B C E F=>(unn A (some ((.tup []),[.op [.os (5,0) B,.os (4,0) C,.os (3,0) E,iN F]]))))))))))))
 (
 br (kc s { data:=#[108,101,116] })
 (
 br (decide (ni x.length >= 4))
 (
 grd (cW x.length (some (1)) (some (2))) (jb V 231 [.op [.os (5,0) p,.os (4,0) l,.os (3,0) d,iN h],(.rs (1,0) (wu (wt x (2)) (1)))] fun a b=>
 jl (1,0) a fun c=>unc b fun f g=>tk1 f fun i j k m=>(unn g (grd (cW x.length (some (3)) none) (jb V 254 [.op [.os (5,0) i,.os (4,0) j,.os (3,0) k,iN m],.rs (1,0) c,(.rs (1,0) (wu x (3))),.rs (1,1) e] fun n o=>
 iV n fun q=>unn q (unc o fun r t=>tk1 r fun u v w y=>(unn t (grd (decide (0 <= 2) && decide (2 < ni x.length)) (cT x 2 fun z=>
 asI .i64 z fun A=>jb V 244 [.op [.os (5,0) u,.os (4,0) v,.os (3,0) w,iN y],iN A,.rs (1,1) e] fun B C=>
 iV B fun E=>unn E (unc C fun F G=>tk1 F fun H I J K=>(unn G (jb V 237 [.op [.os (5,0) H,.os (4,0) I,.os (3,0) J,iN K],(.agg [iN (7),iN (0),iN (1),.str ({ data:=#[] })])] fun L M=>
 asI .i64 L fun _=>unc M fun N O=>tk1 N fun P Q R S=>(unn O (some ((.tup []),[.op [.os (5,0) P,.os (4,0) Q,.os (3,0) R,iN S]])))))))))))))))
 (some ((.tup []),[.op [.os (5,0) p,.os (4,0) l,.os (3,0) d,iN (1)]])))
 (some ((.tup []),[.op [.os (5,0) p,.os (4,0) l,.os (3,0) d,iN (1)]]))))
 (
 br (kc s { data:=#[108,101,116] })
 (
 br (decide (ni x.length >= 4))
 (
 grd (cW x.length (some (1)) (some (2))) (jb V 231 [.op [.os (5,0) p,.os (4,0) l,.os (3,0) d,iN h],(.rs (1,0) (wu (wt x (2)) (1)))] fun a b=>
 jl (1,0) a fun c=>unc b fun f g=>tk1 f fun i j k m=>(unn g (grd (cW x.length (some (3)) none) (jb V 254 [.op [.os (5,0) i,.os (4,0) j,.os (3,0) k,iN m],.rs (1,0) c,(.rs (1,0) (wu x (3))),.rs (1,1) e] fun n o=>
 iV n fun q=>unn q (unc o fun r t=>tk1 r fun u v w y=>(unn t (grd (decide (0 <= 2) && decide (2 < ni x.length)) (cT x 2 fun z=>
 asI .i64 z fun A=>jb V 244 [.op [.os (5,0) u,.os (4,0) v,.os (3,0) w,iN y],iN A,.rs (1,1) e] fun B C=>
 iV B fun E=>unn E (unc C fun F G=>tk1 F fun H I J K=>(unn G (jb V 237 [.op [.os (5,0) H,.os (4,0) I,.os (3,0) J,iN K],(.agg [iN (7),iN (0),iN (1),.str ({ data:=#[] })])] fun L M=>
 asI .i64 L fun _=>unc M fun N O=>tk1 N fun P Q R S=>(unn O (some ((.tup []),[.op [.os (5,0) P,.os (4,0) Q,.os (3,0) R,iN S]])))))))))))))))
 (some ((.tup []),[.op [.os (5,0) p,.os (4,0) l,.os (3,0) d,iN (1)]])))
 (some ((.tup []),[.op [.os (5,0) p,.os (4,0) l,.os (3,0) d,iN (1)]])))))
 (
 br (kc s { data:=#[102,110] })
 (
 br (decide (ni x.length >= 3))
 (
 grd (decide (0 <= 1) && decide (1 < ni x.length)) (cT x 1 fun a=>
 asI .i64 a fun b=>jb V 228 [.agg [.rs (5,0) p],iN b] fun c f=>
 tk2 c fun g i=>(unn f (br (!i)
 (some ((.tup []),[.op [.os (5,0) p,.os (4,0) l,.os (3,0) d,iN (1)]]))
 (
 jb V 231 [.op [.os (5,0) p,.os (4,0) l,.os (3,0) d,iN h],.rs (1,0) g] fun j k=>
 jl (1,0) j fun m=>unc k fun n o=>tk1 n fun q r t u=>(unn o (grd (cW x.length (some (2)) none) (jb V 254 [.op [.os (5,0) q,.os (4,0) r,.os (3,0) t,iN u],.rs (1,0) m,(.rs (1,0) (wu x (2))),.rs (1,1) e] fun v w=>
 iV v fun y=>unn y (unc w fun z A=>tk1 z fun B C E F=>(unn A (some ((.tup []),[.op [.os (5,0) B,.os (4,0) C,.os (3,0) E,iN F]]))))))))))))
 (
 br (kc s { data:=#[108,101,116] })
 (
 br (decide (ni x.length >= 4))
 (
 grd (cW x.length (some (1)) (some (2))) (jb V 231 [.op [.os (5,0) p,.os (4,0) l,.os (3,0) d,iN h],(.rs (1,0) (wu (wt x (2)) (1)))] fun a b=>
 jl (1,0) a fun c=>unc b fun f g=>tk1 f fun i j k m=>(unn g (grd (cW x.length (some (3)) none) (jb V 254 [.op [.os (5,0) i,.os (4,0) j,.os (3,0) k,iN m],.rs (1,0) c,(.rs (1,0) (wu x (3))),.rs (1,1) e] fun n o=>
 iV n fun q=>unn q (unc o fun r t=>tk1 r fun u v w y=>(unn t (grd (decide (0 <= 2) && decide (2 < ni x.length)) (cT x 2 fun z=>
 asI .i64 z fun A=>jb V 244 [.op [.os (5,0) u,.os (4,0) v,.os (3,0) w,iN y],iN A,.rs (1,1) e] fun B C=>
 iV B fun E=>unn E (unc C fun F G=>tk1 F fun H I J K=>(unn G (jb V 237 [.op [.os (5,0) H,.os (4,0) I,.os (3,0) J,iN K],(.agg [iN (7),iN (0),iN (1),.str ({ data:=#[] })])] fun L M=>
 asI .i64 L fun _=>unc M fun N O=>tk1 N fun P Q R S=>(unn O (some ((.tup []),[.op [.os (5,0) P,.os (4,0) Q,.os (3,0) R,iN S]])))))))))))))))
 (some ((.tup []),[.op [.os (5,0) p,.os (4,0) l,.os (3,0) d,iN (1)]])))
 (some ((.tup []),[.op [.os (5,0) p,.os (4,0) l,.os (3,0) d,iN (1)]]))))
 (
 br (kc s { data:=#[108,101,116] })
 (
 br (decide (ni x.length >= 4))
 (
 grd (cW x.length (some (1)) (some (2))) (jb V 231 [.op [.os (5,0) p,.os (4,0) l,.os (3,0) d,iN h],(.rs (1,0) (wu (wt x (2)) (1)))] fun a b=>
 jl (1,0) a fun c=>unc b fun f g=>tk1 f fun i j k m=>(unn g (grd (cW x.length (some (3)) none) (jb V 254 [.op [.os (5,0) i,.os (4,0) j,.os (3,0) k,iN m],.rs (1,0) c,(.rs (1,0) (wu x (3))),.rs (1,1) e] fun n o=>
 iV n fun q=>unn q (unc o fun r t=>tk1 r fun u v w y=>(unn t (grd (decide (0 <= 2) && decide (2 < ni x.length)) (cT x 2 fun z=>
 asI .i64 z fun A=>jb V 244 [.op [.os (5,0) u,.os (4,0) v,.os (3,0) w,iN y],iN A,.rs (1,1) e] fun B C=>
 iV B fun E=>unn E (unc C fun F G=>tk1 F fun H I J K=>(unn G (jb V 237 [.op [.os (5,0) H,.os (4,0) I,.os (3,0) J,iN K],(.agg [iN (7),iN (0),iN (1),.str ({ data:=#[] })])] fun L M=>
 asI .i64 L fun _=>unc M fun N O=>tk1 N fun P Q R S=>(unn O (some ((.tup []),[.op [.os (5,0) P,.os (4,0) Q,.os (3,0) R,iN S]])))))))))))))))
 (some ((.tup []),[.op [.os (5,0) p,.os (4,0) l,.os (3,0) d,iN (1)]])))
 (some ((.tup []),[.op [.os (5,0) p,.os (4,0) l,.os (3,0) d,iN (1)]])))))))
 (
 br (kc s { data:=#[105,102] })
 (
 br (ni x.length == 4)
 (
 grd (decide (0 <= 1) && decide (1 < ni x.length)) (cT x 1 fun a=>
 asI .i64 a fun b=>jb V 244 [.op [.os (5,0) p,.os (4,0) l,.os (3,0) d,iN h],iN b,.rs (1,1) e] fun c f=>
 iV c fun g=>unn g (unc f fun i j=>tk1 i fun k m n o=>(unn j (jb V 237 [.op [.os (5,0) k,.os (4,0) m,.os (3,0) n,iN o],(.agg [iN (4),iN (0),iN (0),.str ({ data:=#[] })])] fun q r=>
 asI .i64 q fun t=>unc r fun u v=>tk1 u fun w y z A=>(unn v (grd (decide (0 <= 2) && decide (2 < ni x.length)) (cT x 2 fun B=>
 asI .i64 B fun C=>jb V 244 [.op [.os (5,0) w,.os (4,0) y,.os (3,0) z,iN A],iN C,.rs (1,1) e] fun E F=>
 iV E fun G=>unn G (unc F fun H I=>tk1 H fun J K L M=>(unn I (jb V 237 [.op [.os (5,0) J,.os (4,0) K,.os (3,0) L,iN M],(.agg [iN (5),iN (0),iN (0),.str ({ data:=#[] })])] fun N O=>
 asI .i64 N fun P=>unc O fun Q R=>tk1 Q fun S T U W=>(unn R (jb V 253 [.op [.os (5,0) S,.os (4,0) T,.os (3,0) U,iN W],iN t] fun X Y=>
 iV X fun Z=>unn Z (unc Y fun a0 a1=>tk1 a0 fun a2 a3 a4 a5=>(unn a1 (grd (decide (0 <= 3) && decide (3 < ni x.length)) (cT x 3 fun a6=>
 asI .i64 a6 fun a7=>jb V 244 [.op [.os (5,0) a2,.os (4,0) a3,.os (3,0) a4,iN a5],iN a7,.rs (1,1) e] fun a8 a9=>
 iV a8 fun b0=>unn b0 (unc a9 fun b1 b2=>tk1 b1 fun b3 b4 b5 b6=>(unn b2 (jb V 253 [.op [.os (5,0) b3,.os (4,0) b4,.os (3,0) b5,iN b6],iN P] fun b7 b8=>
 iV b7 fun b9=>unn b9 (unc b8 fun c0 c1=>tk1 c0 fun c2 c3 c4 c5=>(unn c1 (some ((.tup []),[.op [.os (5,0) c2,.os (4,0) c3,.os (3,0) c4,iN c5]]))))))))))))))))))))))))
 (
 br (kc s { data:=#[100,111] })
 (
 br (decide (ni x.length >= 2))
 (
 grd (cW x.length (some (1)) none) (jb V 236 [.op [.os (5,0) p,.os (4,0) l,.os (3,0) d,iN h],(.rs (1,0) (wu x (1))),.rs (1,1) e] fun a b=>
 iV a fun c=>unn c (unc b fun f g=>tk1 f fun i j k m=>(unn g (some ((.tup []),[.op [.os (5,0) i,.os (4,0) j,.os (3,0) k,iN m]]))))))
 (
 br (kc s { data:=#[102,110] })
 (
 br (decide (ni x.length >= 3))
 (
 grd (decide (0 <= 1) && decide (1 < ni x.length)) (cT x 1 fun a=>
 asI .i64 a fun b=>jb V 228 [.agg [.rs (5,0) p],iN b] fun c f=>
 tk2 c fun g i=>(unn f (br (!i)
 (some ((.tup []),[.op [.os (5,0) p,.os (4,0) l,.os (3,0) d,iN (1)]]))
 (
 jb V 231 [.op [.os (5,0) p,.os (4,0) l,.os (3,0) d,iN h],.rs (1,0) g] fun j k=>
 jl (1,0) j fun m=>unc k fun n o=>tk1 n fun q r t u=>(unn o (grd (cW x.length (some (2)) none) (jb V 254 [.op [.os (5,0) q,.os (4,0) r,.os (3,0) t,iN u],.rs (1,0) m,(.rs (1,0) (wu x (2))),.rs (1,1) e] fun v w=>
 iV v fun y=>unn y (unc w fun z A=>tk1 z fun B C E F=>(unn A (some ((.tup []),[.op [.os (5,0) B,.os (4,0) C,.os (3,0) E,iN F]]))))))))))))
 (
 br (kc s { data:=#[108,101,116] })
 (
 br (decide (ni x.length >= 4))
 (
 grd (cW x.length (some (1)) (some (2))) (jb V 231 [.op [.os (5,0) p,.os (4,0) l,.os (3,0) d,iN h],(.rs (1,0) (wu (wt x (2)) (1)))] fun a b=>
 jl (1,0) a fun c=>unc b fun f g=>tk1 f fun i j k m=>(unn g (grd (cW x.length (some (3)) none) (jb V 254 [.op [.os (5,0) i,.os (4,0) j,.os (3,0) k,iN m],.rs (1,0) c,(.rs (1,0) (wu x (3))),.rs (1,1) e] fun n o=>
 iV n fun q=>unn q (unc o fun r t=>tk1 r fun u v w y=>(unn t (grd (decide (0 <= 2) && decide (2 < ni x.length)) (cT x 2 fun z=>
 asI .i64 z fun A=>jb V 244 [.op [.os (5,0) u,.os (4,0) v,.os (3,0) w,iN y],iN A,.rs (1,1) e] fun B C=>
 iV B fun E=>unn E (unc C fun F G=>tk1 F fun H I J K=>(unn G (jb V 237 [.op [.os (5,0) H,.os (4,0) I,.os (3,0) J,iN K],(.agg [iN (7),iN (0),iN (1),.str ({ data:=#[] })])] fun L M=>
 asI .i64 L fun _=>unc M fun N O=>tk1 N fun P Q R S=>(unn O (some ((.tup []),[.op [.os (5,0) P,.os (4,0) Q,.os (3,0) R,iN S]])))))))))))))))
 (some ((.tup []),[.op [.os (5,0) p,.os (4,0) l,.os (3,0) d,iN (1)]])))
 (some ((.tup []),[.op [.os (5,0) p,.os (4,0) l,.os (3,0) d,iN (1)]]))))
 (
 br (kc s { data:=#[108,101,116] })
 (
 br (decide (ni x.length >= 4))
 (
 grd (cW x.length (some (1)) (some (2))) (jb V 231 [.op [.os (5,0) p,.os (4,0) l,.os (3,0) d,iN h],(.rs (1,0) (wu (wt x (2)) (1)))] fun a b=>
 jl (1,0) a fun c=>unc b fun f g=>tk1 f fun i j k m=>(unn g (grd (cW x.length (some (3)) none) (jb V 254 [.op [.os (5,0) i,.os (4,0) j,.os (3,0) k,iN m],.rs (1,0) c,(.rs (1,0) (wu x (3))),.rs (1,1) e] fun n o=>
 iV n fun q=>unn q (unc o fun r t=>tk1 r fun u v w y=>(unn t (grd (decide (0 <= 2) && decide (2 < ni x.length)) (cT x 2 fun z=>
 asI .i64 z fun A=>jb V 244 [.op [.os (5,0) u,.os (4,0) v,.os (3,0) w,iN y],iN A,.rs (1,1) e] fun B C=>
 iV B fun E=>unn E (unc C fun F G=>tk1 F fun H I J K=>(unn G (jb V 237 [.op [.os (5,0) H,.os (4,0) I,.os (3,0) J,iN K],(.agg [iN (7),iN (0),iN (1),.str ({ data:=#[] })])] fun L M=>
 asI .i64 L fun _=>unc M fun N O=>tk1 N fun P Q R S=>(unn O (some ((.tup []),[.op [.os (5,0) P,.os (4,0) Q,.os (3,0) R,iN S]])))))))))))))))
 (some ((.tup []),[.op [.os (5,0) p,.os (4,0) l,.os (3,0) d,iN (1)]])))
 (some ((.tup []),[.op [.os (5,0) p,.os (4,0) l,.os (3,0) d,iN (1)]])))))
 (
 br (kc s { data:=#[102,110] })
 (
 br (decide (ni x.length >= 3))
 (
 grd (decide (0 <= 1) && decide (1 < ni x.length)) (cT x 1 fun a=>
 asI .i64 a fun b=>jb V 228 [.agg [.rs (5,0) p],iN b] fun c f=>
 tk2 c fun g i=>(unn f (br (!i)
 (some ((.tup []),[.op [.os (5,0) p,.os (4,0) l,.os (3,0) d,iN (1)]]))
 (
 jb V 231 [.op [.os (5,0) p,.os (4,0) l,.os (3,0) d,iN h],.rs (1,0) g] fun j k=>
 jl (1,0) j fun m=>unc k fun n o=>tk1 n fun q r t u=>(unn o (grd (cW x.length (some (2)) none) (jb V 254 [.op [.os (5,0) q,.os (4,0) r,.os (3,0) t,iN u],.rs (1,0) m,(.rs (1,0) (wu x (2))),.rs (1,1) e] fun v w=>
 iV v fun y=>unn y (unc w fun z A=>tk1 z fun B C E F=>(unn A (some ((.tup []),[.op [.os (5,0) B,.os (4,0) C,.os (3,0) E,iN F]]))))))))))))
 (
 br (kc s { data:=#[108,101,116] })
 (
 br (decide (ni x.length >= 4))
 (
 grd (cW x.length (some (1)) (some (2))) (jb V 231 [.op [.os (5,0) p,.os (4,0) l,.os (3,0) d,iN h],(.rs (1,0) (wu (wt x (2)) (1)))] fun a b=>
 jl (1,0) a fun c=>unc b fun f g=>tk1 f fun i j k m=>(unn g (grd (cW x.length (some (3)) none) (jb V 254 [.op [.os (5,0) i,.os (4,0) j,.os (3,0) k,iN m],.rs (1,0) c,(.rs (1,0) (wu x (3))),.rs (1,1) e] fun n o=>
 iV n fun q=>unn q (unc o fun r t=>tk1 r fun u v w y=>(unn t (grd (decide (0 <= 2) && decide (2 < ni x.length)) (cT x 2 fun z=>
 asI .i64 z fun A=>jb V 244 [.op [.os (5,0) u,.os (4,0) v,.os (3,0) w,iN y],iN A,.rs (1,1) e] fun B C=>
 iV B fun E=>unn E (unc C fun F G=>tk1 F fun H I J K=>(unn G (jb V 237 [.op [.os (5,0) H,.os (4,0) I,.os (3,0) J,iN K],(.agg [iN (7),iN (0),iN (1),.str ({ data:=#[] })])] fun L M=>
 asI .i64 L fun _=>unc M fun N O=>tk1 N fun P Q R S=>(unn O (some ((.tup []),[.op [.os (5,0) P,.os (4,0) Q,.os (3,0) R,iN S]])))))))))))))))
 (some ((.tup []),[.op [.os (5,0) p,.os (4,0) l,.os (3,0) d,iN (1)]])))
 (some ((.tup []),[.op [.os (5,0) p,.os (4,0) l,.os (3,0) d,iN (1)]]))))
 (
 br (kc s { data:=#[108,101,116] })
 (
 br (decide (ni x.length >= 4))
 (
 grd (cW x.length (some (1)) (some (2))) (jb V 231 [.op [.os (5,0) p,.os (4,0) l,.os (3,0) d,iN h],(.rs (1,0) (wu (wt x (2)) (1)))] fun a b=>
 jl (1,0) a fun c=>unc b fun f g=>tk1 f fun i j k m=>(unn g (grd (cW x.length (some (3)) none) (jb V 254 [.op [.os (5,0) i,.os (4,0) j,.os (3,0) k,iN m],.rs (1,0) c,(.rs (1,0) (wu x (3))),.rs (1,1) e] fun n o=>
 iV n fun q=>unn q (unc o fun r t=>tk1 r fun u v w y=>(unn t (grd (decide (0 <= 2) && decide (2 < ni x.length)) (cT x 2 fun z=>
 asI .i64 z fun A=>jb V 244 [.op [.os (5,0) u,.os (4,0) v,.os (3,0) w,iN y],iN A,.rs (1,1) e] fun B C=>
 iV B fun E=>unn E (unc C fun F G=>tk1 F fun H I J K=>(unn G (jb V 237 [.op [.os (5,0) H,.os (4,0) I,.os (3,0) J,iN K],(.agg [iN (7),iN (0),iN (1),.str ({ data:=#[] })])] fun L M=>
 asI .i64 L fun _=>unc M fun N O=>tk1 N fun P Q R S=>(unn O (some ((.tup []),[.op [.os (5,0) P,.os (4,0) Q,.os (3,0) R,iN S]])))))))))))))))
 (some ((.tup []),[.op [.os (5,0) p,.os (4,0) l,.os (3,0) d,iN (1)]])))
 (some ((.tup []),[.op [.os (5,0) p,.os (4,0) l,.os (3,0) d,iN (1)]]))))))
 (
 br (kc s { data:=#[100,111] })
 (
 br (decide (ni x.length >= 2))
 (
 grd (cW x.length (some (1)) none) (jb V 236 [.op [.os (5,0) p,.os (4,0) l,.os (3,0) d,iN h],(.rs (1,0) (wu x (1))),.rs (1,1) e] fun a b=>
 iV a fun c=>unn c (unc b fun f g=>tk1 f fun i j k m=>(unn g (some ((.tup []),[.op [.os (5,0) i,.os (4,0) j,.os (3,0) k,iN m]]))))))
 (
 br (kc s { data:=#[102,110] })
 (
 br (decide (ni x.length >= 3))
 (
 grd (decide (0 <= 1) && decide (1 < ni x.length)) (cT x 1 fun a=>
 asI .i64 a fun b=>jb V 228 [.agg [.rs (5,0) p],iN b] fun c f=>
 tk2 c fun g i=>(unn f (br (!i)
 (some ((.tup []),[.op [.os (5,0) p,.os (4,0) l,.os (3,0) d,iN (1)]]))
 (
 jb V 231 [.op [.os (5,0) p,.os (4,0) l,.os (3,0) d,iN h],.rs (1,0) g] fun j k=>
 jl (1,0) j fun m=>unc k fun n o=>tk1 n fun q r t u=>(unn o (grd (cW x.length (some (2)) none) (jb V 254 [.op [.os (5,0) q,.os (4,0) r,.os (3,0) t,iN u],.rs (1,0) m,(.rs (1,0) (wu x (2))),.rs (1,1) e] fun v w=>
 iV v fun y=>unn y (unc w fun z A=>tk1 z fun B C E F=>(unn A (some ((.tup []),[.op [.os (5,0) B,.os (4,0) C,.os (3,0) E,iN F]]))))))))))))
 (
 br (kc s { data:=#[108,101,116] })
 (
 br (decide (ni x.length >= 4))
 (
 grd (cW x.length (some (1)) (some (2))) (jb V 231 [.op [.os (5,0) p,.os (4,0) l,.os (3,0) d,iN h],(.rs (1,0) (wu (wt x (2)) (1)))] fun a b=>
 jl (1,0) a fun c=>unc b fun f g=>tk1 f fun i j k m=>(unn g (grd (cW x.length (some (3)) none) (jb V 254 [.op [.os (5,0) i,.os (4,0) j,.os (3,0) k,iN m],.rs (1,0) c,(.rs (1,0) (wu x (3))),.rs (1,1) e] fun n o=>
 iV n fun q=>unn q (unc o fun r t=>tk1 r fun u v w y=>(unn t (grd (decide (0 <= 2) && decide (2 < ni x.length)) (cT x 2 fun z=>
 asI .i64 z fun A=>jb V 244 [.op [.os (5,0) u,.os (4,0) v,.os (3,0) w,iN y],iN A,.rs (1,1) e] fun B C=>
 iV B fun E=>unn E (unc C fun F G=>tk1 F fun H I J K=>(unn G (jb V 237 [.op [.os (5,0) H,.os (4,0) I,.os (3,0) J,iN K],(.agg [iN (7),iN (0),iN (1),.str ({ data:=#[] })])] fun L M=>
 asI .i64 L fun _=>unc M fun N O=>tk1 N fun P Q R S=>(unn O (some ((.tup []),[.op [.os (5,0) P,.os (4,0) Q,.os (3,0) R,iN S]])))))))))))))))
 (some ((.tup []),[.op [.os (5,0) p,.os (4,0) l,.os (3,0) d,iN (1)]])))
 (some ((.tup []),[.op [.os (5,0) p,.os (4,0) l,.os (3,0) d,iN (1)]]))))
 (
 br (kc s { data:=#[108,101,116] })
 (
 br (decide (ni x.length >= 4))
 (
 grd (cW x.length (some (1)) (some (2))) (jb V 231 [.op [.os (5,0) p,.os (4,0) l,.os (3,0) d,iN h],(.rs (1,0) (wu (wt x (2)) (1)))] fun a b=>
 jl (1,0) a fun c=>unc b fun f g=>tk1 f fun i j k m=>(unn g (grd (cW x.length (some (3)) none) (jb V 254 [.op [.os (5,0) i,.os (4,0) j,.os (3,0) k,iN m],.rs (1,0) c,(.rs (1,0) (wu x (3))),.rs (1,1) e] fun n o=>
 iV n fun q=>unn q (unc o fun r t=>tk1 r fun u v w y=>(unn t (grd (decide (0 <= 2) && decide (2 < ni x.length)) (cT x 2 fun z=>
 asI .i64 z fun A=>jb V 244 [.op [.os (5,0) u,.os (4,0) v,.os (3,0) w,iN y],iN A,.rs (1,1) e] fun B C=>
 iV B fun E=>unn E (unc C fun F G=>tk1 F fun H I J K=>(unn G (jb V 237 [.op [.os (5,0) H,.os (4,0) I,.os (3,0) J,iN K],(.agg [iN (7),iN (0),iN (1),.str ({ data:=#[] })])] fun L M=>
 asI .i64 L fun _=>unc M fun N O=>tk1 N fun P Q R S=>(unn O (some ((.tup []),[.op [.os (5,0) P,.os (4,0) Q,.os (3,0) R,iN S]])))))))))))))))
 (some ((.tup []),[.op [.os (5,0) p,.os (4,0) l,.os (3,0) d,iN (1)]])))
 (some ((.tup []),[.op [.os (5,0) p,.os (4,0) l,.os (3,0) d,iN (1)]])))))
 (
 br (kc s { data:=#[102,110] })
 (
 br (decide (ni x.length >= 3))
 (
 grd (decide (0 <= 1) && decide (1 < ni x.length)) (cT x 1 fun a=>
 asI .i64 a fun b=>jb V 228 [.agg [.rs (5,0) p],iN b] fun c f=>
 tk2 c fun g i=>(unn f (br (!i)
 (some ((.tup []),[.op [.os (5,0) p,.os (4,0) l,.os (3,0) d,iN (1)]]))
 (
 jb V 231 [.op [.os (5,0) p,.os (4,0) l,.os (3,0) d,iN h],.rs (1,0) g] fun j k=>
 jl (1,0) j fun m=>unc k fun n o=>tk1 n fun q r t u=>(unn o (grd (cW x.length (some (2)) none) (jb V 254 [.op [.os (5,0) q,.os (4,0) r,.os (3,0) t,iN u],.rs (1,0) m,(.rs (1,0) (wu x (2))),.rs (1,1) e] fun v w=>
 iV v fun y=>unn y (unc w fun z A=>tk1 z fun B C E F=>(unn A (some ((.tup []),[.op [.os (5,0) B,.os (4,0) C,.os (3,0) E,iN F]]))))))))))))
 (
 br (kc s { data:=#[108,101,116] })
 (
 br (decide (ni x.length >= 4))
 (
 grd (cW x.length (some (1)) (some (2))) (jb V 231 [.op [.os (5,0) p,.os (4,0) l,.os (3,0) d,iN h],(.rs (1,0) (wu (wt x (2)) (1)))] fun a b=>
 jl (1,0) a fun c=>unc b fun f g=>tk1 f fun i j k m=>(unn g (grd (cW x.length (some (3)) none) (jb V 254 [.op [.os (5,0) i,.os (4,0) j,.os (3,0) k,iN m],.rs (1,0) c,(.rs (1,0) (wu x (3))),.rs (1,1) e] fun n o=>
 iV n fun q=>unn q (unc o fun r t=>tk1 r fun u v w y=>(unn t (grd (decide (0 <= 2) && decide (2 < ni x.length)) (cT x 2 fun z=>
 asI .i64 z fun A=>jb V 244 [.op [.os (5,0) u,.os (4,0) v,.os (3,0) w,iN y],iN A,.rs (1,1) e] fun B C=>
 iV B fun E=>unn E (unc C fun F G=>tk1 F fun H I J K=>(unn G (jb V 237 [.op [.os (5,0) H,.os (4,0) I,.os (3,0) J,iN K],(.agg [iN (7),iN (0),iN (1),.str ({ data:=#[] })])] fun L M=>
 asI .i64 L fun _=>unc M fun N O=>tk1 N fun P Q R S=>(unn O (some ((.tup []),[.op [.os (5,0) P,.os (4,0) Q,.os (3,0) R,iN S]])))))))))))))))
 (some ((.tup []),[.op [.os (5,0) p,.os (4,0) l,.os (3,0) d,iN (1)]])))
 (some ((.tup []),[.op [.os (5,0) p,.os (4,0) l,.os (3,0) d,iN (1)]]))))
 (
 br (kc s { data:=#[108,101,116] })
 (
 br (decide (ni x.length >= 4))
 (
 grd (cW x.length (some (1)) (some (2))) (jb V 231 [.op [.os (5,0) p,.os (4,0) l,.os (3,0) d,iN h],(.rs (1,0) (wu (wt x (2)) (1)))] fun a b=>
 jl (1,0) a fun c=>unc b fun f g=>tk1 f fun i j k m=>(unn g (grd (cW x.length (some (3)) none) (jb V 254 [.op [.os (5,0) i,.os (4,0) j,.os (3,0) k,iN m],.rs (1,0) c,(.rs (1,0) (wu x (3))),.rs (1,1) e] fun n o=>
 iV n fun q=>unn q (unc o fun r t=>tk1 r fun u v w y=>(unn t (grd (decide (0 <= 2) && decide (2 < ni x.length)) (cT x 2 fun z=>
 asI .i64 z fun A=>jb V 244 [.op [.os (5,0) u,.os (4,0) v,.os (3,0) w,iN y],iN A,.rs (1,1) e] fun B C=>
 iV B fun E=>unn E (unc C fun F G=>tk1 F fun H I J K=>(unn G (jb V 237 [.op [.os (5,0) H,.os (4,0) I,.os (3,0) J,iN K],(.agg [iN (7),iN (0),iN (1),.str ({ data:=#[] })])] fun L M=>
 asI .i64 L fun _=>unc M fun N O=>tk1 N fun P Q R S=>(unn O (some ((.tup []),[.op [.os (5,0) P,.os (4,0) Q,.os (3,0) R,iN S]])))))))))))))))
 (some ((.tup []),[.op [.os (5,0) p,.os (4,0) l,.os (3,0) d,iN (1)]])))
 (some ((.tup []),[.op [.os (5,0) p,.os (4,0) l,.os (3,0) d,iN (1)]])))))):=by
 exact (yD Tryz.func249 rfl _).trans (by kernel_rfl)
theorem JP (p:List D) (m1 m2 m3 m4 m5 m6 m7:Int) :V 218 [.op [.os (5,0) p,iN m1,iN m2,iN m3,iN m4,iN m5,iN m6,iN m7]] =
 grd (decide (0 <= m2) && decide (m2 < ni p.length)) (cT p m2.toNat fun a=>
 tk6 a fun b _ _ c d=>(br (b != 5)
 (some ((.tup [iN (0),.bool false]),[.op [.os (5,0) p,iN m1,iN m2,iN m3,iN m4,iN m5,iN m6,iN m7]]))
 (some ((.tup [iN c,.bool true]),[.op [.os (5,0) p,iN m1,iN d,iN m3,iN m4,iN m5,iN m6,iN m7]])))):=by
 exact (yD Tryz.func218 rfl _).trans (by kernel_rfl)
theorem JL (a0_0:List D) (a0_1 a0_2 a0_3 a0_4 a0_5 a0_6 a0_7:Int):V 63 [.agg [.rs (5,0) a0_0,iN a0_1,iN a0_2,iN a0_3,iN a0_4,iN a0_5,iN a0_6,iN a0_7]] =
 jb V 131 [.agg [.rs (5,0) a0_0]] fun a b=>
 asAgg a fun c=>unc c fun d e=>jl (5,0) d fun f=>unn e (unn b (some ((.agg [.os (5,0) f,iN a0_1,iN a0_2,iN a0_3,iN a0_4,iN a0_5,iN a0_6,iN a0_7]),[]))):=by
 exact (yD Tryz.func63 rfl _).trans (by kernel_rfl)
theorem FH (p0:List D) (p1 p2:Int) (p3 p4:List D):Bc p0 p1 p2 p3 p4 =
 br (decide (p2 < p1))
 (
 grd (decide (0 <= p2) && decide (p2 < ni p0.length)) (cT p0 p2.toNat fun a=>
 asI .i64 a fun b=>grd (decide (0 <= b) && decide (b < ni p4.length)) (cT p4 b.toNat fun _=>
 nam (List.set p4 b.toNat (D.bool true)) fun c=>
 Bc p0 p1 (w6 (p2 + 1)) p3 c)))
 (zD (w6 (ni p3.length - 1)) p3 p4):=by
 exact (yC _ _ _).trans (by kernel_rfl)
theorem EE (p0:ByteArray) (p1:Int):AF p0 p1 =
 br (decide (p1 < ni (ByteArray.size p0)))
 (
 grd (decide (0 <= p1) && decide (p1 < ni (ByteArray.size p0))) (jb V 180 [.int .u8 (bt p0 p1)] fun a b=>
 asB a fun c=>unn b (br (!c)
 (some ((.bool false),[]))
 (AF p0 (w6 (p1 + 1))))))
 (
 jb V 62 [(iN (ni (ByteArray.size p0))),iN (1),iN (12)] fun a b=>
 asB a fun c=>unn b (some ((.bool c),[]))):=by
 exact (yC _ _ _).trans (by kernel_rfl)
theorem FJ (p0:ByteArray) (p1:Int) (p2 p3 p4:List D):Cz p0 p1 p2 p3 p4 =
 br (decide (p1 < ni p4.length))
 (
 grd (decide (0 <= p1) && decide (p1 < ni p4.length)) (cT p4 p1.toNat fun a=>
 asAgg a fun b=>cT b 0 fun c=>
 asS c fun d=>br (kc d p0)
 (some ((iN p1),[]))
 (Cz p0 (w6 (p1 + 1)) p2 p3 p4)))
 (some ((iN (-1)),[])):=by
 exact (yC _ _ _).trans (by kernel_rfl)
theorem Ql (a0_:Bool):V 251 [.bool a0_] =
 br a0_
 (some ((.agg [iN (2),iN (1),.str ({ data:=#[] }),iN (0),iN (0)]),[]))
 (some ((.agg [iN (2),iN (0),.str ({ data:=#[] }),iN (0),iN (0)]),[])):=by
 exact (yD Tryz.func251 rfl _).trans (by kernel_rfl)
theorem Mq (p l d:List D) (h:Int) (s:ByteArray) (n x:List D):V 229 [.op [.os (5,0) p,.os (4,0) l,.os (3,0) d,iN h],.str s,.rs (1,0) n,.rs (1,0) x] =
 Ae s n x (0) h p l d:=by
 exact (yD Tryz.func229 rfl _).trans (by kernel_rfl)
theorem Tu (a0_ a1_ a2_:Int):V 62 [iN a0_,iN a1_,iN a2_] =
 br (decide (a0_ >= a1_))
 (some ((.bool (decide (a0_ <= a2_))),[]))
 (some ((.bool false),[])):=by
 exact (yD Tryz.func62 rfl _).trans (by kernel_rfl)
theorem JM (a0_0:List D):V 147 [.agg [.rs (5,0) a0_0]] =
 grd (decide (ni (List.length ([]++a0_0)) <= LIM)) (nam ([]++a0_0) fun a=>
 some ((.agg [.os (5,0) a]),[])):=by
 exact (yD Tryz.func147 rfl _).trans (by kernel_rfl)
theorem Gc (a0_:List D) (a1_:Int):V 221 [.rs (1,0) a0_,.int .u8 a1_] =
 zy a0_ a1_ (ni a0_.length) (0):=by
 exact (yD Tryz.func221 rfl _).trans (by kernel_rfl)
end Go.Eng
/-! the functions as the interpreter has them -/
namespace Go.Eng
open Go.Proofs Go.Proofs.Tryz
set_option maxRecDepth 100000
theorem Qg (a0_0:List D) (a0_1 a0_2:Int):V 74 [.op [.rs (1,0) a0_0,iN a0_1,iN a0_2]] =
 jb V 142 [.op [.rs (1,0) a0_0,iN a0_1,iN a0_2]] fun a b=>
 asAgg a fun c=>unc c fun d e=>jl (5,0) d fun f=>unc e fun g h=>jl (4,0) g fun i=>unc h fun j k=>jl (3,0) j fun l=>unn k (unc b fun m n=>nC m fun o=>unc o fun p q=>kq (1,0) p fun r=>unc q fun s t=>asI .i64 s fun u=>unc t fun v w=>asI .i64 v fun x=>unn w (unn n (jb V 76 [.op [.rs (1,0) r,iN u,iN x],(iN (ni i.length))] fun y z=>
 asI .i64 y fun A=>unc z fun B C=>nC B fun E=>unc E fun F G=>kq (1,0) F fun H=>unc G fun I J=>asI .i64 I fun K=>unc J fun L M=>asI .i64 L fun N=>unn M (unn C (jb V 76 [.op [.rs (1,0) H,iN K,iN N],iN (25)] fun O P=>
 asI .i64 O fun Q=>unc P fun R S=>nC R fun T=>unc T fun U W=>kq (1,0) U fun X=>unc W fun Y Z=>asI .i64 Y fun a0=>unc Z fun a1 a2=>asI .i64 a1 fun a3=>unn a2 (unn S (br (Q == 0)
 (
 jb V 76 [.op [.rs (1,0) X,iN a0,iN a3],iN (11)] fun a4 a5=>
 asI .i64 a4 fun a6=>unc a5 fun a7 a8=>nC a7 fun a9=>unc a9 fun b0 b1=>kq (1,0) b0 fun b2=>unc b1 fun b3 b4=>asI .i64 b3 fun b5=>unc b4 fun b6 b7=>asI .i64 b6 fun b8=>unn b7 (unn a8 (grd (decide (0 <= A) && decide (A < ni i.length)) (cT i A.toNat fun b9=>
 asAgg b9 fun c0=>nam (List.set i A.toNat (D.agg (List.take 0 c0++[iN a6]++List.drop 1 c0))) fun c1=>
 some ((.agg [.os (5,0) f,.os (4,0) c1,.os (3,0) l]),[.op [.rs (1,0) b2,iN b5,iN b8]])))))
 (
 br (Q == 1)
 (
 jb V 122 [.op [.rs (1,0) X,iN a0,iN a3],(.rs (1,0) [iN (-1),iN (0),iN A,(iN (w6 (A + 1))),(iN (ni i.length)),(iN (w6 (ni i.length + 1)))])] fun a4 a5=>
 asI .i64 a4 fun a6=>unc a5 fun a7 a8=>nC a7 fun a9=>unc a9 fun b0 b1=>kq (1,0) b0 fun b2=>unc b1 fun b3 b4=>asI .i64 b3 fun b5=>unc b4 fun b6 b7=>asI .i64 b6 fun b8=>unn b7 (unn a8 (grd (decide (0 <= A) && decide (A < ni i.length)) (cT i A.toNat fun b9=>
 asAgg b9 fun c0=>nam (List.set i A.toNat (D.agg (List.take 1 c0++[iN a6]++List.drop 2 c0))) fun c1=>
 some ((.agg [.os (5,0) f,.os (4,0) c1,.os (3,0) l]),[.op [.rs (1,0) b2,iN b5,iN b8]])))))
 (
 br (Q == 2)
 (
 jb V 76 [.op [.rs (1,0) X,iN a0,iN a3],iN (7)] fun a4 a5=>
 asI .i64 a4 fun a6=>unc a5 fun a7 a8=>nC a7 fun a9=>unc a9 fun b0 b1=>kq (1,0) b0 fun b2=>unc b1 fun b3 b4=>asI .i64 b3 fun b5=>unc b4 fun b6 b7=>asI .i64 b6 fun b8=>unn b7 (unn a8 (grd (decide (0 <= A) && decide (A < ni i.length)) (cT i A.toNat fun b9=>
 asAgg b9 fun c0=>nam (List.set i A.toNat (D.agg (List.take 2 c0++[iN (w6 (a6 - 1))]++List.drop 3 c0))) fun c1=>
 some ((.agg [.os (5,0) f,.os (4,0) c1,.os (3,0) l]),[.op [.rs (1,0) b2,iN b5,iN b8]])))))
 (
 br (Q == 3)
 (
 jb V 75 [.op [.rs (1,0) X,iN a0,iN a3],(.rs (1,0) [.str ({ data:=#[] }),.str ({ data:=#[97] }),.str ({ data:=#[65] })])] fun a4 a5=>
 asS a4 fun a6=>unc a5 fun a7 a8=>nC a7 fun a9=>unc a9 fun b0 b1=>kq (1,0) b0 fun b2=>unc b1 fun b3 b4=>asI .i64 b3 fun b5=>unc b4 fun b6 b7=>asI .i64 b6 fun b8=>unn b7 (unn a8 (grd (decide (0 <= A) && decide (A < ni i.length)) (cT i A.toNat fun b9=>
 asAgg b9 fun c0=>nam (List.set i A.toNat (D.agg (List.take 3 c0++[D.str a6]++List.drop 4 c0))) fun c1=>
 some ((.agg [.os (5,0) f,.os (4,0) c1,.os (3,0) l]),[.op [.rs (1,0) b2,iN b5,iN b8]])))))
 (
 br (Q == 4)
 (
 jb V 75 [.op [.rs (1,0) X,iN a0,iN a3],(.rs (1,0) [.str ({ data:=#[102] }),.str ({ data:=#[109,97,105,110] }),.str ({ data:=#[122,122] }),.str ({ data:=#[65] })])] fun a4 a5=>
 asS a4 fun a6=>unc a5 fun a7 a8=>nC a7 fun a9=>unc a9 fun b0 b1=>kq (1,0) b0 fun b2=>unc b1 fun b3 b4=>asI .i64 b3 fun b5=>unc b4 fun b6 b7=>asI .i64 b6 fun b8=>unn b7 (unn a8 (jb V 76 [.op [.rs (1,0) b2,iN b5,iN b8],iN (60)] fun b9 c0=>
 asI .i64 b9 fun c1=>unc c0 fun c2 c3=>nC c2 fun c4=>unc c4 fun c5 c6=>kq (1,0) c5 fun c7=>unc c6 fun c8 c9=>asI .i64 c8 fun d0=>unc c9 fun d1 d2=>asI .i64 d1 fun d3=>unn d2 (unn c3 (jb V 76 [.op [.rs (1,0) c7,iN d0,iN d3],iN (6)] fun d4 d5=>
 asI .i64 d4 fun d6=>unc d5 fun d7 d8=>nC d7 fun d9=>unc d9 fun e0 e1=>kq (1,0) e0 fun e2=>unc e1 fun e3 e4=>asI .i64 e3 fun e5=>unc e4 fun e6 e7=>asI .i64 e6 fun e8=>unn e7 (unn d8 (grd (decide (ni (List.length (l++[D.agg [D.str a6,iN c1,iN d6]])) <= LIM)) (nam (l++[D.agg [D.str a6,iN c1,iN d6]]) fun e9=>
 some ((.agg [.os (5,0) f,.os (4,0) i,.os (3,0) e9]),[.op [.rs (1,0) e2,iN e5,iN e8]])))))))))
 (
 br (Q == 5)
 (
 jb V 90 [.op [.rs (1,0) X,iN a0,iN a3]] fun a4 a5=>
 asAgg a4 fun a6=>unc a6 fun a7 a8=>jl (5,0) a7 fun a9=>unn a8 (unc a5 fun b0 b1=>nC b0 fun b2=>unc b2 fun b3 b4=>kq (1,0) b3 fun b5=>unc b4 fun b6 b7=>asI .i64 b6 fun b8=>unc b7 fun b9 c0=>asI .i64 b9 fun c1=>unn c0 (unn b1 (some ((.agg [.os (5,0) a9,.os (4,0) i,.os (3,0) l]),[.op [.rs (1,0) b5,iN b8,iN c1]])))))
 (some ((.agg [.os (5,0) f,.os (4,0) i,.os (3,0) l]),[.op [.rs (1,0) X,iN a0,iN a3]])))))))))))))):=by
 exact (yD Tryz.func74 rfl _).trans (by kernel_rfl)
theorem JD (p0:ByteArray) (p1:Nat) (p2:Int) (p3 p4 p5 p6:List D):y1 p0 p1 p2 p3 p4 p5 p6 =
 br (decide (p2 < ni (ByteArray.size p0)))
 (
 grd (decide (0 <= p2) && decide (p2 < ni (ByteArray.size p0))) (br (bt p0 p2 == 32)
 (y1 p0 p1 (w6 (p2 + 1)) p3 p4 p5 p6)
 (
 br (bt p0 p2 == 40)
 (grd (decide
 (ni
 (List.length
 (part p5 (some (0,p1)) ++
 [D.agg
 [iN p2,
 D.os
 (TypeInfo.size (Tables.types (Program.toTables Tryz.prog))[3],
 match qU Tryz.prog (3) with
 | true=>0
 | false=>1)
 []]])) <=
 LIM)) (nam (part p5 (some (0,p1)) ++
 [D.agg
 [iN p2,
 D.os
 (TypeInfo.size (Tables.types (Program.toTables Tryz.prog))[3],
 match qU Tryz.prog (3) with
 | true=>0
 | false=>1)
 []]]) fun a=>
 y4 p0 (w6 (p2 + 1)) p3 p4 a p6))
 (
 br (bt p0 p2 == 41)
 (
 br (w6 (ni p1 - 1) == 0)
 (
 jb V 147 [.agg [.rs (5,0) p3]] fun a b=>
 asAgg a fun c=>unc c fun d e=>jl (5,0) d fun f=>unn e (unn b (some ((.tup [.agg [.os (5,0) f],.os (1,0) p4,iN (5),iN p2]),[]))))
 (
 grd (decide (0 <= w6 (ni p1 - 1)) && decide (w6 (ni p1 - 1) < ni p1) && decide (0 + p1 <= List.length p5)) (cT p5 (0 + Int.toNat (w6 (ni p1 - 1))) fun a=>
 asAgg a fun b=>cT b 1 fun c=>
 jl (1,0) c fun d=>asAgg a fun e=>jb V 210 [.op [.os (5,0) p6],.rs (1,0) d] fun f g=>
 asI .i64 f fun h=>unc g fun i j=>nC i fun k=>unc k fun l m=>jl (5,0) l fun n=>unn m (unn j (grd (gW p1 (List.length (List.set p5 (0 + Int.toNat (w6 (ni p1 - 1))) (D.agg (List.take 1 e++[D.dead]++List.drop 2 e))) - 0) none (some (w6 (ni p1 - 1)))) (grd (decide (0 <= w6 (w6 (ni p1 - 1) - 1)) && decide (w6 (w6 (ni p1 - 1) - 1) < ni (Int.toNat (w6 (ni p1 - 1)))) && decide (0 + Int.toNat (w6 (ni p1 - 1)) <= List.length (List.set p5 (0 + Int.toNat (w6 (ni p1 - 1))) (D.agg (List.take 1 e++[D.dead]++List.drop 2 e))))) (cT (List.set p5 (0 + Int.toNat (w6 (ni p1 - 1))) (D.agg (List.take 1 e++[D.dead]++List.drop 2 e))) (0 + Int.toNat (w6 (w6 (ni p1 - 1) - 1))) fun o=>
 asAgg o fun p=>cT p 1 fun q=>
 jl (1,0) q fun r=>asAgg o fun s=>grd (decide (ni (List.length (r++[iN h])) <= LIM)) (nam (r++[iN h]) fun t=>
 grd (decide (0 <= w6 (w6 (ni p1 - 1) - 1)) && decide (w6 (w6 (ni p1 - 1) - 1) < ni (Int.toNat (w6 (ni p1 - 1)))) && decide (0 + Int.toNat (w6 (ni p1 - 1)) <= List.length (List.set (List.set p5 (0 + Int.toNat (w6 (ni p1 - 1))) (D.agg (List.take 1 e++[D.dead]++List.drop 2 e))) (0 + Int.toNat (w6 (w6 (ni p1 - 1) - 1))) (D.agg (List.take 1 s++[D.dead]++List.drop 2 s))))) (cT (List.set (List.set p5 (0 + Int.toNat (w6 (ni p1 - 1))) (D.agg (List.take 1 e++[D.dead]++List.drop 2 e))) (0 + Int.toNat (w6 (w6 (ni p1 - 1) - 1))) (D.agg (List.take 1 s++[D.dead]++List.drop 2 s))) (0 + Int.toNat (w6 (w6 (ni p1 - 1) - 1))) fun u=>
 asAgg u fun v=>nam (List.set (List.set (List.set p5 (0 + Int.toNat (w6 (ni p1 - 1))) (D.agg (List.take 1 e++[D.dead]++List.drop 2 e))) (0 + Int.toNat (w6 (w6 (ni p1 - 1) - 1))) (D.agg (List.take 1 s++[D.dead]++List.drop 2 s))) (0 + Int.toNat (w6 (w6 (ni p1 - 1) - 1)))
 (D.agg
 (List.take 1 v ++
 [D.os
 (TypeInfo.size (Tables.types (Program.toTables Tryz.prog))[3],
 match qU Tryz.prog (3) with
 | true=>0
 | false=>1)
 t] ++
 List.drop 2 v))) fun w=>
 y1 p0 (Int.toNat (w6 (ni p1 - 1))) (w6 (p2 + 1)) p3 p4 w n)))))))))
 (
 jb V 211 [.int .u8 (bt p0 p2)] fun a b=>
 asB a fun c=>unn b (br c
 (zH p0 p1 p2 (w6 (ni p1 - 1)) p2 p3 p4 p5 p6)
 (
 jb V 147 [.agg [.rs (5,0) p3]] fun d e=>
 asAgg d fun f=>unc f fun g h=>jl (5,0) g fun i=>unn h (unn e (some ((.tup [.agg [.os (5,0) i],.os (1,0) p4,iN (2),iN p2]),[]))))))))))
 (
 br (decide (ni p1 > 1))
 (
 jb V 147 [.agg [.rs (5,0) p3]] fun a b=>
 asAgg a fun c=>unc c fun d e=>jl (5,0) d fun f=>unn e (unn b (grd (decide (0 <= w6 (ni p1 - 1)) && decide (w6 (ni p1 - 1) < ni p1) && decide (0 + p1 <= List.length p5)) (cT p5 (0 + Int.toNat (w6 (ni p1 - 1))) fun g=>
 asAgg g fun h=>cT h 0 fun i=>
 asI .i64 i fun j=>some ((.tup [.agg [.os (5,0) f],.os (1,0) p4,iN (4),iN j]),[])))))
 (
 jb V 60 [.agg [.rs (5,0) p6]] fun a b=>
 asB a fun c=>unn b (br (!c)
 (
 jb V 147 [.agg [.rs (5,0) p3]] fun d e=>
 asAgg d fun f=>unc f fun g h=>jl (5,0) g fun i=>unn h (unn e (some ((.tup [.agg [.os (5,0) i],.os (1,0) p4,iN (6),iN (0)]),[]))))
 (
 grd (decide (0 <= 0) && decide (0 < ni p1) && decide (0 + p1 <= List.length p5)) (cT p5 0 fun d=>
 asAgg d fun e=>cT e 1 fun f=>
 jl (1,0) f fun g=>asAgg d fun h=>grd (decide (ni (List.length ([]++g)) <= LIM)) (nam ([]++g) fun i=>
 some ((.tup [.agg [.os (5,0) p6],.os (1,0) i,iN (0),(iN (ni (ByteArray.size p0)))]),[]))))))):=by
 exact (yC _ _ _).trans (by kernel_rfl)
theorem NU (a0_0 a0_1 a0_2:List D) (a1_:Int):V 123 [.agg [.rs (5,0) a0_0,.rs (4,0) a0_1,.rs (3,0) a0_2],iN a1_] =
 grd (decide (0 <= a1_) && decide (a1_ < ni a0_1.length)) (cT a0_1 a1_.toNat fun a=>
 Vt a fun b c d e=>(br (b == 1)
 (
 jb V 56 [.agg [.rs (5,0) a0_0],iN c] fun f g=>
 asB f fun h=>unn g (br h
 (
 br (d == 0)
 (some ((.bool (kc e { data:=#[] })),[]))
 (some ((.bool false),[])))
 (some ((.bool false),[]))))
 (
 br (b == 2)
 (
 jb V 58 [iN c,iN (0),iN (20)] fun f g=>
 asB f fun h=>unn g (jb V 58 [iN d,iN (0),iN (3)] fun i j=>
 asB i fun k=>unn j (br h
 (
 br k
 (some ((.bool (kc e { data:=#[] })),[]))
 (some ((.bool false),[])))
 (some ((.bool false),[])))))
 (
 br (b == 3)
 (
 jb V 124 [.str e] fun f g=>
 asB f fun h=>unn g (br (c == 0)
 (
 br (d == 0)
 (some ((.bool h),[]))
 (some ((.bool false),[])))
 (some ((.bool false),[]))))
 (
 br (b == 4)
 (
 br (b == 4)
 (
 jb V 58 [iN c,(iN (w6 (a1_ + 1))),(iN (ni a0_1.length))] fun f g=>
 asB f fun h=>unn g (br h
 (
 br (d == 0)
 (some ((.bool (kc e { data:=#[] })),[]))
 (some ((.bool false),[])))
 (some ((.bool false),[]))))
 (
 br (b == 6)
 (
 jb V 58 [iN c,(iN (w6 (a1_ + 1))),(iN (w6 (ni a0_1.length - 1)))] fun f g=>
 asB f fun h=>unn g (jb V 58 [iN d,iN (0),iN (4)] fun i j=>
 asB i fun k=>unn j (br h
 (
 br k
 (some ((.bool (kc e { data:=#[] })),[]))
 (some ((.bool false),[])))
 (some ((.bool false),[])))))
 (
 br (b == 7)
 (
 jb V 58 [iN d,iN (0),iN (4)] fun f g=>
 asB f fun h=>unn g (br (c == 0)
 (
 br h
 (some ((.bool (kc e { data:=#[] })),[]))
 (some ((.bool false),[])))
 (some ((.bool false),[]))))
 (
 br (b == 8)
 (
 br (b == 8)
 (
 br (c == 0)
 (
 br (d == 0)
 (some ((.bool (kc e { data:=#[] })),[]))
 (some ((.bool false),[])))
 (some ((.bool false),[])))
 (some ((.bool false),[])))
 (
 br (b == 9)
 (
 br (c == 0)
 (
 br (d == 0)
 (some ((.bool (kc e { data:=#[] })),[]))
 (some ((.bool false),[])))
 (some ((.bool false),[])))
 (some ((.bool false),[])))))))
 (
 br (b == 5)
 (
 jb V 58 [iN c,(iN (w6 (a1_ + 1))),(iN (ni a0_1.length))] fun f g=>
 asB f fun h=>unn g (br h
 (
 br (d == 0)
 (some ((.bool (kc e { data:=#[] })),[]))
 (some ((.bool false),[])))
 (some ((.bool false),[]))))
 (
 br (b == 6)
 (
 jb V 58 [iN c,(iN (w6 (a1_ + 1))),(iN (w6 (ni a0_1.length - 1)))] fun f g=>
 asB f fun h=>unn g (jb V 58 [iN d,iN (0),iN (4)] fun i j=>
 asB i fun k=>unn j (br h
 (
 br k
 (some ((.bool (kc e { data:=#[] })),[]))
 (some ((.bool false),[])))
 (some ((.bool false),[])))))
 (
 br (b == 7)
 (
 jb V 58 [iN d,iN (0),iN (4)] fun f g=>
 asB f fun h=>unn g (br (c == 0)
 (
 br h
 (some ((.bool (kc e { data:=#[] })),[]))
 (some ((.bool false),[])))
 (some ((.bool false),[]))))
 (
 br (b == 8)
 (
 br (b == 8)
 (
 br (c == 0)
 (
 br (d == 0)
 (some ((.bool (kc e { data:=#[] })),[]))
 (some ((.bool false),[])))
 (some ((.bool false),[])))
 (some ((.bool false),[])))
 (
 br (b == 9)
 (
 br (c == 0)
 (
 br (d == 0)
 (some ((.bool (kc e { data:=#[] })),[]))
 (some ((.bool false),[])))
 (some ((.bool false),[])))
 (some ((.bool false),[])))))))))))):=by
 exact (yD Tryz.func123 rfl _).trans (by kernel_rfl)
theorem Og (a0_0 a0_1 a0_2:List D) (a1_:Int):V 127 [.agg [.rs (5,0) a0_0,.rs (4,0) a0_1,.rs (3,0) a0_2],iN a1_] =
 grd (decide (0 <= a1_) && decide (a1_ < ni a0_1.length)) (cT a0_1 a1_.toNat fun a=>
 Vt a fun b c d e=>(br (b == 1)
 (
 br (b == b && (c == c && (d == 0 && (kc e { data:=#[] } && true))))
 (
 jb V 61 [.agg [.rs (5,0) a0_0],iN c] fun f g=>
 asB f fun h=>unn g (some ((.bool h),[])))
 (some ((.bool false),[])))
 (
 br (b == 2)
 (
 br (kc e { data:=#[] })
 (
 jb V 62 [iN c,iN (0),iN (20)] fun f g=>
 asB f fun h=>unn g (br h
 (
 jb V 62 [iN d,iN (0),iN (3)] fun i j=>
 asB i fun k=>unn j (some ((.bool k),[])))
 (some ((.bool false),[]))))
 (some ((.bool false),[])))
 (
 br (b == 3)
 (
 br (b == b && (c == 0 && (d == 0 && (kc e e && true))))
 (
 jb V 128 [.str e] fun f g=>
 asB f fun h=>unn g (some ((.bool h),[])))
 (some ((.bool false),[])))
 (
 br (b == 4)
 (
 br (b == 4)
 (
 br (b == b && (c == c && (d == 0 && (kc e { data:=#[] } && true))))
 (
 br (decide (c > a1_))
 (some ((.bool (decide (c <= ni a0_1.length))),[]))
 (some ((.bool false),[])))
 (some ((.bool false),[])))
 (
 br (b == 6)
 (
 br (kc e { data:=#[] })
 (
 br (decide (c > a1_))
 (
 br (decide (c < ni a0_1.length))
 (
 jb V 62 [iN d,iN (0),iN (4)] fun f g=>
 asB f fun h=>unn g (some ((.bool h),[])))
 (some ((.bool false),[])))
 (some ((.bool false),[])))
 (some ((.bool false),[])))
 (
 br (b == 7)
 (
 br (b == b && (c == 0 && (d == d && (kc e { data:=#[] } && true))))
 (
 jb V 62 [iN d,iN (0),iN (4)] fun f g=>
 asB f fun h=>unn g (some ((.bool h),[])))
 (some ((.bool false),[])))
 (
 br (b == 8)
 (
 br (b == 8)
 (some ((.bool (b == b && (c == 0 && (d == 0 && (kc e { data:=#[] } && true))))),[]))
 (some ((.bool false),[])))
 (
 br (b == 9)
 (some ((.bool (b == b && (c == 0 && (d == 0 && (kc e { data:=#[] } && true))))),[]))
 (some ((.bool false),[])))))))
 (
 br (b == 5)
 (
 br (b == b && (c == c && (d == 0 && (kc e { data:=#[] } && true))))
 (
 br (decide (c > a1_))
 (some ((.bool (decide (c <= ni a0_1.length))),[]))
 (some ((.bool false),[])))
 (some ((.bool false),[])))
 (
 br (b == 6)
 (
 br (kc e { data:=#[] })
 (
 br (decide (c > a1_))
 (
 br (decide (c < ni a0_1.length))
 (
 jb V 62 [iN d,iN (0),iN (4)] fun f g=>
 asB f fun h=>unn g (some ((.bool h),[])))
 (some ((.bool false),[])))
 (some ((.bool false),[])))
 (some ((.bool false),[])))
 (
 br (b == 7)
 (
 br (b == b && (c == 0 && (d == d && (kc e { data:=#[] } && true))))
 (
 jb V 62 [iN d,iN (0),iN (4)] fun f g=>
 asB f fun h=>unn g (some ((.bool h),[])))
 (some ((.bool false),[])))
 (
 br (b == 8)
 (
 br (b == 8)
 (some ((.bool (b == b && (c == 0 && (d == 0 && (kc e { data:=#[] } && true))))),[]))
 (some ((.bool false),[])))
 (
 br (b == 9)
 (some ((.bool (b == b && (c == 0 && (d == 0 && (kc e { data:=#[] } && true))))),[]))
 (some ((.bool false),[])))))))))))):=by
 exact (yD Tryz.func127 rfl _).trans (by kernel_rfl)
theorem PN (a0_0 a0_1:Int) (a0_2:ByteArray) (a0_3 a0_4 a1_:Int):V 126 [.agg [iN a0_0,iN a0_1,.str a0_2,iN a0_3,iN a0_4],iN a1_] =
 br (a0_0 == 1)
 (
 jb V 58 [iN a0_1,iN (0),iN (0)] fun a b=>
 asB a fun c=>unn b (br c
 (
 br (kc a0_2 { data:=#[] })
 (
 br (a0_3 == 0)
 (some ((.bool (a0_4 == 0)),[]))
 (some ((.bool false),[])))
 (some ((.bool false),[])))
 (some ((.bool false),[]))))
 (
 br (a0_0 == 2)
 (
 jb V 58 [iN a0_1,iN (0),iN (1)] fun a b=>
 asB a fun c=>unn b (br c
 (
 br (kc a0_2 { data:=#[] })
 (
 br (a0_3 == 0)
 (some ((.bool (a0_4 == 0)),[]))
 (some ((.bool false),[])))
 (some ((.bool false),[])))
 (some ((.bool false),[]))))
 (
 br (a0_0 == 3)
 (
 jb V 58 [iN a0_1,iN (-1000000000),iN (1000000000)] fun a b=>
 asB a fun c=>unn b (br c
 (
 br (kc a0_2 { data:=#[] })
 (
 br (a0_3 == 0)
 (some ((.bool (a0_4 == 0)),[]))
 (some ((.bool false),[])))
 (some ((.bool false),[])))
 (some ((.bool false),[]))))
 (
 br (a0_0 == 4)
 (
 jb V 124 [.str a0_2] fun a b=>
 asB a fun c=>unn b (jb V 58 [iN a0_1,iN (0),iN (0)] fun d e=>
 asB d fun f=>unn e (br f
 (
 br c
 (
 br (a0_3 == 0)
 (some ((.bool (a0_4 == 0)),[]))
 (some ((.bool false),[])))
 (some ((.bool false),[])))
 (some ((.bool false),[])))))
 (
 br (a0_0 == 5)
 (
 jb V 58 [iN a0_3,iN (0),(iN (w6 (a1_ - 1)))] fun a b=>
 asB a fun c=>unn b (jb V 58 [iN a0_4,iN (0),(iN (w6 (a1_ - 1)))] fun d e=>
 asB d fun f=>unn e (jb V 58 [iN a0_1,iN (0),iN (0)] fun g h=>
 asB g fun i=>unn h (br i
 (
 br (kc a0_2 { data:=#[] })
 (
 br c
 (some ((.bool f),[]))
 (some ((.bool false),[])))
 (some ((.bool false),[])))
 (some ((.bool false),[]))))))
 (
 br (a0_0 == 6)
 (
 jb V 58 [iN a0_3,iN (0),(iN (w6 (a1_ - 1)))] fun a b=>
 asB a fun c=>unn b (jb V 58 [iN a0_1,iN (0),iN (1000000000)] fun d e=>
 asB d fun f=>unn e (br f
 (
 br (kc a0_2 { data:=#[] })
 (
 br c
 (some ((.bool (a0_4 == 0)),[]))
 (some ((.bool false),[])))
 (some ((.bool false),[])))
 (some ((.bool false),[])))))
 (
 br (a0_0 == 7)
 (
 jb V 58 [iN a0_3,iN (0),(iN (w6 (a1_ - 1)))] fun a b=>
 asB a fun c=>unn b (jb V 58 [iN a0_1,iN (0),iN (0)] fun d e=>
 asB d fun f=>unn e (br f
 (
 br (kc a0_2 { data:=#[] })
 (
 br c
 (some ((.bool (a0_4 == 0)),[]))
 (some ((.bool false),[])))
 (some ((.bool false),[])))
 (some ((.bool false),[])))))
 (
 br (a0_0 == 8)
 (
 jb V 58 [iN a0_1,iN (0),iN (99)] fun a b=>
 asB a fun c=>unn b (br c
 (
 br (kc a0_2 { data:=#[] })
 (
 br (a0_3 == 0)
 (some ((.bool (a0_4 == 0)),[]))
 (some ((.bool false),[])))
 (some ((.bool false),[])))
 (some ((.bool false),[]))))
 (
 br (a0_0 == 9)
 (
 jb V 58 [iN a0_1,iN (0),iN (1000000000)] fun a b=>
 asB a fun c=>unn b (br c
 (
 br (kc a0_2 { data:=#[] })
 (
 br (a0_3 == 0)
 (some ((.bool (a0_4 == 0)),[]))
 (some ((.bool false),[])))
 (some ((.bool false),[])))
 (some ((.bool false),[]))))
 (some ((.bool false),[])))))))))):=by
 exact (yD Tryz.func126 rfl _).trans (by kernel_rfl)
theorem EW (p0 p1 p2 p3 p4 p5 p6 p7 p8:Int) (p9 p10 p11 p12 p13:List D):Ce p0 p1 p2 p3 p4 p5 p6 p7 p8 p9 p10 p11 p12 p13 =
 br (decide (p1 >= 0))
 (
 jb V 218 [.op [.os (5,0) p13,iN p2,iN p3,iN p4,iN p5,iN p6,iN p7,iN p8]] fun a b=>
 tk4 a fun c d=>(unc b fun e f=>tk5 e fun g h i j k l m n=>(unn f (br (!d)
 (some ((iN (7)),[.op [.os (5,0) g,iN h,iN i,iN j,iN k,iN l,iN m,iN n]]))
 (
 grd (decide (0 <= p1) && decide (p1 < ni p12.length)) (cT p12 p1.toNat fun _=>
 nam (List.set p12 p1.toNat (iN c)) fun o=>
 Ce p0 (w6 (p1 - 1)) h i j k l m n p9 p10 p11 o g))))))
 (
 jb V 218 [.op [.os (5,0) p13,iN p2,iN p3,iN p4,iN p5,iN p6,iN p7,iN p8]] fun a b=>
 tk4 a fun c d=>(
 unc b fun e f=>tk5 e fun g h i j k l m n=>(unn f (br (!d)
 (some ((iN (7)),[.op [.os (5,0) g,iN h,iN i,iN j,iN k,iN l,iN m,iN n]]))
 (
 br (decide (p0 >= ni p10.length))
 (some ((iN (7)),[.op [.os (5,0) g,iN h,iN i,iN j,iN k,iN l,iN m,iN n]]))
 (
 jb V 233 [.agg [.rs (5,0) p9,.rs (4,0) p10,.rs (3,0) p11],(.op [.os (5,0) g,iN h,iN i,iN j,iN k,iN l,iN m,iN n]),iN c,.rs (1,0) p12,iN p0] fun o p=>
 asI .i64 o fun q=>unc p fun r s=>tk5 r fun t u v w x y z A=>(unn s (some ((iN q),[.op [.os (5,0) t,iN u,iN v,iN w,iN x,iN y,iN z,iN A]]))))))))):=by
 exact (yC _ _ _).trans (by kernel_rfl)
theorem EU (p0 p1:List D) (p2 p3:Int) (p4 p5 p6:List D):AH p0 p1 p2 p3 p4 p5 p6 =
 br (decide (p2 < ni p0.length))
 (
 br (p3 == 0)
 (
 br (decide (p2 > 0))
 (
 jb V 237 [.op [.os (5,0) p4,.os (4,0) p5,.os (3,0) p6,iN p3],(.agg [iN (9),iN (0),iN (0),.str ({ data:=#[] })])] fun a b=>
 asI .i64 a fun _=>unc b fun c d=>tk1 c fun e f g h=>(unn d (grd (decide (0 <= p2) && decide (p2 < ni p0.length)) (cT p0 p2.toNat fun i=>
 asI .i64 i fun j=>jb V 244 [.op [.os (5,0) e,.os (4,0) f,.os (3,0) g,iN h],iN j,.rs (1,1) p1] fun k l=>
 iV k fun m=>unn m (unc l fun n o=>tk1 n fun p q r s=>(unn o (AH p0 p1 (w6 (p2 + 1)) s p q r)))))))
 (
 grd (decide (0 <= p2) && decide (p2 < ni p0.length)) (cT p0 p2.toNat fun a=>
 asI .i64 a fun b=>jb V 244 [.op [.os (5,0) p4,.os (4,0) p5,.os (3,0) p6,iN p3],iN b,.rs (1,1) p1] fun c d=>
 iV c fun e=>unn e (unc d fun f g=>tk1 f fun h i j k=>(unn g (AH p0 p1 (w6 (p2 + 1)) k h i j))))))
 (some ((.tup []),[.op [.os (5,0) p4,.os (4,0) p5,.os (3,0) p6,iN p3]])))
 (some ((.tup []),[.op [.os (5,0) p4,.os (4,0) p5,.os (3,0) p6,iN p3]])):=by
 exact (yC _ _ _).trans (by kernel_rfl)
theorem Mj (a0_:Int):V 245 [iN a0_] =
 jb V 62 [iN a0_,iN (1),iN (19)] fun a b=>
 asB a fun c=>unn b (br (!c)
 (some ((iN (-1)),[]))
 (
 grd (decide (0 <= a0_) && decide (a0_ < ni 20)) (cT ([iN (0),iN (2),iN (2),iN (2),iN (2),iN (2),iN (2),iN (1),iN (1),iN (1),iN (1),iN (2),iN (1),iN (1),iN (0),iN (2),iN (0),iN (1),iN (1),iN (1)]) a0_.toNat fun d=>
 asI .i64 d fun e=>some ((iN e),[])))):=by
 exact (yD Tryz.func245 rfl _).trans (by kernel_rfl)
theorem Qa (a0_0:List D) (a0_1 a0_2:Int) (a1_:List D):V 75 [.op [.rs (1,0) a0_0,iN a0_1,iN a0_2],.rs (1,0) a1_] =
 jb V 76 [.op [.rs (1,0) a0_0,iN a0_1,iN a0_2],(iN (ni a1_.length))] fun a b=>
 asI .i64 a fun c=>unc b fun d e=>nC d fun f=>unc f fun g h=>kq (1,0) g fun i=>unc h fun j k=>asI .i64 j fun l=>unc k fun m n=>asI .i64 m fun o=>unn n (unn e (grd (decide (0 <= c) && decide (c < ni a1_.length)) (cT a1_ c.toNat fun p=>
 asS p fun q=>some ((.str q),[.op [.rs (1,0) i,iN l,iN o]])))):=by
 exact (yD Tryz.func75 rfl _).trans (by kernel_rfl)
theorem Dq (p0 p1 p2:Int) (p3 p4 p5 p6:List D):Af p0 p1 p2 p3 p4 p5 p6 =
 br (decide (p1 < p0))
 (
 grd (decide (0 <= p1) && decide (p1 < ni p3.length)) (cT p3 p1.toNat fun a=>
 asS a fun b=>grd (decide (0 <= p0) && decide (p0 < ni p3.length)) (cT p3 p0.toNat fun c=>
 asS c fun d=>br (kc b d)
 (Af p0 (w6 (p1 + 1)) (2) p3 p4 p5 p6)
 (Af p0 (w6 (p1 + 1)) p2 p3 p4 p5 p6))))
 (zA (w6 (p0 + 1)) p2 p3 p4 p5 p6):=by
 exact (yC _ _ _).trans (by kernel_rfl)
theorem Ru (p:List D) (k n:Int) (s:ByteArray) (a b:Int):V 158 [.op [.os (5,0) p],.agg [iN k,iN n,.str s,iN a,iN b]] =
 grd (decide (ni (List.length (p++[D.agg [iN k,iN n,D.str s,iN a,iN b]])) <= LIM)) (nam (p++[D.agg [iN k,iN n,D.str s,iN a,iN b]]) fun c=>
 some ((iN (w6 (ni c.length - 1))),[.op [.os (5,0) c]])):=by
 exact (yD Tryz.func158 rfl _).trans (by kernel_rfl)
theorem PG (a0_0 a0_1 a0_2:List D):V 54 [.agg [.rs (5,0) a0_0,.rs (4,0) a0_1,.rs (3,0) a0_2]] =
 jb V 55 [.agg [.rs (5,0) a0_0]] fun a b=>
 asB a fun c=>unn b (br (!c)
 (some ((.bool false),[]))
 (
 br (decide (ni a0_1.length > 400))
 (some ((.bool false),[]))
 (
 br (decide (ni a0_2.length > 20))
 (some ((.bool false),[]))
 (BJ (ni a0_1.length) (0) a0_0 a0_1 a0_2)))):=by
 exact (yD Tryz.func54 rfl _).trans (by kernel_rfl)
theorem Ej (p0 p1:Int) (p2 p3 p4:List D):BJ p0 p1 p2 p3 p4 =
 br (decide (p1 < p0))
 (
 jb V 123 [.agg [.rs (5,0) p2,.rs (4,0) p3,.rs (3,0) p4],iN p1] fun a b=>
 asB a fun c=>unn b (br (!c)
 (some ((.bool false),[]))
 (BJ p0 (w6 (p1 + 1)) p2 p3 p4)))
 (Bw p4 (ni p4.length) (0) p2 p3 p4):=by
 exact (yC _ _ _).trans (by kernel_rfl)
theorem Oh (p l d:List D) (h:Int) (x:List D):V 231 [.op [.os (5,0) p,.os (4,0) l,.os (3,0) d,iN h],.rs (1,0) x] =
 br (decide (ni x.length > 4))
 (zI x (0) (1) [] p l d)
 (zI x (0) h [] p l d):=by
 exact (yD Tryz.func231 rfl _).trans (by kernel_rfl)
theorem IV (p o:List D) (v:Int):V 151 [.op [.rs (5,0) p,.os (1,0) o],iN v] =
 zz v true p o:=by
 exact (yD Tryz.func151 rfl _).trans (by kernel_rfl)
end Go.Eng
/-! the functions as the interpreter has them -/
namespace Go.Eng
open Go.Proofs Go.Proofs.Tryz
set_option maxRecDepth 100000
theorem Tw (p:List D) (n:Int) (l:List D):V 246 [.op [.os (5,0) p],iN n,.rs (1,0) l] =
 grd (decide (0 <= 0) && decide (0 < ni l.length)) (cT l 0 fun a=>
 asI .i64 a fun b=>grd (decide (0 <= b) && decide (b < ni p.length)) (cT p b.toNat fun c=>
 tk6 c fun d e f g h=>(br (decide (n <= 5))
 (
 grd (decide (0 <= 1) && decide (1 < ni l.length)) (cT l 1 fun i=>
 asI .i64 i fun j=>grd (decide (0 <= j) && decide (j < ni p.length)) (cT p j.toNat fun k=>
 tk6 k fun m o q r s=>(jb V 250 [iN n,.agg [iN d,iN e,.str f,iN g,iN h],.agg [iN m,iN o,.str q,iN r,iN s]] fun t u=>
 iV t fun v=>unc v fun w x=>tk6 w fun y z A B C=>(unc x fun E F=>asI .i64 E fun G=>unn F (unn u (br (G != 0)
 (some ((.tup [iN (-1),iN G]),[.op [.os (5,0) p]]))
 (
 jb V 158 [.op [.os (5,0) p],.agg [iN y,iN z,.str A,iN B,iN C]] fun H I=>
 asI .i64 H fun J=>unc I fun K L=>nC K fun M=>unc M fun N O=>jl (5,0) N fun P=>unn O (unn L (some ((.tup [iN J,iN G]),[.op [.os (5,0) P]])))))))))))
 (
 br (n == 6)
 (
 grd (decide (0 <= 0) && decide (0 < ni l.length)) (cT l 0 fun i=>
 asI .i64 i fun j=>grd (decide (0 <= 1) && decide (1 < ni l.length)) (cT l 1 fun k=>
 asI .i64 k fun m=>jb V 158 [.op [.os (5,0) p],(.agg [iN (5),iN (0),.str ({ data:=#[] }),iN j,iN m])] fun o q=>
 asI .i64 o fun r=>unc q fun s t=>nC s fun u=>unc u fun v w=>jl (5,0) v fun x=>unn w (unn t (some ((.tup [iN r,iN (0)]),[.op [.os (5,0) x]]))))))
 (
 br (decide (n <= 8))
 (
 br (d != 5)
 (some ((.tup [iN (-1),iN (3)]),[.op [.os (5,0) p]]))
 (
 br (n == 7)
 (some ((.tup [iN g,iN (0)]),[.op [.os (5,0) p]]))
 (some ((.tup [iN h,iN (0)]),[.op [.os (5,0) p]]))))
 (
 br (n == 9)
 (
 jb V 251 [.bool (d == 1)] fun i j=>
 tk6 i fun k m o q r=>(unn j (jb V 158 [.op [.os (5,0) p],.agg [iN k,iN m,.str o,iN q,iN r]] fun s t=>
 asI .i64 s fun u=>unc t fun v w=>nC v fun x=>unc x fun y z=>jl (5,0) y fun A=>unn z (unn w (some ((.tup [iN u,iN (0)]),[.op [.os (5,0) A]]))))))
 (
 br (n == 10)
 (
 jb V 251 [.bool (d == 5)] fun i j=>
 tk6 i fun k m o q r=>(unn j (jb V 158 [.op [.os (5,0) p],.agg [iN k,iN m,.str o,iN q,iN r]] fun s t=>
 asI .i64 s fun u=>unc t fun v w=>nC v fun x=>unc x fun y z=>jl (5,0) y fun A=>unn z (unn w (some ((.tup [iN u,iN (0)]),[.op [.os (5,0) A]]))))))
 (
 br (n == 11)
 (
 jb V 252 [.agg [.rs (5,0) p]] fun i j=>
 jl (1,0) i fun k=>unn j (grd (decide (0 <= 0) && decide (0 < ni l.length)) (cT l 0 fun m=>
 asI .i64 m fun o=>grd (decide (0 <= o) && decide (o < ni k.length)) (cT k o.toNat fun q=>
 asI .i64 q fun r=>grd (decide (0 <= 1) && decide (1 < ni l.length)) (cT l 1 fun s=>
 asI .i64 s fun t=>grd (decide (0 <= t) && decide (t < ni k.length)) (cT k t.toNat fun u=>
 asI .i64 u fun v=>jb V 251 [.bool (r == v)] fun w x=>
 tk6 w fun y z A B C=>(unn x (jb V 158 [.op [.os (5,0) p],.agg [iN y,iN z,.str A,iN B,iN C]] fun E F=>
 asI .i64 E fun G=>unc F fun H I=>nC H fun J=>unc J fun K L=>jl (5,0) K fun M=>unn L (unn I (some ((.tup [iN G,iN (0)]),[.op [.os (5,0) M]])))))))))))
 (
 br (d == 2)
 (
 jb V 251 [.bool (e == 0)] fun i j=>
 tk6 i fun k m o q r=>(unn j (jb V 158 [.op [.os (5,0) p],.agg [iN k,iN m,.str o,iN q,iN r]] fun s t=>
 asI .i64 s fun u=>unc t fun v w=>nC v fun x=>unc x fun y z=>jl (5,0) y fun A=>unn z (unn w (some ((.tup [iN u,iN (0)]),[.op [.os (5,0) A]]))))))
 (
 jb V 251 [.bool false] fun i j=>
 tk6 i fun k m o q r=>(unn j (jb V 158 [.op [.os (5,0) p],.agg [iN k,iN m,.str o,iN q,iN r]] fun s t=>
 asI .i64 s fun u=>unc t fun v w=>nC v fun x=>unc x fun y z=>jl (5,0) y fun A=>unn z (unn w (some ((.tup [iN u,iN (0)]),[.op [.os (5,0) A]]))))))))))))))):=by
 exact (yD Tryz.func246 rfl _).trans (by kernel_rfl)
theorem Lp (p0:ByteArray) (p1:Int) (p2 p3 p4 p5:List D):y4 p0 p1 p2 p3 p4 p5 =
 br (decide (p1 < ni (ByteArray.size p0)))
 (
 grd (decide (0 <= p1) && decide (p1 < ni (ByteArray.size p0))) (br (bt p0 p1 == 32)
 (y4 p0 (w6 (p1 + 1)) p2 p3 p4 p5)
 (
 br (bt p0 p1 == 40)
 (grd (decide
 (ni
 (List.length
 (p4 ++
 [D.agg
 [iN p1,
 D.os
 (TypeInfo.size (Tables.types (Program.toTables Tryz.prog))[3],
 match qU Tryz.prog (3) with
 | true=>0
 | false=>1)
 []]])) <=
 LIM)) (nam (p4 ++
 [D.agg
 [iN p1,
 D.os
 (TypeInfo.size (Tables.types (Program.toTables Tryz.prog))[3],
 match qU Tryz.prog (3) with
 | true=>0
 | false=>1)
 []]]) fun a=>
 y4 p0 (w6 (p1 + 1)) p2 p3 a p5))
 (
 br (bt p0 p1 == 41)
 (
 br (w6 (ni p4.length - 1) == 0)
 (
 jb V 147 [.agg [.rs (5,0) p2]] fun a b=>
 asAgg a fun c=>unc c fun d e=>jl (5,0) d fun f=>unn e (unn b (some ((.tup [.agg [.os (5,0) f],.os (1,0) p3,iN (5),iN p1]),[]))))
 (
 grd (decide (0 <= w6 (ni p4.length - 1)) && decide (w6 (ni p4.length - 1) < ni p4.length)) (cT p4 (Int.toNat (w6 (ni p4.length - 1))) fun a=>
 asAgg a fun b=>cT b 1 fun c=>
 jl (1,0) c fun d=>asAgg a fun e=>jb V 210 [.op [.os (5,0) p5],.rs (1,0) d] fun f g=>
 asI .i64 f fun h=>unc g fun i j=>nC i fun k=>unc k fun l m=>jl (5,0) l fun n=>unn m (unn j (grd (cW (List.length (List.set p4 (Int.toNat (w6 (ni p4.length - 1))) (D.agg (List.take 1 e++[D.dead]++List.drop 2 e)))) none (some (w6 (ni p4.length - 1)))) (grd (decide (0 <= w6 (w6 (ni p4.length - 1) - 1)) && decide (w6 (w6 (ni p4.length - 1) - 1) < ni (Int.toNat (w6 (ni p4.length - 1)))) && decide (0 + Int.toNat (w6 (ni p4.length - 1)) <= List.length (List.set p4 (Int.toNat (w6 (ni p4.length - 1))) (D.agg (List.take 1 e++[D.dead]++List.drop 2 e))))) (cT (List.set p4 (Int.toNat (w6 (ni p4.length - 1))) (D.agg (List.take 1 e++[D.dead]++List.drop 2 e))) (0 + Int.toNat (w6 (w6 (ni p4.length - 1) - 1))) fun o=>
 asAgg o fun p=>cT p 1 fun q=>
 jl (1,0) q fun r=>asAgg o fun s=>grd (decide (ni (List.length (r++[iN h])) <= LIM)) (nam (r++[iN h]) fun t=>
 grd (decide (0 <= w6 (w6 (ni p4.length - 1) - 1)) && decide (w6 (w6 (ni p4.length - 1) - 1) < ni (Int.toNat (w6 (ni p4.length - 1)))) && decide (0 + Int.toNat (w6 (ni p4.length - 1)) <= List.length (List.set (List.set p4 (Int.toNat (w6 (ni p4.length - 1))) (D.agg (List.take 1 e++[D.dead]++List.drop 2 e))) (0 + Int.toNat (w6 (w6 (ni p4.length - 1) - 1))) (D.agg (List.take 1 s++[D.dead]++List.drop 2 s))))) (cT (List.set (List.set p4 (Int.toNat (w6 (ni p4.length - 1))) (D.agg (List.take 1 e++[D.dead]++List.drop 2 e))) (0 + Int.toNat (w6 (w6 (ni p4.length - 1) - 1))) (D.agg (List.take 1 s++[D.dead]++List.drop 2 s))) (0 + Int.toNat (w6 (w6 (ni p4.length - 1) - 1))) fun u=>
 asAgg u fun v=>nam (List.set (List.set (List.set p4 (Int.toNat (w6 (ni p4.length - 1))) (D.agg (List.take 1 e++[D.dead]++List.drop 2 e))) (0 + Int.toNat (w6 (w6 (ni p4.length - 1) - 1))) (D.agg (List.take 1 s++[D.dead]++List.drop 2 s))) (0 + Int.toNat (w6 (w6 (ni p4.length - 1) - 1)))
 (D.agg
 (List.take 1 v ++
 [D.os
 (TypeInfo.size (Tables.types (Program.toTables Tryz.prog))[3],
 match qU Tryz.prog (3) with
 | true=>0
 | false=>1)
 t] ++
 List.drop 2 v))) fun w=>
 y1 p0 (Int.toNat (w6 (ni p4.length - 1))) (w6 (p1 + 1)) p2 p3 w n)))))))))
 (
 jb V 211 [.int .u8 (bt p0 p1)] fun a b=>
 asB a fun c=>unn b (br c
 (z6 p0 p1 (w6 (ni p4.length - 1)) p1 p2 p3 p4 p5)
 (
 jb V 147 [.agg [.rs (5,0) p2]] fun d e=>
 asAgg d fun f=>unc f fun g h=>jl (5,0) g fun i=>unn h (unn e (some ((.tup [.agg [.os (5,0) i],.os (1,0) p3,iN (2),iN p1]),[]))))))))))
 (
 br (decide (ni p4.length > 1))
 (
 jb V 147 [.agg [.rs (5,0) p2]] fun a b=>
 asAgg a fun c=>unc c fun d e=>jl (5,0) d fun f=>unn e (unn b (grd (decide (0 <= w6 (ni p4.length - 1)) && decide (w6 (ni p4.length - 1) < ni p4.length)) (cT p4 (Int.toNat (w6 (ni p4.length - 1))) fun g=>
 asAgg g fun h=>cT h 0 fun i=>
 asI .i64 i fun j=>some ((.tup [.agg [.os (5,0) f],.os (1,0) p3,iN (4),iN j]),[])))))
 (
 jb V 60 [.agg [.rs (5,0) p5]] fun a b=>
 asB a fun c=>unn b (br (!c)
 (
 jb V 147 [.agg [.rs (5,0) p2]] fun d e=>
 asAgg d fun f=>unc f fun g h=>jl (5,0) g fun i=>unn h (unn e (some ((.tup [.agg [.os (5,0) i],.os (1,0) p3,iN (6),iN (0)]),[]))))
 (
 grd (decide (0 <= 0) && decide (0 < ni p4.length)) (cT p4 0 fun d=>
 asAgg d fun e=>cT e 1 fun f=>
 jl (1,0) f fun g=>asAgg d fun h=>grd (decide (ni (List.length ([]++g)) <= LIM)) (nam ([]++g) fun i=>
 some ((.tup [.agg [.os (5,0) p5],.os (1,0) i,iN (0),(iN (ni (ByteArray.size p0)))]),[]))))))):=by
 exact (yC _ _ _).trans (by kernel_rfl)
theorem Oi :V 213 [] =
 some ((.os (1,0) [.str ({ data:=#[40,100,101,102,105,110,101,32,40,102,32,110,41,32,40,105,102,32,40,60,32,110,32,50,41,32,110,32,40,43,32,40,102,32,40,45,32,110,32,49,41,41,32,40,102,32,40,45,32,110,32,50,41,41,41,41,41,32,40,102,32,54,41] }),(.str ({ data:=List.toArray (List.append [40,100,101,102,105,110,101,32,40,117,112,32,110,41,32,40,105,102,32,40,60,32,110,32,51,41,32,40,100,111,32,40] [112,114,105,110,116,32,110,41,32,40,117,112,32,40,43,32,110,32,49,41,41,41,32,110,41,41,32,40,117,112,32,48,41]) })),.str ({ data:=#[40,108,101,116,32,120,32,53,32,40,108,101,116,32,102,32,40,102,110,32,40,121,41,32,40,43,32,120,32,121,41,41,32,40,112,114,105,110,116,32,40,102,32,52,41,41,41,41] }),.str ({ data:=#[40,112,114,105,110,116,32,40,99,97,108,108,99,99,32,40,102,110,32,40,107,41,32,40,100,111,32,40,107,32,55,41,32,56,41,41,41,41] }),(.str ({ data:=List.toArray (List.append [40,100,101,102,105,110,101,32,40,109,97,112,32,102,32,108,41,32,40,105,102,32,40,110,117,108,108,63,32,108,41,32,40,41,32,40,99,111,110,115,32,40,102,32,40,99,97,114,32,108,41,41,32,40,109,97,112,32,102] [32,40,99,100,114,32,108,41,41,41,41,41,32,40,112,114,105,110,116,32,40,109,97,112,32,40,102,110,32,40,120,41,32,40,42,32,120,32,120,41,41,32,40,113,117,111,116,101,32,40,49,32,50,32,51,41,41,41,41]) })),.str ({ data:=#[40,100,111,32,40,115,112,97,119,110,32,40,102,110,32,40,41,32,40,100,111,32,40,112,114,105,110,116,32,49,41,32,40,112,114,105,110,116,32,50,41,41,41,41,32,40,112,114,105,110,116,32,51,41,41] }),(.str ({ data:=List.toArray (List.append [40,108,101,116,32,112,32,40,115,112,97,119,110,32,40,102,110,32,40,41,32,40,112,114,105,110,116,32,40,114,101,99,118,41] [41,41,41,32,40,100,111,32,40,115,101,110,100,32,112,32,40,113,117,111,116,101,32,40,97,32,98,41,41,41,32,48,41,41]) })),(.str ({ data:=List.toArray (List.append [40,108,101,116,32,112,32,40,115,112,97,119,110,32,40,102,110,32,40,41,32,40,108,101,116,32,102,32,40,114,101,99,118,41,32,40,112,114,105,110,116,32,40,102] [32,53,41,41,41,41,41,32,40,108,101,116,32,122,32,57,32,40,115,101,110,100,32,112,32,40,102,110,32,40,120,41,32,40,43,32,120,32,122,41,41,41,41,41]) })),.str ({ data:=#[40,100,111,32,40,112,114,105,110,116,32,49,41,32,40,103,111,32,49,41,32,40,112,114,105,110,116,32,50,41,32,40,103,111,32,48,41,32,40,112,114,105,110,116,32,51,41,41] }),(.str ({ data:=List.toArray (List.append [40,108,101,116,32,109,101,32,40,115,101,108,102,41,32,40,100,111,32,40,115,112,97,119,110,32,40,102,110,32,40,41,32,40,100,111,32,40] [103,111,32,49,41,32,40,115,101,110,100,32,109,101,32,52,50,41,41,41,41,32,40,112,114,105,110,116,32,40,114,101,99,118,41,41,41,41]) })),(.str ({ data:=List.toArray (List.append [40,100,101,102,105,110,101,32,40,108,111,111,112,32,110,41,32,40,105,102,32,40,61,32,110,32,48,41,32,40,112,114,105,110,116,32,40] [113,117,111,116,101,32,101,110,100,41,41,32,40,108,111,111,112,32,40,45,32,110,32,49,41,41,41,41,32,40,108,111,111,112,32,57,41]) })),.str ({ data:=#[40,112,114,105,110,116,32,40,99,97,114,32,40,113,117,111,116,101,32,40,41,41,41,41] }),.str ({ data:=#[40,112,114,105,110,116,32,40,102,32,49,41,41] }),.str ({ data:=#[40,43,32,49,32,35,116,41] }),.str ({ data:=#[40,112,114,105,110,116,32,40,99,111,110,115,32,49,32,40,99,111,110,115,32,50,32,40,41,41,41,41] }),(.str ({ data:=List.toArray (List.append (List.append [40,100,101,102,105,110,101,32,40,112,105,110,103,32,112,32,110,41,32,40,105,102,32,40,60,32,110,32,49,41,32,48,32,40,100,111,32,40,115,101,110,100,32,112,32] [110,41,32,40,112,114,105,110,116,32,40,114,101,99,118,41,41,32,40,112,105,110,103,32,112,32,40,45,32,110,32,49,41,41,41,41,41,32,40,108,101,116,32,109,101,32]) (List.append [40,115,101,108,102,41,32,40,112,105,110,103,32,40,115,112,97,119,110,32,40,102,110,32,40,41,32,40,100,111,32,40,103,111,32,49,41,32,40,115,101,110,100,32,109,101] [32,40,43,32,49,48,32,40,114,101,99,118,41,41,41,32,40,115,101,110,100,32,109,101,32,40,43,32,49,48,32,40,114,101,99,118,41,41,41,41,41,41,32,50,41,41])) })),(.str ({ data:=List.toArray (List.append [40,108,101,116,32,107,32,40,99,97,108,108,99,99,32,40,102,110,32,40,99,41,32,99,41,41,32,40,105,102,32,40,112,97,105,114,63] [32,107,41,32,40,112,114,105,110,116,32,40,99,97,114,32,107,41,41,32,40,107,32,40,113,117,111,116,101,32,40,53,41,41,41,41,41]) })),(.str ({ data:=List.toArray (List.append [40,108,101,116,32,112,32,40,115,112,97,119,110,32,40,102,110,32,40,41,32,40,100,111,32,40,103,111,32,49,41,32,40,108,101,116,32,107,32,40,114,101,99,118,41,32,40,107,32,56] [41,41,41,41,41,32,40,112,114,105,110,116,32,40,99,97,108,108,99,99,32,40,102,110,32,40,107,41,32,40,100,111,32,40,115,101,110,100,32,112,32,107,41,32,51,41,41,41,41,41]) }))]),[]):=by
 exact (yD Tryz.func213 rfl _).trans (by kernel_rfl)
theorem Oc (a0_0:List D) (a0_1 a0_2 a1_0 a1_1:Int) (a1_2:ByteArray) (a1_3 a1_4:Int):V 156 [.op [.rs (1,0) a0_0,iN a0_1,iN a0_2],.agg [iN a1_0,iN a1_1,.str a1_2,iN a1_3,iN a1_4]] =
 jb V 76 [.op [.rs (1,0) a0_0,iN a0_1,iN a0_2],iN (8)] fun a b=>
 asI .i64 a fun c=>unc b fun d e=>tk3 d fun f g h=>(unn e (br (c == 0)
 (
 jb V 76 [.op [.rs (1,0) f,iN g,iN h],iN (11)] fun i j=>
 asI .i64 i fun k=>unc j fun l m=>tk3 l fun n o p=>(unn m (some ((.agg [iN k,iN a1_1,.str a1_2,iN a1_3,iN a1_4]),[.op [.rs (1,0) n,iN o,iN p]]))))
 (
 br (c == 1)
 (
 jb V 76 [.op [.rs (1,0) f,iN g,iN h],iN (20)] fun i j=>
 asI .i64 i fun k=>unc j fun l m=>tk3 l fun n o p=>(unn m (some ((.agg [iN a1_0,iN a1_1,.str a1_2,(iN (w6 (k - 1))),iN a1_4]),[.op [.rs (1,0) n,iN o,iN p]]))))
 (
 br (c == 2)
 (
 jb V 76 [.op [.rs (1,0) f,iN g,iN h],iN (20)] fun i j=>
 asI .i64 i fun k=>unc j fun l m=>tk3 l fun n o p=>(unn m (some ((.agg [iN a1_0,iN a1_1,.str a1_2,iN a1_3,(iN (w6 (k - 1)))]),[.op [.rs (1,0) n,iN o,iN p]]))))
 (
 br (c == 3)
 (
 jb V 122 [.op [.rs (1,0) f,iN g,iN h],(.rs (1,0) [iN (-1),iN (2),iN (99),iN (100),iN (1000000000),iN (1000000001),iN (-1000000000),iN (-1000000001)])] fun i j=>
 asI .i64 i fun k=>unc j fun l m=>tk3 l fun n o p=>(unn m (some ((.agg [iN a1_0,iN k,.str a1_2,iN a1_3,iN a1_4]),[.op [.rs (1,0) n,iN o,iN p]]))))
 (
 br (c == 4)
 (
 jb V 75 [.op [.rs (1,0) f,iN g,iN h],(.rs (1,0) [.str ({ data:=#[] }),.str ({ data:=#[97] }),.str ({ data:=#[65,98] }),.str ({ data:=#[97,98,99,100,101,102,103,104,105,106,107,108] }),.str ({ data:=#[97,98,99,100,101,102,103,104,105,106,107,108,109] }),.str ({ data:=#[97,49] })])] fun i j=>
 asS i fun k=>unc j fun l m=>tk3 l fun n o p=>(unn m (some ((.agg [iN a1_0,iN a1_1,.str k,iN a1_3,iN a1_4]),[.op [.rs (1,0) n,iN o,iN p]]))))
 (some ((.agg [iN a1_0,iN a1_1,.str a1_2,iN a1_3,iN a1_4]),[.op [.rs (1,0) f,iN g,iN h]])))))))):=by
 exact (yD Tryz.func156 rfl _).trans (by kernel_rfl)
theorem Mr (a0_ a1_0 a1_1:Int) (a1_2:ByteArray) (a1_3 a1_4 a2_0 a2_1:Int) (a2_2:ByteArray) (a2_3 a2_4:Int):V 250 [iN a0_,.agg [iN a1_0,iN a1_1,.str a1_2,iN a1_3,iN a1_4],.agg [iN a2_0,iN a2_1,.str a2_2,iN a2_3,iN a2_4]] =
 br (a1_0 != 3)
 (some ((.tup [.agg [iN (0),iN (0),.str ({ data:=#[] }),iN (0),iN (0)],iN (3)]),[]))
 (
 br (a2_0 != 3)
 (some ((.tup [.agg [iN (0),iN (0),.str ({ data:=#[] }),iN (0),iN (0)],iN (3)]),[]))
 (
 br (a0_ == 2)
 (
 jb V 62 [(iN (w6 (a1_1 - a2_1))),iN (-1000000000),iN (1000000000)] fun a b=>
 asB a fun c=>unn b (br (!c)
 (some ((.tup [.agg [iN (0),iN (0),.str ({ data:=#[] }),iN (0),iN (0)],iN (4)]),[]))
 (some ((.tup [(.agg [iN (3),(iN (w6 (a1_1 - a2_1))),.str ({ data:=#[] }),iN (0),iN (0)]),iN (0)]),[]))))
 (
 br (a0_ == 3)
 (
 jb V 62 [(iN (w6 (a1_1 * a2_1))),iN (-1000000000),iN (1000000000)] fun a b=>
 asB a fun c=>unn b (br (!c)
 (some ((.tup [.agg [iN (0),iN (0),.str ({ data:=#[] }),iN (0),iN (0)],iN (4)]),[]))
 (some ((.tup [(.agg [iN (3),(iN (w6 (a1_1 * a2_1))),.str ({ data:=#[] }),iN (0),iN (0)]),iN (0)]),[]))))
 (
 br (a0_ == 4)
 (
 jb V 251 [(.bool (decide (a1_1 < a2_1)))] fun a b=>
 tk6 a fun c d e f g=>(unn b (some ((.tup [.agg [iN c,iN d,.str e,iN f,iN g],iN (0)]),[]))))
 (
 br (a0_ == 5)
 (
 jb V 251 [.bool (a1_1 == a2_1)] fun a b=>
 tk6 a fun c d e f g=>(unn b (some ((.tup [.agg [iN c,iN d,.str e,iN f,iN g],iN (0)]),[]))))
 (
 jb V 62 [(iN (w6 (a1_1 + a2_1))),iN (-1000000000),iN (1000000000)] fun a b=>
 asB a fun c=>unn b (br (!c)
 (some ((.tup [.agg [iN (0),iN (0),.str ({ data:=#[] }),iN (0),iN (0)],iN (4)]),[]))
 (some ((.tup [(.agg [iN (3),(iN (w6 (a1_1 + a2_1))),.str ({ data:=#[] }),iN (0),iN (0)]),iN (0)]),[]))))))))):=by
 exact (yD Tryz.func250 rfl _).trans (by kernel_rfl)
theorem Ml (a0_0:List D) (a0_1 a0_2:Int) (a1_0:List D):V 91 [.op [.rs (1,0) a0_0,iN a0_1,iN a0_2],.agg [.rs (5,0) a1_0]] =
 br (ni a1_0.length == 0)
 (
 jb V 122 [.op [.rs (1,0) a0_0,iN a0_1,iN a0_2],(.rs (1,0) [iN (-1),iN (0),(iN (ni a1_0.length))])] fun a b=>
 asI .i64 a fun c=>unc b fun d e=>nC d fun f=>unc f fun g h=>kq (1,0) g fun i=>unc h fun j k=>asI .i64 j fun l=>unc k fun m n=>asI .i64 m fun o=>unn n (unn e (some ((iN c),[.op [.rs (1,0) i,iN l,iN o]]))))
 (
 jb V 155 [.op [.rs (1,0) a0_0,iN a0_1,iN a0_2],iN (20)] fun a b=>
 asB a fun c=>unc b fun d e=>nC d fun f=>unc f fun g h=>kq (1,0) g fun i=>unc h fun j k=>asI .i64 j fun l=>unc k fun m n=>asI .i64 m fun o=>unn n (unn e (br c
 (
 jb V 122 [.op [.rs (1,0) i,iN l,iN o],(.rs (1,0) [iN (-1),iN (0),(iN (ni a1_0.length))])] fun p q=>
 asI .i64 p fun r=>unc q fun s t=>nC s fun u=>unc u fun v w=>kq (1,0) v fun x=>unc w fun y z=>asI .i64 y fun A=>unc z fun B C=>asI .i64 B fun E=>unn C (unn t (some ((iN r),[.op [.rs (1,0) x,iN A,iN E]]))))
 (
 jb V 116 [(iN (ni a1_0.length)),iN (9)] fun p q=>
 asI .i64 p fun r=>unn q (jb V 76 [.op [.rs (1,0) i,iN l,iN o],iN r] fun s t=>
 asI .i64 s fun u=>unc t fun v w=>nC v fun x=>unc x fun y z=>kq (1,0) y fun A=>unc z fun B C=>asI .i64 B fun E=>unc C fun F G=>asI .i64 F fun H=>unn G (unn w (some ((iN (w6 (w6 (ni a1_0.length - 1) - u))),[.op [.rs (1,0) A,iN E,iN H]])))))))):=by
 exact (yD Tryz.func91 rfl _).trans (by kernel_rfl)
theorem Cu (p0 p1 p2:Int) (p3 p4 p5:List D) (p6 p7:Int) (p8:ByteArray) (p9 p10:Int):y6 p0 p1 p2 p3 p4 p5 p6 p7 p8 p9 p10 =
 br (decide (p2 < p0))
 (
 grd (decide (0 <= p2) && decide (p2 < ni p5.length)) (cT p5 p2.toNat fun a=>
 tk6 a fun b c d e f=>(br (b == p6 && (c == p7 && (kc d p8 && (e == p9 && (f == p10 && true)))))
 (
 grd (decide (ni (List.length (p5++[D.agg [iN p6,iN p7,D.str p8,iN p9,iN p10]])) <= LIM)) (nam (p5++[D.agg [iN p6,iN p7,D.str p8,iN p9,iN p10]]) fun g=>
 grd (decide (ni (List.length (p4++[iN p2])) <= LIM)) (nam (p4++[iN p2]) fun h=>
 zF (w6 (p0 + 1)) p3 h g)))
 (y6 p0 p1 (w6 (p2 + 1)) p3 p4 p5 p6 p7 p8 p9 p10))))
 (
 grd (decide (ni (List.length (p5++[D.agg [iN p6,iN p7,D.str p8,iN p9,iN p10]])) <= LIM)) (nam (p5++[D.agg [iN p6,iN p7,D.str p8,iN p9,iN p10]]) fun a=>
 grd (decide (ni (List.length (p4++[iN p1])) <= LIM)) (nam (p4++[iN p1]) fun b=>
 zF (w6 (p0 + 1)) p3 b a))):=by
 exact (yC _ _ _).trans (by kernel_rfl)
theorem IW (a0_0:List D) (a0_1 a0_2:Int):V 192 [.op [.rs (1,0) a0_0,iN a0_1,iN a0_2]] =
 jb V 155 [.op [.rs (1,0) a0_0,iN a0_1,iN a0_2],iN (4)] fun a b=>
 asB a fun c=>unc b fun d e=>nC d fun f=>unc f fun g h=>kq (1,0) g fun i=>unc h fun j k=>asI .i64 j fun l=>unc k fun m n=>asI .i64 m fun o=>unn n (unn e (br (!c)
 (
 jb V 213 [] fun p q=>
 jl (1,0) p fun r=>unn q (jb V 75 [.op [.rs (1,0) i,iN l,iN o],.rs (1,0) r] fun s t=>
 asS s fun u=>unc t fun v w=>nC v fun x=>unc x fun y z=>kq (1,0) y fun A=>unc z fun B C=>asI .i64 B fun E=>unc C fun F G=>asI .i64 F fun H=>unn G (unn w (some ((.str u),[.op [.rs (1,0) A,iN E,iN H]])))))
 (
 jb V 214 [.op [.rs (1,0) i,iN l,iN o],iN (3)] fun p q=>
 asS p fun r=>unc q fun s t=>nC s fun u=>unc u fun v w=>kq (1,0) v fun x=>unc w fun y z=>asI .i64 y fun A=>unc z fun B C=>asI .i64 B fun E=>unn C (unn t (some ((.str r),[.op [.rs (1,0) x,iN A,iN E]])))))):=by
 exact (yD Tryz.func192 rfl _).trans (by kernel_rfl)
theorem Kx (a0_:List D):V 30 [.rs (1,0) a0_] =
 jb V 51 [.rs (1,0) a0_] fun a b=>
 nC a fun c=>unc c fun d e=>kq (1,0) d fun f=>unc e fun g h=>asI .i64 g fun i=>unc h fun j k=>asI .i64 j fun l=>unn k (unn b (jb V 52 [.op [.rs (1,0) f,iN i,iN l]] fun m n=>
 iV m fun o=>unc o fun p q=>asAgg p fun r=>unc r fun s t=>mc (5,0) s fun u=>unc t fun v w=>mc (4,0) v fun x=>unc w fun y z=>mc (3,0) y fun A=>unn z (unc q fun B C=>asAgg B fun E=>unc E fun F G=>mc (5,0) F fun H=>unc G fun I J=>asI .i64 I fun K=>unc J fun L M=>asI .i64 L fun N=>unc M fun O P=>asI .i64 O fun Q=>unc P fun R S=>asI .i64 R fun T=>unc S fun U W=>asI .i64 U fun X=>unc W fun Y Z=>asI .i64 Y fun a0=>unc Z fun a1 a2=>asI .i64 a1 fun a3=>unn a2 (unn C (unc n fun a4 a5=>nC a4 fun a6=>unc a6 fun a7 a8=>kq (1,0) a7 fun a9=>unc a8 fun b0 b1=>asI .i64 b0 fun b2=>unc b1 fun b3 b4=>asI .i64 b3 fun b5=>unn b4 (unn a5 (DG (0) (0) (0) (0) (0) (0) (0) (0) a9 b2 b5 u x A H K N Q T X a0 a3))))))):=by
 exact (yD Tryz.func30 rfl _).trans (by kernel_rfl)
theorem Lx (a0_0:List D) (a0_1 a0_2:Int) (a1_:List D):V 122 [.op [.rs (1,0) a0_0,iN a0_1,iN a0_2],.rs (1,0) a1_] =
 jb V 76 [.op [.rs (1,0) a0_0,iN a0_1,iN a0_2],(iN (ni a1_.length))] fun a b=>
 asI .i64 a fun c=>unc b fun d e=>nC d fun f=>unc f fun g h=>kq (1,0) g fun i=>unc h fun j k=>asI .i64 j fun l=>unc k fun m n=>asI .i64 m fun o=>unn n (unn e (grd (decide (0 <= c) && decide (c < ni a1_.length)) (cT a1_ c.toNat fun p=>
 asI .i64 p fun q=>some ((iN q),[.op [.rs (1,0) i,iN l,iN o]])))):=by
 exact (yD Tryz.func122 rfl _).trans (by kernel_rfl)
theorem Ct (p0:List D) (p1:ByteArray) (p2 p3:Int):Am p0 p1 p2 p3 =
 br (decide (p3 < p2))
 (
 grd (decide (0 <= p3) && decide (p3 < ni p0.length)) (cT p0 p3.toNat fun a=>
 Wl a fun b c d=>(jb V 179 [.agg [.str b,iN c,iN d],(.bp [.str p1])] fun e f=>
 asB e fun g=>unn f (br g
 (some ((iN p3),[]))
 (Am p0 p1 p2 (w6 (p3 + 1)))))))
 (some ((iN (-1)),[])):=by
 exact (yC _ _ _).trans (by kernel_rfl)
theorem Qn (cp cl cd p:List D) (m1 m2 m3 m4 m5 m6 m7 k nx:Int):V 219 [.agg [.rs (5,0) cp,.rs (4,0) cl,.rs (3,0) cd],.op [.os (5,0) p,iN m1,iN m2,iN m3,iN m4,iN m5,iN m6,iN m7],iN k,iN nx] =
 grd (decide (0 <= k) && decide (k <= LIM)) (Ce nx (w6 (k - 1)) m1 m2 m3 m4 m5 m6 m7 cp cl cd (List.replicate k.toNat (iN (0))) p):=by
 exact (yD Tryz.func219 rfl _).trans (by kernel_rfl)
theorem Ew (p0:Int) (p1 p2 p3:List D):BU p0 p1 p2 p3 =
 br (decide (p0 < ni p2.length))
 (
 jb V 127 [.agg [.rs (5,0) p1,.rs (4,0) p2,.rs (3,0) p3],iN p0] fun a b=>
 asB a fun c=>unn b (br (!c)
 (some ((.bool false),[]))
 (BU (w6 (p0 + 1)) p1 p2 p3)))
 (BV (0) p1 p2 p3):=by
 exact (yC _ _ _).trans (by kernel_rfl)
theorem NW (a0_0 a1_:List D):V 193 [.agg [.rs (5,0) a0_0],.rs (1,0) a1_] =
 jb V 60 [.agg [.rs (5,0) a0_0]] fun a b=>
 asB a fun c=>unn b (br (!c)
 (some ((.tup [.agg [.os (5,0) [],.os (4,0) [],.os (3,0) []],iN (3),iN (0)]),[]))
 (Bx a1_ (0) a0_0)):=by
 exact (yD Tryz.func193 rfl _).trans (by kernel_rfl)
theorem KF (a0_:Int):V 211 [.int .u8 a0_] =
 jb V 180 [.int .u8 a0_] fun a b=>
 asB a fun c=>unn b (br c
 (some ((.bool true),[]))
 (
 jb V 226 [.int .u8 a0_] fun d e=>
 asB d fun f=>unn e (br f
 (some ((.bool true),[]))
 (some ((.bool (a0_ == 35)),[]))))):=by
 exact (yD Tryz.func211 rfl _).trans (by kernel_rfl)
theorem DR (a0_:List D) (a1_:Int):V 203 [.rs (1,0) a0_,.int .u8 a1_] =
 jb V 221 [.rs (1,0) a0_,.int .u8 a1_] fun a b=>
 asI .i64 a fun c=>unn b (some ((.bool (decide (c >= 0))),[])):=by
 exact (yD Tryz.func203 rfl _).trans (by kernel_rfl)
theorem JO (a0_0:List D) (a0_1 a0_2:Int):V 142 [.op [.rs (1,0) a0_0,iN a0_1,iN a0_2]] =
 zK (0) a0_0 a0_1 a0_2:=by
 exact (yD Tryz.func142 rfl _).trans (by kernel_rfl)
theorem PW (a0_:ByteArray):V 232 [.str a0_] =
 jb V 239 [] fun a b=>
 jl (1,0) a fun c=>unn b (BX a0_ (1) c):=by
 exact (yD Tryz.func232 rfl _).trans (by kernel_rfl)
theorem PI (a0_0:List D):V 55 [.agg [.rs (5,0) a0_0]] =
 BM a0_0 (ni a0_0.length) (0) a0_0:=by
 exact (yD Tryz.func55 rfl _).trans (by kernel_rfl)
theorem UZ (a0_:List D):V 12 [.rs (1,0) a0_] =
 some ((.bool (decide (ni a0_.length > 1048576))),[]):=by
 exact (yD Tryz.func12 rfl _).trans (by kernel_rfl)

end Go.Eng
/-! the functions as the interpreter has them -/
namespace Go.Eng
open Go.Proofs Go.Proofs.Tryz
set_option maxRecDepth 100000
theorem KI (a0_0:List D) (a0_1 a0_2:Int):V 112 [.op [.rs (1,0) a0_0,iN a0_1,iN a0_2]] =
 jb V 142 [.op [.rs (1,0) a0_0,iN a0_1,iN a0_2]] fun a b=>
 asAgg a fun c=>unc c fun d e=>jl (5,0) d fun f=>unc e fun g h=>jl (4,0) g fun i=>unc h fun j k=>jl (3,0) j fun l=>unn k (unc b fun m n=>nC m fun o=>unc o fun p q=>kq (1,0) p fun r=>unc q fun s t=>asI .i64 s fun u=>unc t fun v w=>asI .i64 v fun x=>unn w (unn n (jb V 129 [.agg [.rs (5,0) f,.rs (4,0) i,.rs (3,0) l],.str ({ data:=#[109,97,105,110] })] fun y z=>
 asI .i64 y fun A=>unn z (br (decide (A < 0))
 (
 br (decide (ni l.length > 0))
 (
 grd (decide (0 <= 0) && decide (0 < ni l.length)) (cT l 0 fun B=>
 asAgg B fun C=>cT C 0 fun E=>
 asS E fun F=>jb V 78 [.agg [.rs (5,0) f,.rs (4,0) i,.rs (3,0) l],.str F] fun G H=>
 iV G fun I=>unc I fun J K=>asAgg J fun L=>unc L fun M N=>jl (5,0) M fun O=>unc N fun P Q=>asI .i64 P fun R=>unc Q fun S T=>asI .i64 S fun U=>unc T fun W X=>asI .i64 W fun Y=>unc X fun Z a0=>asI .i64 Z fun a1=>unc a0 fun a2 a3=>asI .i64 a2 fun a4=>unc a3 fun a5 a6=>asI .i64 a5 fun a7=>unc a6 fun a8 a9=>asI .i64 a8 fun b0=>unn a9 (unc K fun b1 b2=>asB b1 fun b3=>unn b2 (unn H (br (!b3)
 (
 jb V 171 [.agg [.rs (5,0) f,.rs (4,0) i,.rs (3,0) l],(.agg [(.rs (5,0) [.agg [iN (1),iN (0),.str ({ data:=#[] }),iN (0),iN (0)],(.agg [iN (6),iN (0),.str ({ data:=#[] }),iN (0),iN (0)])])]),iN (1)] fun b4 b5=>
 iV b4 fun b6=>unc b6 fun b7 b8=>asAgg b7 fun b9=>unc b9 fun c0 c1=>jl (5,0) c0 fun c2=>unc c1 fun c3 c4=>asI .i64 c3 fun c5=>unc c4 fun c6 c7=>asI .i64 c6 fun c8=>unc c7 fun c9 d0=>asI .i64 c9 fun d1=>unc d0 fun d2 d3=>asI .i64 d2 fun d4=>unc d3 fun d5 d6=>asI .i64 d5 fun d7=>unc d6 fun d8 d9=>asI .i64 d8 fun e0=>unc d9 fun e1 e2=>asI .i64 e1 fun e3=>unn e2 (unc b8 fun e4 e5=>asB e4 fun _=>unn e5 (unn b5 (jb V 76 [.op [.rs (1,0) r,iN u,iN x],iN (60)] fun e6 e7=>
 asI .i64 e6 fun e8=>unc e7 fun e9 f0=>nC e9 fun f1=>unc f1 fun f2 f3=>kq (1,0) f2 fun f4=>unc f3 fun f5 f6=>asI .i64 f5 fun f7=>unc f6 fun f8 f9=>asI .i64 f8 fun g0=>unn f9 (unn f0 (jb V 172 [.op [.rs (1,0) f4,iN f7,iN g0],(.agg [.rs (5,0) f,.rs (4,0) i,.rs (3,0) l]),(.agg [.os (5,0) c2,iN c5,iN c8,iN d1,iN d4,iN d7,iN e0,iN e3]),iN e8] fun g1 g2=>
 asAgg g1 fun g3=>unc g3 fun g4 g5=>jl (5,0) g4 fun g6=>unc g5 fun g7 g8=>asI .i64 g7 fun g9=>unc g8 fun h0 h1=>asI .i64 h0 fun h2=>unc h1 fun h3 h4=>asI .i64 h3 fun h5=>unc h4 fun h6 h7=>asI .i64 h6 fun h8=>unc h7 fun h9 i0=>asI .i64 h9 fun i1=>unc i0 fun i2 i3=>asI .i64 i2 fun i4=>unc i3 fun i5 i6=>asI .i64 i5 fun i7=>unn i6 (unc g2 fun i8 i9=>nC i8 fun j0=>unc j0 fun j1 j2=>kq (1,0) j1 fun j3=>unc j2 fun j4 j5=>asI .i64 j4 fun j6=>unc j5 fun j7 j8=>asI .i64 j7 fun j9=>unn j8 (unn i9 (some ((.tup [.agg [.rs (5,0) f,.rs (4,0) i,.rs (3,0) l],(.agg [.os (5,0) g6,iN g9,iN h2,iN h5,iN h8,iN i1,iN i4,iN i7])]),[.op [.rs (1,0) j3,iN j6,iN j9]]))))))))))
 (
 jb V 76 [.op [.rs (1,0) r,iN u,iN x],iN (60)] fun b4 b5=>
 asI .i64 b4 fun b6=>unc b5 fun b7 b8=>nC b7 fun b9=>unc b9 fun c0 c1=>kq (1,0) c0 fun c2=>unc c1 fun c3 c4=>asI .i64 c3 fun c5=>unc c4 fun c6 c7=>asI .i64 c6 fun c8=>unn c7 (unn b8 (jb V 172 [.op [.rs (1,0) c2,iN c5,iN c8],(.agg [.rs (5,0) f,.rs (4,0) i,.rs (3,0) l]),(.agg [.os (5,0) O,iN R,iN U,iN Y,iN a1,iN a4,iN a7,iN b0]),iN b6] fun c9 d0=>
 asAgg c9 fun d1=>unc d1 fun d2 d3=>jl (5,0) d2 fun d4=>unc d3 fun d5 d6=>asI .i64 d5 fun d7=>unc d6 fun d8 d9=>asI .i64 d8 fun e0=>unc d9 fun e1 e2=>asI .i64 e1 fun e3=>unc e2 fun e4 e5=>asI .i64 e4 fun e6=>unc e5 fun e7 e8=>asI .i64 e7 fun e9=>unc e8 fun f0 f1=>asI .i64 f0 fun f2=>unc f1 fun f3 f4=>asI .i64 f3 fun f5=>unn f4 (unc d0 fun f6 f7=>nC f6 fun f8=>unc f8 fun f9 g0=>kq (1,0) f9 fun g1=>unc g0 fun g2 g3=>asI .i64 g2 fun g4=>unc g3 fun g5 g6=>asI .i64 g5 fun g7=>unn g6 (unn f7 (some ((.tup [.agg [.rs (5,0) f,.rs (4,0) i,.rs (3,0) l],(.agg [.os (5,0) d4,iN d7,iN e0,iN e3,iN e6,iN e9,iN f2,iN f5])]),[.op [.rs (1,0) g1,iN g4,iN g7]]))))))))))))
 (
 jb V 78 [.agg [.rs (5,0) f,.rs (4,0) i,.rs (3,0) l],.str ({ data:=#[109,97,105,110] })] fun B C=>
 iV B fun E=>unc E fun F G=>asAgg F fun H=>unc H fun I J=>jl (5,0) I fun K=>unc J fun L M=>asI .i64 L fun N=>unc M fun O P=>asI .i64 O fun Q=>unc P fun R S=>asI .i64 R fun T=>unc S fun U W=>asI .i64 U fun X=>unc W fun Y Z=>asI .i64 Y fun a0=>unc Z fun a1 a2=>asI .i64 a1 fun a3=>unc a2 fun a4 a5=>asI .i64 a4 fun a6=>unn a5 (unc G fun a7 a8=>asB a7 fun a9=>unn a8 (unn C (br (!a9)
 (
 jb V 171 [.agg [.rs (5,0) f,.rs (4,0) i,.rs (3,0) l],(.agg [(.rs (5,0) [.agg [iN (1),iN (0),.str ({ data:=#[] }),iN (0),iN (0)],(.agg [iN (6),iN (0),.str ({ data:=#[] }),iN (0),iN (0)])])]),iN (1)] fun b0 b1=>
 iV b0 fun b2=>unc b2 fun b3 b4=>asAgg b3 fun b5=>unc b5 fun b6 b7=>jl (5,0) b6 fun b8=>unc b7 fun b9 c0=>asI .i64 b9 fun c1=>unc c0 fun c2 c3=>asI .i64 c2 fun c4=>unc c3 fun c5 c6=>asI .i64 c5 fun c7=>unc c6 fun c8 c9=>asI .i64 c8 fun d0=>unc c9 fun d1 d2=>asI .i64 d1 fun d3=>unc d2 fun d4 d5=>asI .i64 d4 fun d6=>unc d5 fun d7 d8=>asI .i64 d7 fun d9=>unn d8 (unc b4 fun e0 e1=>asB e0 fun _=>unn e1 (unn b1 (jb V 76 [.op [.rs (1,0) r,iN u,iN x],iN (60)] fun e2 e3=>
 asI .i64 e2 fun e4=>unc e3 fun e5 e6=>nC e5 fun e7=>unc e7 fun e8 e9=>kq (1,0) e8 fun f0=>unc e9 fun f1 f2=>asI .i64 f1 fun f3=>unc f2 fun f4 f5=>asI .i64 f4 fun f6=>unn f5 (unn e6 (jb V 172 [.op [.rs (1,0) f0,iN f3,iN f6],(.agg [.rs (5,0) f,.rs (4,0) i,.rs (3,0) l]),(.agg [.os (5,0) b8,iN c1,iN c4,iN c7,iN d0,iN d3,iN d6,iN d9]),iN e4] fun f7 f8=>
 asAgg f7 fun f9=>unc f9 fun g0 g1=>jl (5,0) g0 fun g2=>unc g1 fun g3 g4=>asI .i64 g3 fun g5=>unc g4 fun g6 g7=>asI .i64 g6 fun g8=>unc g7 fun g9 h0=>asI .i64 g9 fun h1=>unc h0 fun h2 h3=>asI .i64 h2 fun h4=>unc h3 fun h5 h6=>asI .i64 h5 fun h7=>unc h6 fun h8 h9=>asI .i64 h8 fun i0=>unc h9 fun i1 i2=>asI .i64 i1 fun i3=>unn i2 (unc f8 fun i4 i5=>nC i4 fun i6=>unc i6 fun i7 i8=>kq (1,0) i7 fun i9=>unc i8 fun j0 j1=>asI .i64 j0 fun j2=>unc j1 fun j3 j4=>asI .i64 j3 fun j5=>unn j4 (unn i5 (some ((.tup [.agg [.rs (5,0) f,.rs (4,0) i,.rs (3,0) l],(.agg [.os (5,0) g2,iN g5,iN g8,iN h1,iN h4,iN h7,iN i0,iN i3])]),[.op [.rs (1,0) i9,iN j2,iN j5]]))))))))))
 (
 jb V 76 [.op [.rs (1,0) r,iN u,iN x],iN (60)] fun b0 b1=>
 asI .i64 b0 fun b2=>unc b1 fun b3 b4=>nC b3 fun b5=>unc b5 fun b6 b7=>kq (1,0) b6 fun b8=>unc b7 fun b9 c0=>asI .i64 b9 fun c1=>unc c0 fun c2 c3=>asI .i64 c2 fun c4=>unn c3 (unn b4 (jb V 172 [.op [.rs (1,0) b8,iN c1,iN c4],(.agg [.rs (5,0) f,.rs (4,0) i,.rs (3,0) l]),(.agg [.os (5,0) K,iN N,iN Q,iN T,iN X,iN a0,iN a3,iN a6]),iN b2] fun c5 c6=>
 asAgg c5 fun c7=>unc c7 fun c8 c9=>jl (5,0) c8 fun d0=>unc c9 fun d1 d2=>asI .i64 d1 fun d3=>unc d2 fun d4 d5=>asI .i64 d4 fun d6=>unc d5 fun d7 d8=>asI .i64 d7 fun d9=>unc d8 fun e0 e1=>asI .i64 e0 fun e2=>unc e1 fun e3 e4=>asI .i64 e3 fun e5=>unc e4 fun e6 e7=>asI .i64 e6 fun e8=>unc e7 fun e9 f0=>asI .i64 e9 fun f1=>unn f0 (unc c6 fun f2 f3=>nC f2 fun f4=>unc f4 fun f5 f6=>kq (1,0) f5 fun f7=>unc f6 fun f8 f9=>asI .i64 f8 fun g0=>unc f9 fun g1 g2=>asI .i64 g1 fun g3=>unn g2 (unn f3 (some ((.tup [.agg [.rs (5,0) f,.rs (4,0) i,.rs (3,0) l],(.agg [.os (5,0) d0,iN d3,iN d6,iN d9,iN e2,iN e5,iN e8,iN f1])]),[.op [.rs (1,0) f7,iN g0,iN g3]]))))))))))))
 (
 jb V 78 [.agg [.rs (5,0) f,.rs (4,0) i,.rs (3,0) l],.str ({ data:=#[109,97,105,110] })] fun B C=>
 iV B fun E=>unc E fun F G=>asAgg F fun H=>unc H fun I J=>jl (5,0) I fun K=>unc J fun L M=>asI .i64 L fun N=>unc M fun O P=>asI .i64 O fun Q=>unc P fun R S=>asI .i64 R fun T=>unc S fun U W=>asI .i64 U fun X=>unc W fun Y Z=>asI .i64 Y fun a0=>unc Z fun a1 a2=>asI .i64 a1 fun a3=>unc a2 fun a4 a5=>asI .i64 a4 fun a6=>unn a5 (unc G fun a7 a8=>asB a7 fun a9=>unn a8 (unn C (br (!a9)
 (
 jb V 171 [.agg [.rs (5,0) f,.rs (4,0) i,.rs (3,0) l],(.agg [(.rs (5,0) [.agg [iN (1),iN (0),.str ({ data:=#[] }),iN (0),iN (0)],(.agg [iN (6),iN (0),.str ({ data:=#[] }),iN (0),iN (0)])])]),iN (1)] fun b0 b1=>
 iV b0 fun b2=>unc b2 fun b3 b4=>asAgg b3 fun b5=>unc b5 fun b6 b7=>jl (5,0) b6 fun b8=>unc b7 fun b9 c0=>asI .i64 b9 fun c1=>unc c0 fun c2 c3=>asI .i64 c2 fun c4=>unc c3 fun c5 c6=>asI .i64 c5 fun c7=>unc c6 fun c8 c9=>asI .i64 c8 fun d0=>unc c9 fun d1 d2=>asI .i64 d1 fun d3=>unc d2 fun d4 d5=>asI .i64 d4 fun d6=>unc d5 fun d7 d8=>asI .i64 d7 fun d9=>unn d8 (unc b4 fun e0 e1=>asB e0 fun _=>unn e1 (unn b1 (jb V 76 [.op [.rs (1,0) r,iN u,iN x],iN (60)] fun e2 e3=>
 asI .i64 e2 fun e4=>unc e3 fun e5 e6=>nC e5 fun e7=>unc e7 fun e8 e9=>kq (1,0) e8 fun f0=>unc e9 fun f1 f2=>asI .i64 f1 fun f3=>unc f2 fun f4 f5=>asI .i64 f4 fun f6=>unn f5 (unn e6 (jb V 172 [.op [.rs (1,0) f0,iN f3,iN f6],(.agg [.rs (5,0) f,.rs (4,0) i,.rs (3,0) l]),(.agg [.os (5,0) b8,iN c1,iN c4,iN c7,iN d0,iN d3,iN d6,iN d9]),iN e4] fun f7 f8=>
 asAgg f7 fun f9=>unc f9 fun g0 g1=>jl (5,0) g0 fun g2=>unc g1 fun g3 g4=>asI .i64 g3 fun g5=>unc g4 fun g6 g7=>asI .i64 g6 fun g8=>unc g7 fun g9 h0=>asI .i64 g9 fun h1=>unc h0 fun h2 h3=>asI .i64 h2 fun h4=>unc h3 fun h5 h6=>asI .i64 h5 fun h7=>unc h6 fun h8 h9=>asI .i64 h8 fun i0=>unc h9 fun i1 i2=>asI .i64 i1 fun i3=>unn i2 (unc f8 fun i4 i5=>nC i4 fun i6=>unc i6 fun i7 i8=>kq (1,0) i7 fun i9=>unc i8 fun j0 j1=>asI .i64 j0 fun j2=>unc j1 fun j3 j4=>asI .i64 j3 fun j5=>unn j4 (unn i5 (some ((.tup [.agg [.rs (5,0) f,.rs (4,0) i,.rs (3,0) l],(.agg [.os (5,0) g2,iN g5,iN g8,iN h1,iN h4,iN h7,iN i0,iN i3])]),[.op [.rs (1,0) i9,iN j2,iN j5]]))))))))))
 (
 jb V 76 [.op [.rs (1,0) r,iN u,iN x],iN (60)] fun b0 b1=>
 asI .i64 b0 fun b2=>unc b1 fun b3 b4=>nC b3 fun b5=>unc b5 fun b6 b7=>kq (1,0) b6 fun b8=>unc b7 fun b9 c0=>asI .i64 b9 fun c1=>unc c0 fun c2 c3=>asI .i64 c2 fun c4=>unn c3 (unn b4 (jb V 172 [.op [.rs (1,0) b8,iN c1,iN c4],(.agg [.rs (5,0) f,.rs (4,0) i,.rs (3,0) l]),(.agg [.os (5,0) K,iN N,iN Q,iN T,iN X,iN a0,iN a3,iN a6]),iN b2] fun c5 c6=>
 asAgg c5 fun c7=>unc c7 fun c8 c9=>jl (5,0) c8 fun d0=>unc c9 fun d1 d2=>asI .i64 d1 fun d3=>unc d2 fun d4 d5=>asI .i64 d4 fun d6=>unc d5 fun d7 d8=>asI .i64 d7 fun d9=>unc d8 fun e0 e1=>asI .i64 e0 fun e2=>unc e1 fun e3 e4=>asI .i64 e3 fun e5=>unc e4 fun e6 e7=>asI .i64 e6 fun e8=>unc e7 fun e9 f0=>asI .i64 e9 fun f1=>unn f0 (unc c6 fun f2 f3=>nC f2 fun f4=>unc f4 fun f5 f6=>kq (1,0) f5 fun f7=>unc f6 fun f8 f9=>asI .i64 f8 fun g0=>unc f9 fun g1 g2=>asI .i64 g1 fun g3=>unn g2 (unn f3 (some ((.tup [.agg [.rs (5,0) f,.rs (4,0) i,.rs (3,0) l],(.agg [.os (5,0) d0,iN d3,iN d6,iN d9,iN e2,iN e5,iN e8,iN f1])]),[.op [.rs (1,0) f7,iN g0,iN g3]]))))))))))))))):=by
 exact (yD Tryz.func112 rfl _).trans (by kernel_rfl)
theorem PQ (a0_0 a0_1 a0_2 a1_0:List D) (a1_1 a1_2 a1_3 a1_4 a1_5 a1_6 a1_7:Int) (a2_0:List D) (a3_:Int):V 32 [.agg [.rs (5,0) a0_0,.rs (4,0) a0_1,.rs (3,0) a0_2],.agg [.rs (5,0) a1_0,iN a1_1,iN a1_2,iN a1_3,iN a1_4,iN a1_5,iN a1_6,iN a1_7],.agg [.rs (5,0) a2_0],iN a3_] =
 jb V 15 [.agg [.rs (5,0) a0_0,.rs (4,0) a0_1,.rs (3,0) a0_2],(.agg [.rs (5,0) a1_0,iN a1_1,iN a1_2,iN a1_3,iN a1_4,iN a1_5,iN a1_6,iN a1_7])] fun a b=>
 asB a fun c=>unn b (br (!c)
 (some ((.agg [.os (5,0) [],iN (0),iN (0),iN (0),iN (0),iN (3),iN (7),iN (0)]),[]))
 (
 br (a1_5 != 1)
 (
 jb V 85 [.agg [.rs (5,0) a1_0,iN a1_1,iN a1_2,iN a1_3,iN a1_4,iN a1_5,iN a1_6,iN a1_7]] fun d e=>
 tk7 d fun f g h i j k l m=>(unn e (some ((.agg [.os (5,0) f,iN g,iN h,iN i,iN j,iN k,iN l,iN m]),[]))))
 (
 jb V 60 [.agg [.rs (5,0) a2_0]] fun d e=>
 asB d fun f=>unn e (br (!f)
 (
 jb V 85 [.agg [.rs (5,0) a1_0,iN a1_1,iN a1_2,iN a1_3,iN a1_4,iN a1_5,iN a1_6,iN a1_7]] fun g h=>
 tk7 g fun i j k l m n o p=>(unn h (some ((.agg [.os (5,0) i,iN j,iN k,iN l,iN m,iN n,iN o,iN p]),[]))))
 (
 jb V 61 [.agg [.rs (5,0) a2_0],iN a3_] fun g h=>
 asB g fun i=>unn h (br (!i)
 (
 jb V 85 [.agg [.rs (5,0) a1_0,iN a1_1,iN a1_2,iN a1_3,iN a1_4,iN a1_5,iN a1_6,iN a1_7]] fun j k=>
 tk7 j fun l m n o p q r s=>(unn k (some ((.agg [.os (5,0) l,iN m,iN n,iN o,iN p,iN q,iN r,iN s]),[]))))
 (
 jb V 85 [.agg [.rs (5,0) a1_0,iN a1_1,iN a1_2,iN a1_3,iN a1_4,iN a1_5,iN a1_6,iN a1_7]] fun j k=>
 tk7 j fun l m n o p q r s=>(unn k (jb V 96 [.op [.os (5,0) l],(.agg [.rs (5,0) a2_0]),iN a3_] fun t u=>
 asI .i64 t fun v=>unc u fun w x=>nC w fun y=>unc y fun z A=>jl (5,0) z fun B=>unn A (unn x (jb V 95 [.op [.os (5,0) B,iN m,iN n,iN o,iN p,iN q,iN r,iN s],iN v] fun C E=>
 iV C fun F=>unn F (unc E fun G H=>tk5 G fun I _ J K L _ _ _=>(unn H (br (decide (w6 (a1_1 + 1) >= ni a0_1.length))
 (
 jb V 97 [.agg [.rs (5,0) a1_0,iN a1_1,iN a1_2,iN a1_3,iN a1_4,iN a1_5,iN a1_6,iN a1_7],iN (7)] fun M N=>
 tk7 M fun O P Q R S T U W=>(unn N (some ((.agg [.os (5,0) O,iN P,iN Q,iN R,iN S,iN T,iN U,iN W]),[]))))
 (
 br (decide (ni I.length > 3000))
 (
 jb V 97 [.agg [.rs (5,0) a1_0,iN a1_1,iN a1_2,iN a1_3,iN a1_4,iN a1_5,iN a1_6,iN a1_7],iN (6)] fun M N=>
 tk7 M fun O P Q R S T U W=>(unn N (some ((.agg [.os (5,0) O,iN P,iN Q,iN R,iN S,iN T,iN U,iN W]),[]))))
 (some ((.agg [.os (5,0) I,(iN (w6 (a1_1 + 1))),iN J,iN K,iN L,iN (0),iN (0),iN (0)]),[]))))))))))))))))):=by
 exact (yD Tryz.func32 rfl _).trans (by kernel_rfl)
theorem Ki (p0:ByteArray) (p1 p2 p3:Int) (p4 p5 p6 p7:List D):z6 p0 p1 p2 p3 p4 p5 p6 p7 =
 br (decide (p1 < ni (ByteArray.size p0)))
 (
 grd (decide (0 <= p1) && decide (p1 < ni (ByteArray.size p0))) (jb V 211 [.int .u8 (bt p0 p1)] fun a b=>
 asB a fun c=>unn b (br c
 (z6 p0 (w6 (p1 + 1)) p2 p3 p4 p5 p6 p7)
 (
 grd (cW (ByteArray.size p0) (some p3) (some p1)) (jb V 212 [(.str (ByteArray.extract p0 p3.toNat p1.toNat))] fun d e=>
 iV d fun f=>unc f fun g h=>tk6 g fun i j k l m=>(unc h fun n o=>asB n fun p=>unn o (unn e (br (!p)
 (
 jb V 147 [.agg [.rs (5,0) p4]] fun q r=>
 asAgg q fun s=>unc s fun t u=>jl (5,0) t fun v=>unn u (unn r (some ((.tup [.agg [.os (5,0) v],.os (1,0) p5,iN (3),iN p3]),[]))))
 (
 grd (decide (0 <= p2) && decide (p2 < ni p6.length)) (cT p6 p2.toNat fun q=>
 asAgg q fun r=>cT r 1 fun s=>
 jl (1,0) s fun t=>asAgg q fun u=>jb V 158 [.op [.os (5,0) p7],.agg [iN i,iN j,.str k,iN l,iN m]] fun v w=>
 asI .i64 v fun x=>unc w fun y z=>nC y fun A=>unc A fun B C=>jl (5,0) B fun E=>unn C (unn z (grd (decide (ni (List.length (t++[iN x])) <= LIM)) (nam (t++[iN x]) fun F=>
 grd (decide (0 <= p2) && decide (p2 < ni (List.length (List.set p6 p2.toNat (D.agg (List.take 1 u++[D.dead]++List.drop 2 u)))))) (cT (List.set p6 p2.toNat (D.agg (List.take 1 u++[D.dead]++List.drop 2 u))) p2.toNat fun G=>
 asAgg G fun H=>nam (List.set (List.set p6 p2.toNat (D.agg (List.take 1 u++[D.dead]++List.drop 2 u))) p2.toNat
 (D.agg
 (List.take 1 H ++
 [D.os
 (TypeInfo.size (Tables.types (Program.toTables Tryz.prog))[3],
 match qU Tryz.prog (3) with
 | true=>0
 | false=>1)
 F] ++
 List.drop 2 H))) fun I=>
 y4 p0 p1 p4 p5 I E))))))))))))))
 (
 grd (cW (ByteArray.size p0) (some p3) (some p1)) (jb V 212 [(.str (ByteArray.extract p0 p3.toNat p1.toNat))] fun a b=>
 iV a fun c=>unc c fun d e=>tk6 d fun f g h i j=>(unc e fun k l=>asB k fun m=>unn l (unn b (br (!m)
 (
 jb V 147 [.agg [.rs (5,0) p4]] fun n o=>
 asAgg n fun p=>unc p fun q r=>jl (5,0) q fun s=>unn r (unn o (some ((.tup [.agg [.os (5,0) s],.os (1,0) p5,iN (3),iN p3]),[]))))
 (
 grd (decide (0 <= p2) && decide (p2 < ni p6.length)) (cT p6 p2.toNat fun n=>
 asAgg n fun o=>cT o 1 fun p=>
 jl (1,0) p fun q=>asAgg n fun r=>jb V 158 [.op [.os (5,0) p7],.agg [iN f,iN g,.str h,iN i,iN j]] fun s t=>
 asI .i64 s fun u=>unc t fun v w=>nC v fun x=>unc x fun y z=>jl (5,0) y fun A=>unn z (unn w (grd (decide (ni (List.length (q++[iN u])) <= LIM)) (nam (q++[iN u]) fun B=>
 grd (decide (0 <= p2) && decide (p2 < ni (List.length (List.set p6 p2.toNat (D.agg (List.take 1 r++[D.dead]++List.drop 2 r)))))) (cT (List.set p6 p2.toNat (D.agg (List.take 1 r++[D.dead]++List.drop 2 r))) p2.toNat fun C=>
 asAgg C fun E=>nam (List.set (List.set p6 p2.toNat (D.agg (List.take 1 r++[D.dead]++List.drop 2 r))) p2.toNat
 (D.agg
 (List.take 1 E ++
 [D.os
 (TypeInfo.size (Tables.types (Program.toTables Tryz.prog))[3],
 match qU Tryz.prog (3) with
 | true=>0
 | false=>1)
 B] ++
 List.drop 2 E))) fun F=>
 y4 p0 p1 p4 p5 F A))))))))))):=by
 exact (yC _ _ _).trans (by kernel_rfl)
theorem KC (a0_0:List D) (a0_1 a0_2 a1_:Int):V 197 [.op [.rs (1,0) a0_0,iN a0_1,iN a0_2],iN a1_] =
 br (a1_ == 0)
 (
 jb V 201 [.op [.rs (1,0) a0_0,iN a0_1,iN a0_2]] fun a b=>
 asAgg a fun c=>unc c fun d e=>asI .i64 d fun f=>unc e fun g h=>asI .i64 g fun i=>unc h fun j k=>asS j fun l=>unc k fun m n=>asI .i64 m fun o=>unc n fun p q=>asI .i64 p fun r=>unn q (unc b fun s t=>nC s fun u=>unc u fun v w=>kq (1,0) v fun x=>unc w fun y z=>asI .i64 y fun A=>unc z fun B C=>asI .i64 B fun E=>unn C (unn t (some ((.agg [iN f,iN i,.str l,iN o,iN r]),[.op [.rs (1,0) x,iN A,iN E]])))))
 (
 jb V 155 [.op [.rs (1,0) a0_0,iN a0_1,iN a0_2],iN (2)] fun a b=>
 asB a fun c=>unc b fun d e=>nC d fun f=>unc f fun g h=>kq (1,0) g fun i=>unc h fun j k=>asI .i64 j fun l=>unc k fun m n=>asI .i64 m fun o=>unn n (unn e (br c
 (
 jb V 201 [.op [.rs (1,0) i,iN l,iN o]] fun p q=>
 asAgg p fun r=>unc r fun s t=>asI .i64 s fun u=>unc t fun v w=>asI .i64 v fun x=>unc w fun y z=>asS y fun A=>unc z fun B C=>asI .i64 B fun E=>unc C fun F G=>asI .i64 F fun H=>unn G (unc q fun I J=>nC I fun K=>unc K fun L M=>kq (1,0) L fun N=>unc M fun O P=>asI .i64 O fun Q=>unc P fun R S=>asI .i64 R fun T=>unn S (unn J (some ((.agg [iN u,iN x,.str A,iN E,iN H]),[.op [.rs (1,0) N,iN Q,iN T]])))))
 (
 jb V 116 [iN a1_,iN (5)] fun p q=>
 asI .i64 p fun r=>unn q (jb V 76 [.op [.rs (1,0) i,iN l,iN o],iN r] fun s t=>
 asI .i64 s fun u=>unc t fun v w=>nC v fun x=>unc x fun y z=>kq (1,0) y fun A=>unc z fun B C=>asI .i64 B fun E=>unc C fun F G=>asI .i64 F fun H=>unn G (unn w (jb V 76 [.op [.rs (1,0) A,iN E,iN H],iN (8)] fun I J=>
 asI .i64 I fun K=>unc J fun L M=>nC L fun N=>unc N fun O P=>kq (1,0) O fun Q=>unc P fun R S=>asI .i64 R fun T=>unc S fun U W=>asI .i64 U fun X=>unn W (unn M (br (K == 0)
 (
 jb V 76 [.op [.rs (1,0) Q,iN T,iN X],iN (9)] fun Y Z=>
 asI .i64 Y fun a0=>unc Z fun a1 a2=>nC a1 fun a3=>unc a3 fun a4 a5=>kq (1,0) a4 fun a6=>unc a5 fun a7 a8=>asI .i64 a7 fun a9=>unc a8 fun b0 b1=>asI .i64 b0 fun b2=>unn b1 (unn a2 (some ((.agg [iN (6),iN a0,.str ({ data:=#[] }),(iN (w6 (w6 (a1_ - 1) - u))),iN (0)]),[.op [.rs (1,0) a6,iN a9,iN b2]]))))
 (
 br (K == 1)
 (some ((.agg [iN (7),iN (0),.str ({ data:=#[] }),(iN (w6 (w6 (a1_ - 1) - u))),iN (0)]),[.op [.rs (1,0) Q,iN T,iN X]]))
 (
 jb V 116 [iN a1_,iN (4)] fun Y Z=>
 asI .i64 Y fun a0=>unn Z (jb V 76 [.op [.rs (1,0) Q,iN T,iN X],iN a0] fun a1 a2=>
 asI .i64 a1 fun a3=>unc a2 fun a4 a5=>nC a4 fun a6=>unc a6 fun a7 a8=>kq (1,0) a7 fun a9=>unc a8 fun b0 b1=>asI .i64 b0 fun b2=>unc b1 fun b3 b4=>asI .i64 b3 fun b5=>unn b4 (unn a5 (some ((.agg [iN (5),iN (0),.str ({ data:=#[] }),(iN (w6 (w6 (a1_ - 1) - u))),(iN (w6 (w6 (a1_ - 1) - a3)))]),[.op [.rs (1,0) a9,iN b2,iN b5]]))))))))))))))):=by
 exact (yD Tryz.func197 rfl _).trans (by kernel_rfl)
theorem Qd (a0_0 a0_1:Int) (a0_2:ByteArray) (a0_3 a0_4 a1_:Int):V 130 [.agg [iN a0_0,iN a0_1,.str a0_2,iN a0_3,iN a0_4],iN a1_] =
 jb V 62 [iN a0_3,iN (0),(iN (w6 (a1_ - 1)))] fun a b=>
 asB a fun c=>unn b (jb V 62 [iN a0_4,iN (0),(iN (w6 (a1_ - 1)))] fun d e=>
 asB d fun f=>unn e (br (a0_0 == 1)
 (some ((.bool (a0_0 == 1 && (a0_1 == 0 && (kc a0_2 { data:=#[] } && (a0_3 == 0 && (a0_4 == 0 && true)))))),[]))
 (
 br (a0_0 == 2)
 (
 jb V 62 [iN a0_1,iN (0),iN (1)] fun g h=>
 asB g fun i=>unn h (br i
 (some ((.bool (a0_0 == 2 && (a0_1 == a0_1 && (kc a0_2 { data:=#[] } && (a0_3 == 0 && (a0_4 == 0 && true)))))),[]))
 (some ((.bool false),[]))))
 (
 br (a0_0 == 3)
 (
 jb V 62 [iN a0_1,iN (-1000000000),iN (1000000000)] fun g h=>
 asB g fun i=>unn h (br i
 (some ((.bool (a0_0 == 3 && (a0_1 == a0_1 && (kc a0_2 { data:=#[] } && (a0_3 == 0 && (a0_4 == 0 && true)))))),[]))
 (some ((.bool false),[]))))
 (
 br (a0_0 == 4)
 (
 jb V 128 [.str a0_2] fun g h=>
 asB g fun i=>unn h (br i
 (some ((.bool (a0_0 == 4 && (a0_1 == 0 && (kc a0_2 a0_2 && (a0_3 == 0 && (a0_4 == 0 && true)))))),[]))
 (some ((.bool false),[]))))
 (
 br (a0_0 == 5)
 (
 br c
 (
 br f
 (
 br (a0_1 == 0)
 (some ((.bool (kc a0_2 { data:=#[] })),[]))
 (some ((.bool false),[])))
 (some ((.bool false),[])))
 (some ((.bool false),[])))
 (
 br (a0_0 == 6)
 (
 br c
 (
 jb V 62 [iN a0_1,iN (0),iN (1000000000)] fun g h=>
 asB g fun i=>unn h (br i
 (
 br (a0_4 == 0)
 (some ((.bool (kc a0_2 { data:=#[] })),[]))
 (some ((.bool false),[])))
 (some ((.bool false),[]))))
 (some ((.bool false),[])))
 (
 br (a0_0 == 7)
 (
 br c
 (
 br (a0_1 == 0)
 (
 br (a0_4 == 0)
 (some ((.bool (kc a0_2 { data:=#[] })),[]))
 (some ((.bool false),[])))
 (some ((.bool false),[])))
 (some ((.bool false),[])))
 (
 br (a0_0 == 8)
 (
 jb V 62 [iN a0_1,iN (0),iN (99)] fun g h=>
 asB g fun i=>unn h (br i
 (some ((.bool (a0_0 == 8 && (a0_1 == a0_1 && (kc a0_2 { data:=#[] } && (a0_3 == 0 && (a0_4 == 0 && true)))))),[]))
 (some ((.bool false),[]))))
 (
 br (a0_0 == 9)
 (
 jb V 62 [iN a0_1,iN (0),iN (1000000000)] fun g h=>
 asB g fun i=>unn h (br i
 (some ((.bool (a0_0 == 9 && (a0_1 == a0_1 && (kc a0_2 { data:=#[] } && (a0_3 == 0 && (a0_4 == 0 && true)))))),[]))
 (some ((.bool false),[]))))
 (some ((.bool false),[])))))))))))):=by
 exact (yD Tryz.func130 rfl _).trans (by kernel_rfl)
theorem Lr (a0_0 a0_1 a0_2 a1_0:List D) (a1_1 a1_2 a1_3 a1_4 a1_5 a1_6 a1_7:Int):V 14 [.agg [.rs (5,0) a0_0,.rs (4,0) a0_1,.rs (3,0) a0_2],.agg [.rs (5,0) a1_0,iN a1_1,iN a1_2,iN a1_3,iN a1_4,iN a1_5,iN a1_6,iN a1_7]] =
 jb V 54 [.agg [.rs (5,0) a0_0,.rs (4,0) a0_1,.rs (3,0) a0_2]] fun a b=>
 asB a fun c=>unn b (br (!c)
 (some ((.bool false),[]))
 (
 jb V 55 [.agg [.rs (5,0) a1_0]] fun d e=>
 asB d fun f=>unn e (br (!f)
 (some ((.bool false),[]))
 (
 jb V 56 [.agg [.rs (5,0) a1_0],iN a1_2] fun g h=>
 asB g fun i=>unn h (br (!i)
 (some ((.bool false),[]))
 (
 jb V 56 [.agg [.rs (5,0) a1_0],iN a1_3] fun j k=>
 asB j fun l=>unn k (br (!l)
 (some ((.bool false),[]))
 (
 jb V 56 [.agg [.rs (5,0) a1_0],iN a1_4] fun m n=>
 asB m fun o=>unn n (br (!o)
 (some ((.bool false),[]))
 (
 br (a1_5 == 0)
 (
 jb V 57 [.agg [.rs (5,0) a0_0,.rs (4,0) a0_1,.rs (3,0) a0_2],iN a1_1] fun p q=>
 asB p fun r=>unn q (br r
 (
 br (a1_6 == 0)
 (some ((.bool (a1_7 == 0)),[]))
 (some ((.bool false),[])))
 (some ((.bool false),[]))))
 (
 br (a1_5 == 1)
 (
 jb V 57 [.agg [.rs (5,0) a0_0,.rs (4,0) a0_1,.rs (3,0) a0_2],iN a1_1] fun p q=>
 asB p fun r=>unn q (br r
 (
 jb V 58 [iN a1_6,iN (13),iN (19)] fun s t=>
 asB s fun u=>unn t (br u
 (
 br (a1_6 != 18)
 (
 jb V 56 [.agg [.rs (5,0) a1_0],iN a1_7] fun v w=>
 asB v fun x=>unn w (some ((.bool x),[])))
 (some ((.bool false),[])))
 (some ((.bool false),[]))))
 (some ((.bool false),[]))))
 (
 br (a1_5 == 2)
 (
 br (a1_1 == 0)
 (
 br (a1_6 == 0)
 (
 jb V 56 [.agg [.rs (5,0) a1_0],iN a1_7] fun p q=>
 asB p fun r=>unn q (some ((.bool r),[])))
 (some ((.bool false),[])))
 (some ((.bool false),[])))
 (
 br (a1_5 == 3)
 (
 br (a1_1 == 0)
 (
 jb V 58 [iN a1_6,iN (1),iN (7)] fun p q=>
 asB p fun r=>unn q (br r
 (some ((.bool (a1_7 == 0)),[]))
 (some ((.bool false),[]))))
 (some ((.bool false),[])))
 (some ((.bool false),[]))))))))))))))):=by
 exact (yD Tryz.func14 rfl _).trans (by kernel_rfl)
theorem CQ (p0:Int) (p1 p2 p3:List D):zF p0 p1 p2 p3 =
 br (decide (p0 < ni p1.length))
 (
 grd (decide (0 <= p0) && decide (p0 < ni p1.length)) (cT p1 p0.toNat fun a=>
 tk6 a fun b c d e f=>(br (b == 5)
 (
 grd (decide (0 <= e) && decide (e < ni p2.length)) (cT p2 e.toNat fun g=>
 asI .i64 g fun h=>grd (decide (0 <= f) && decide (f < ni p2.length)) (cT p2 f.toNat fun i=>
 asI .i64 i fun j=>y6 p0 p0 (0) p1 p2 p3 b c d h j)))
 (
 br (b == 6)
 (
 br (b == 6)
 (
 grd (decide (0 <= e) && decide (e < ni p2.length)) (cT p2 e.toNat fun g=>
 asI .i64 g fun h=>y6 p0 p0 (0) p1 p2 p3 b c d h f))
 (y6 p0 p0 (0) p1 p2 p3 b c d e f))
 (
 br (b == 7)
 (
 grd (decide (0 <= e) && decide (e < ni p2.length)) (cT p2 e.toNat fun g=>
 asI .i64 g fun h=>y6 p0 p0 (0) p1 p2 p3 b c d h f))
 (y6 p0 p0 (0) p1 p2 p3 b c d e f))))))
 (some ((.os (1,0) p2),[])):=by
 exact (yC _ _ _).trans (by kernel_rfl)
theorem FP (p0 p1:ByteArray) (p2 p3:Int):zM p0 p1 p2 p3 =
 br (decide (p3 < ni (ByteArray.size p1)))
 (
 grd (decide (0 <= p3) && decide (p3 < ni (ByteArray.size p1))) (jb V 226 [.int .u8 (bt p1 p3)] fun a b=>
 asB a fun c=>unn b (br (!c)
 (some ((.tup [iN (0),.bool false]),[]))
 (grd (decide (0 <= p3) && decide (p3 < ni (ByteArray.size p1))) (zM p0 p1 (w6 (w6 (w6 (10 * p2) + w6 (bt p1 p3)) - 48)) (w6 (p3 + 1)))))))
 (
 br (ni (ByteArray.size p1) != ni (ByteArray.size p0))
 (
 jb V 202 [(iN (w6 (0 - p2)))] fun a b=>
 asS a fun c=>unn b (br (kc c p0)
 (
 jb V 62 [(iN (w6 (0 - p2))),iN (-1000000000),iN (1000000000)] fun d e=>
 asB d fun f=>unn e (some ((.tup [(iN (w6 (0 - p2))),.bool f]),[])))
 (some ((.tup [(iN (w6 (0 - p2))),.bool false]),[]))))
 (
 jb V 202 [iN p2] fun a b=>
 asS a fun c=>unn b (br (kc c p0)
 (
 jb V 62 [iN p2,iN (-1000000000),iN (1000000000)] fun d e=>
 asB d fun f=>unn e (some ((.tup [iN p2,.bool f]),[])))
 (some ((.tup [iN p2,.bool false]),[]))))):=by
 exact (yC _ _ _).trans (by kernel_rfl)
theorem Rj (a0_0:List D) (a1_:Int):V 29 [.agg [.rs (5,0) a0_0],iN a1_] =
 jb V 55 [.agg [.rs (5,0) a0_0]] fun a b=>
 asB a fun c=>unn b (br (!c)
 (some ((.str ({ data:=#[] })),[]))
 (
 jb V 56 [.agg [.rs (5,0) a0_0],iN a1_] fun d e=>
 asB d fun f=>unn e (br (!f)
 (some ((.str ({ data:=#[] })),[]))
 (
 grd (decide (0 <= a1_) && decide (a1_ < ni a0_0.length)) (cT a0_0 a1_.toNat fun g=>
 asAgg g fun h=>cT h 0 fun i=>
 asI .i64 i fun j=>br (j == 1)
 (some ((.str ({ data:=#[40,41] })),[]))
 (
 jb V 87 [.op [.rs (5,0) a0_0,.os (1,0) []],iN a1_] fun k l=>
 iV k fun m=>unn m (unc l fun n o=>Cr n fun p q=>(unn o (jb V 88 [.op [.rs (5,0) p,.os (1,0) q]] fun r s=>
 asB r fun t=>unc s fun u v=>Cr u fun _ w=>(unn v (br t
 (some ((.str ({ data:=#[] })),[]))
 (gy w fun x=>some ((.str x),[]))))))))))))):=by
 exact (yD Tryz.func29 rfl _).trans (by kernel_rfl)
theorem IP (p0:Int) (p1 p2:List D):AP p0 p1 p2 =
 grd (decide (0 <= p0) && decide (p0 < ni p1.length)) (cT p1 p0.toNat fun a=>
 asAgg a fun b=>cT b 0 fun c=>
 asI .i64 c fun d=>br (d == 5)
 (
 grd (decide (0 <= p0) && decide (p0 < ni p1.length)) (cT p1 p0.toNat fun e=>
 asAgg e fun f=>cT f 3 fun g=>
 asI .i64 g fun h=>grd (decide (ni (List.length (p2++[iN h])) <= LIM)) (nam (p2++[iN h]) fun i=>
 grd (decide (0 <= p0) && decide (p0 < ni p1.length)) (cT p1 p0.toNat fun j=>
 asAgg j fun k=>cT k 4 fun l=>
 asI .i64 l fun m=>AP m p1 i))))
 (
 grd (decide (0 <= p0) && decide (p0 < ni p1.length)) (cT p1 p0.toNat fun e=>
 asAgg e fun f=>cT f 0 fun g=>
 asI .i64 g fun h=>br (h != 1)
 (some ((.tup [.os (1,0) [],.bool false]),[]))
 (some ((.tup [.os (1,0) p2,.bool true]),[]))))):=by
 exact (yC _ _ _).trans (by kernel_rfl)
theorem FT (p0:List D) (p1:ByteArray) (p2 p3:Int):CG p0 p1 p2 p3 =
 grd (decide (0 <= p2) && decide (p2 < ni p0.length)) (cT p0 p2.toNat fun a=>
 kq (1,0) a fun b=>br (decide (p3 < ni b.length))
 (
 grd (decide (0 <= p2) && decide (p2 < ni p0.length)) (cT p0 p2.toNat fun c=>
 kq (1,0) c fun d=>grd (decide (0 <= p3) && decide (p3 < ni d.length)) (cT d p3.toNat fun e=>
 asS e fun f=>br (kc f p1)
 (some ((.tup [iN p2,iN p3]),[]))
 (CG p0 p1 p2 (w6 (p3 + 1))))))
 (Bh p0 p1 (w6 (p2 + 1)))):=by
 exact (yC _ _ _).trans (by kernel_rfl)
theorem EO (p0:List D) (p1 p2:Int) (p3:List D):BZ p0 p1 p2 p3 =
 br (decide (p2 >= 0))
 (
 grd (decide (0 <= p2) && decide (p2 < ni p0.length)) (cT p0 p2.toNat fun a=>
 asI .i64 a fun b=>jb V 158 [.op [.os (5,0) p3],(.agg [iN (5),iN (0),.str ({ data:=#[] }),iN b,iN p1])] fun c d=>
 asI .i64 c fun e=>unc d fun f g=>nC f fun h=>unc h fun i j=>jl (5,0) i fun k=>unn j (unn g (BZ p0 e (w6 (p2 - 1)) k))))
 (some ((iN p1),[.op [.os (5,0) p3]])):=by
 exact (yC _ _ _).trans (by kernel_rfl)
theorem Mh (p:List D) (k n:Int) (s:ByteArray) (a b:Int):V 157 [.op [.os (5,0) p],.agg [iN k,iN n,.str s,iN a,iN b]] =
 grd (decide (ni (List.length (p++[D.agg [iN k,iN n,D.str s,iN a,iN b]])) <= LIM)) (nam (p++[D.agg [iN k,iN n,D.str s,iN a,iN b]]) fun c=>
 some ((iN (w6 (ni c.length - 1))),[.op [.os (5,0) c]])):=by
 exact (yD Tryz.func157 rfl _).trans (by kernel_rfl)
theorem JN (a0_0:List D) (a0_1 a0_2:Int):V 154 [.op [.rs (1,0) a0_0,iN a0_1,iN a0_2]] =
 jb V 76 [.op [.rs (1,0) a0_0,iN a0_1,iN a0_2],iN (16)] fun a b=>
 asI .i64 a fun c=>unc b fun d e=>nC d fun f=>unc f fun g h=>kq (1,0) g fun i=>unc h fun j k=>asI .i64 j fun l=>unc k fun m n=>asI .i64 m fun o=>unn n (unn e (Dl c (0) i l o)):=by
 exact (yD Tryz.func154 rfl _).trans (by kernel_rfl)
theorem PR (a0_0 a0_1 a0_2:List D):V 59 [.agg [.rs (5,0) a0_0,.rs (4,0) a0_1,.rs (3,0) a0_2]] =
 jb V 60 [.agg [.rs (5,0) a0_0]] fun a b=>
 asB a fun c=>unn b (br (!c)
 (some ((.bool false),[]))
 (
 br (decide (ni a0_1.length > 400))
 (some ((.bool false),[]))
 (
 br (decide (ni a0_2.length > 20))
 (some ((.bool false),[]))
 (BU (0) a0_0 a0_1 a0_2)))):=by
 exact (yD Tryz.func59 rfl _).trans (by kernel_rfl)
theorem Av (p0:List D) (p1 p2 p3:Int):zy p0 p1 p2 p3 =
 br (decide (p3 < p2))
 (
 grd (decide (0 <= p3) && decide (p3 < ni p0.length)) (cT p0 p3.toNat fun a=>
 asI .u8 a fun b=>br (p1 == b)
 (some ((iN p3),[]))
 (zy p0 p1 p2 (w6 (p3 + 1)))))
 (some ((iN (-1)),[])):=by
 exact (yC _ _ _).trans (by kernel_rfl)
theorem Qv (p q t:List D):V 148 [.op [.os (5,0) p],.agg [.rs (5,0) q],.rs (1,0) t] =
 grd (decide (0 <= ni q.length) && decide (ni q.length <= LIM)) (zt t (0) q (List.replicate (Int.toNat (ni q.length)) (iN (0))) p):=by
 exact (yD Tryz.func148 rfl _).trans (by kernel_rfl)
theorem PO (a0_ a1_ a2_:Int):V 58 [iN a0_,iN a1_,iN a2_] =
 br (decide (a0_ >= a1_))
 (some ((.bool (decide (a0_ <= a2_))),[]))
 (some ((.bool false),[])):=by
 exact (yD Tryz.func58 rfl _).trans (by kernel_rfl)
theorem Od (a0_:Int):V 226 [.int .u8 a0_] =
 br (decide (a0_ >= 48))
 (some ((.bool (decide (a0_ <= 57))),[]))
 (some ((.bool false),[])):=by
 exact (yD Tryz.func226 rfl _).trans (by kernel_rfl)
end Go.Eng
