/- the program and the reference on plain data, part 1 -/
import Derived.Test.YtkndfhaehnfnmaaGreatEngC
import Derived.Test.YtkndfhaehnfnmaaGreatProg
/-! bytes,texts,digits: plain facts -/
namespace Go.Eng

noncomputable def mk (l : List UInt8) : ByteArray := ⟨l.toArray⟩
theorem af (l : List UInt8) : (mk l).size = l.length := by simp [mk,ByteArray.size]
theorem zH (a b : List UInt8) : mk a ++ mk b = mk (a ++ b) := by
 apply ByteArray.ext
 simp [mk]
theorem BG (l : List UInt8) : (mk l).data.toList = l := by simp [mk]
theorem sy (s : ByteArray) : mk s.data.toList = s := by
 apply ByteArray.ext
 simp [mk]
theorem mk_inj {a b : List UInt8} : mk a = mk b ↔ a = b := by
 constructor
 ·intro h
  have := congrArg (fun s => s.data.toList) h
  simpa [BG] using this
 ·rintro rfl; rfl
theorem vE (s : ByteArray) : ∀ (k i : Nat) (acc : List UInt8),k = s.size - i -> ByteArray.toList.loop s i acc = acc.reverse ++ s.data.toList.drop i
 | 0,i,acc,h => by
  unfold ByteArray.toList.loop
  have hs : s.data.toList.length = s.size := by rw [Array.length_toList]; rfl
  rw [if_neg (by omega),List.drop_of_length_le (by omega),List.append_nil]
 | k + 1,i,acc,h => by
  unfold ByteArray.toList.loop
  have hs : s.data.toList.length = s.size := by rw [Array.length_toList]; rfl
  rw [if_pos (by omega),vE s k (i + 1) _ (by omega)]
  have hi : i < s.data.toList.length := by omega
  rw [List.drop_eq_getElem_cons hi]
  have hi' : i < s.data.size := by simpa using hi
  have hg : s.get! i = s.data.toList[i] := by
   show s.data[i]! = _
   rw [getElem!_pos s.data i hi',Array.getElem_toList]
  rw [hg]
  simp
theorem vO (s : ByteArray) : s.toList = s.data.toList := by
 have := vE s s.size 0 [] (by omega)
 rw [List.reverse_nil,List.nil_append,List.drop_zero] at this
 exact this
theorem kV (x y : ByteArray) : ax x y = decide (x = y) := by
 unfold ax
 rw [vO,vO]
 by_cases h : x = y
 ·subst h; simp
 ·have h2 : ¬ x.data.toList = y.data.toList := by
   intro e; apply h; rw [<- sy x,<- sy y,e]
  rw [decide_eq_false h]
  exact beq_eq_false_iff_ne.2 h2
theorem kM (a b : List UInt8) : ax (mk a) (mk b) = decide (a = b) := by
 rw [kV]; simp only [mk_inj]
noncomputable abbrev eU (b : UInt8) : D := .int .u8 (b.toNat : Int)
theorem Ai {l : List UInt8} {i : Nat} {x : UInt8} (h : l[i]? = some x) : bt (mk l) (i : Int) = (x.toNat : Int) := by
 simp only [bt,BG,Int.toNat_natCast]
 rw [List.getD_eq_getElem?_getD,h]; rfl
theorem lk (l : List UInt8) (a b : Nat) : (mk l).extract a b = mk ((l.drop a).take (b - a)) := by
 apply ByteArray.ext
 simp [mk,ByteArray.data_extract,List.extract_eq_take_drop]
theorem qw (l : List UInt8) : gB (mk l) = l.map eU := by simp [gB,BG]
theorem oE {R : Type} (l : List UInt8) (K : ByteArray -> Option R) : f9 (l.map eU) K = K (mk l) := by
 have hm : ∀ (f : D -> Option UInt8),(∀ x : UInt8,f (eU x) = some x) -> ∀ l : List UInt8,(l.map eU).mapM f = some l := by
  intro f hf l
  induction l with
  | nil => rfl
  | cons x l ih => rw [List.map_cons,List.mapM_cons,hf,ih]; rfl
 unfold f9
 rw [hm _ (fun x => by simp [])]; rfl
theorem JW {R : Type} (n : Int) (K : ByteArray -> Option R) : f9 [.int .u8 n] K = K (mk [UInt8.ofNat n.toNat]) := rfl
theorem sR {n : Int} (h0 : 0 <= n) (h1 : n < 256) : IntKind.wrap .u8 n = n := by
 simp [IntKind.wrap,IntKind.bits,IntKind.signed]; omega

noncomputable def nq (n : Nat) : List UInt8 := if n < 10 then [UInt8.ofNat (48 + n)] else nq (n / 10) ++ [UInt8.ofNat (48 + n % 10)]
termination_by n
noncomputable def oC (n : Int) : List UInt8 := if n < 0 then 45 :: nq n.natAbs else nq n.natAbs
theorem eK {n : Nat} (h : n < 10) : nq n = [UInt8.ofNat (48 + n)] := by rw [nq,if_pos h]
theorem pn {n : Nat} (h : ¬ n < 10) : nq n = nq (n / 10) ++ [UInt8.ofNat (48 + n % 10)] := by rw [nq,if_neg h]
theorem IA : ∀ (k n : Nat),n < 10 ^ (k + 1) -> (nq n).length <= k + 1
 | 0,n,h => by rw [eK (by simpa using h)]; simp
 | k + 1,n,h => by
  by_cases h10 : n < 10
  ·rw [eK h10]; simp
  ·rw [pn h10]
   have := IA k (n / 10) (by rw [Nat.pow_succ] at h; omega)
   simp; omega
theorem Od (n : Nat) : 0 < (nq n).length := by
 by_cases h10 : n < 10
 ·rw [eK h10]; simp
 ·rw [pn h10]; simp
end Go.Eng
/-! the functions as the interpreter has them: loop heads -/
namespace Go.Eng
open Go.Proofs Go.Proofs.Tryz
set_option maxRecDepth 100000
def cf0:Cfg:={ ext:=fun _=>none,own:=fun f=>match f with | 13=>false | 23=>false | 27=>false | 30=>false | 43=>false | 44=>false | 51=>false | 52=>false | 112=>false | _=>true,mode:=fun f i=>match f,i with | 40,0=>.mut | 41,0=>.mut | 49,0=>.mut | 108,0=>.mut | 109,0=>.mut | 110,0=>.mut | 169,0=>.mut | 183,0=>.mut | 73,0=>.mv | 162,0=>.mv | 101,1=>.mv | 172,2=>.mv | _,_=>.ro }
noncomputable abbrev tk1 {R:Type} (x:D) (K:Int->Int->ByteArray->Int->Int->Option R):Option R:=asAgg x fun l=>unc l fun x0 l0=>asI .i64 x0 fun v0=>unc l0 fun x1 l1=>asI .i64 x1 fun v1=>unc l1 fun x2 l2=>asS x2 fun v2=>unc l2 fun x3 l3=>asI .i64 x3 fun v3=>unc l3 fun x4 l4=>asI .i64 x4 fun v4=>unn l4 (K v0 v1 v2 v3 v4)
@[congr] theorem SN {R:Type} {x y:D} (h:x = y) (K:Int->Int->ByteArray->Int->Int->Option R):tk1 x K = tk1 y K:=by rw [h]
noncomputable abbrev tk2 {R:Type} (x:D) (K:List D->List D->List D->Int->Option R):Option R:=bH x fun l=>unc l fun x0 l0=>aI (5,0) x0 fun v0=>unc l0 fun x1 l1=>aI (4,0) x1 fun v1=>unc l1 fun x2 l2=>aI (3,0) x2 fun v2=>unc l2 fun x3 l3=>asI .i64 x3 fun v3=>unn l3 (K v0 v1 v2 v3)
@[congr] theorem SW {R:Type} {x y:D} (h:x = y) (K:List D->List D->List D->Int->Option R):tk2 x K = tk2 y K:=by rw [h]
noncomputable abbrev tk3 {R:Type} (x:D) (K:List D->Bool->Option R):Option R:=aP x fun l=>unc l fun x0 l0=>aI (1,0) x0 fun v0=>unc l0 fun x1 l1=>asB x1 fun v1=>unn l1 (K v0 v1)
@[congr] theorem SJ {R:Type} {x y:D} (h:x = y) (K:List D->Bool->Option R):tk3 x K = tk3 y K:=by rw [h]
noncomputable abbrev tk4 {R:Type} (x:D) (K:List D->Int->Int->Int->Int->Int->Int->Int->Option R):Option R:=asAgg x fun l=>unc l fun x0 l0=>aI (5,0) x0 fun v0=>unc l0 fun x1 l1=>asI .i64 x1 fun v1=>unc l1 fun x2 l2=>asI .i64 x2 fun v2=>unc l2 fun x3 l3=>asI .i64 x3 fun v3=>unc l3 fun x4 l4=>asI .i64 x4 fun v4=>unc l4 fun x5 l5=>asI .i64 x5 fun v5=>unc l5 fun x6 l6=>asI .i64 x6 fun v6=>unc l6 fun x7 l7=>asI .i64 x7 fun v7=>unn l7 (K v0 v1 v2 v3 v4 v5 v6 v7)
@[congr] theorem SP {R:Type} {x y:D} (h:x = y) (K:List D->Int->Int->Int->Int->Int->Int->Int->Option R):tk4 x K = tk4 y K:=by rw [h]
noncomputable abbrev tk5 {R:Type} (x:D) (K:ByteArray->Bool->Option R):Option R:=aP x fun l=>unc l fun x0 l0=>asS x0 fun v0=>unc l0 fun x1 l1=>asB x1 fun v1=>unn l1 (K v0 v1)
@[congr] theorem SU {R:Type} {x y:D} (h:x = y) (K:ByteArray->Bool->Option R):tk5 x K = tk5 y K:=by rw [h]
noncomputable abbrev tk6 {R:Type} (x:D) (K:List D->List D->List D->Option R):Option R:=asAgg x fun l=>unc l fun x0 l0=>uk (5,0) x0 fun v0=>unc l0 fun x1 l1=>uk (4,0) x1 fun v1=>unc l1 fun x2 l2=>uk (3,0) x2 fun v2=>unn l2 (K v0 v1 v2)
@[congr] theorem SQ {R:Type} {x y:D} (h:x = y) (K:List D->List D->List D->Option R):tk6 x K = tk6 y K:=by rw [h]
noncomputable abbrev tk7 {R:Type} (x:D) (K:Int->List D->Int->Int->Int->Int->Int->Int->Int->List D->List D->Option R):Option R:=asAgg x fun l=>unc l fun x0 l0=>asI .i64 x0 fun v0=>unc l0 fun x1 l1=>aI (5,0) x1 fun v1=>unc l1 fun x2 l2=>asI .i64 x2 fun v2=>unc l2 fun x3 l3=>asI .i64 x3 fun v3=>unc l3 fun x4 l4=>asI .i64 x4 fun v4=>unc l4 fun x5 l5=>asI .i64 x5 fun v5=>unc l5 fun x6 l6=>asI .i64 x6 fun v6=>unc l6 fun x7 l7=>asI .i64 x7 fun v7=>unc l7 fun x8 l8=>asI .i64 x8 fun v8=>unc l8 fun x9 l9=>aI (1,0) x9 fun v9=>unc l9 fun x10 l10=>aI (1,0) x10 fun v10=>unn l10 (K v0 v1 v2 v3 v4 v5 v6 v7 v8 v9 v10)
@[congr] theorem SY {R:Type} {x y:D} (h:x = y) (K:Int->List D->Int->Int->Int->Int->Int->Int->Int->List D->List D->Option R):tk7 x K = tk7 y K:=by rw [h]
noncomputable abbrev tk8 {R:Type} (x:D) (K:Int->Int->Option R):Option R:=aP x fun l=>unc l fun x0 l0=>asI .i64 x0 fun v0=>unc l0 fun x1 l1=>asI .i64 x1 fun v1=>unn l1 (K v0 v1)
@[congr] theorem SK {R:Type} {x y:D} (h:x = y) (K:Int->Int->Option R):tk8 x K = tk8 y K:=by rw [h]
noncomputable abbrev tk9 {R:Type} (x:D) (K:List D->List D->List D->Option R):Option R:=asAgg x fun l=>unc l fun x0 l0=>aI (5,0) x0 fun v0=>unc l0 fun x1 l1=>aI (4,0) x1 fun v1=>unc l1 fun x2 l2=>aI (3,0) x2 fun v2=>unn l2 (K v0 v1 v2)
@[congr] theorem SM {R:Type} {x y:D} (h:x = y) (K:List D->List D->List D->Option R):tk9 x K = tk9 y K:=by rw [h]
noncomputable abbrev Qh {R:Type} (x:D) (K:Int->Bool->Option R):Option R:=aP x fun l=>unc l fun x0 l0=>asI .i64 x0 fun v0=>unc l0 fun x1 l1=>asB x1 fun v1=>unn l1 (K v0 v1)
@[congr] theorem SF {R:Type} {x y:D} (h:x = y) (K:Int->Bool->Option R):Qh x K = Qh y K:=by rw [h]
noncomputable abbrev cr {R:Type} (x:D) (K:List D->Int->Bool->Option R):Option R:=bH x fun l=>unc l fun x0 l0=>aI (1,0) x0 fun v0=>unc l0 fun x1 l1=>asI .i64 x1 fun v1=>unc l1 fun x2 l2=>asB x2 fun v2=>unn l2 (K v0 v1 v2)
@[congr] theorem Sw {R:Type} {x y:D} (h:x = y) (K:List D->Int->Bool->Option R):cr x K = cr y K:=by rw [h]
noncomputable abbrev Pf {R:Type} (x:D) (K:ByteArray->Int->Int->Option R):Option R:=asAgg x fun l=>unc l fun x0 l0=>asS x0 fun v0=>unc l0 fun x1 l1=>asI .i64 x1 fun v1=>unc l1 fun x2 l2=>asI .i64 x2 fun v2=>unn l2 (K v0 v1 v2)
@[congr] theorem SI {R:Type} {x y:D} (h:x = y) (K:ByteArray->Int->Int->Option R):Pf x K = Pf y K:=by rw [h]
noncomputable abbrev Mu {R:Type} (x:D) (K:Int->Int->Bool->Option R):Option R:=aP x fun l=>unc l fun x0 l0=>asI .i64 x0 fun v0=>unc l0 fun x1 l1=>asI .i64 x1 fun v1=>unc l1 fun x2 l2=>asB x2 fun v2=>unn l2 (K v0 v1 v2)
@[congr] theorem Sq {R:Type} {x y:D} (h:x = y) (K:Int->Int->Bool->Option R):Mu x K = Mu y K:=by rw [h]
noncomputable abbrev CH {R:Type} (x:D) (K:ByteArray->Int->Bool->Option R):Option R:=aP x fun l=>unc l fun x0 l0=>asS x0 fun v0=>unc l0 fun x1 l1=>asI .i64 x1 fun v1=>unc l1 fun x2 l2=>asB x2 fun v2=>unn l2 (K v0 v1 v2)
@[congr] theorem SB {R:Type} {x y:D} (h:x = y) (K:ByteArray->Int->Bool->Option R):CH x K = CH y K:=by rw [h]
noncomputable abbrev Gu {R:Type} (x:D) (K:List D->Int->Int->Option R):Option R:=bH x fun l=>unc l fun x0 l0=>cu (1,0) x0 fun v0=>unc l0 fun x1 l1=>asI .i64 x1 fun v1=>unc l1 fun x2 l2=>asI .i64 x2 fun v2=>unn l2 (K v0 v1 v2)
@[congr] theorem Sr {R:Type} {x y:D} (h:x = y) (K:List D->Int->Int->Option R):Gu x K = Gu y K:=by rw [h]
noncomputable abbrev QN {R:Type} (x:D) (K:Int->Int->Int->ByteArray->Option R):Option R:=asAgg x fun l=>unc l fun x0 l0=>asI .i64 x0 fun v0=>unc l0 fun x1 l1=>asI .i64 x1 fun v1=>unc l1 fun x2 l2=>asI .i64 x2 fun v2=>unc l2 fun x3 l3=>asS x3 fun v3=>unn l3 (K v0 v1 v2 v3)
@[congr] theorem SE {R:Type} {x y:D} (h:x = y) (K:Int->Int->Int->ByteArray->Option R):QN x K = QN y K:=by rw [h]
abbrev uu : A := .undef
noncomputable abbrev V:=Vn Tryz.prog cf0
noncomputable abbrev R:=Rn Tryz.prog cf0
noncomputable def ju (p0:List D) (p1 p2:Int):Option Ret:=R 51 Tryz.f51 [] (bz Tryz.f51 3) ⟨[.d (.rs (1,0) p0),uu,uu,.d (.int .i64 p1),.d (.int .i64 p2),uu,uu,uu,uu,uu,uu,uu,uu,uu,uu,uu,uu,uu,uu,uu,uu,uu,uu,uu,uu,uu,uu,uu,uu,uu,uu,uu],[],0,[]⟩
noncomputable def iK (p0 p1:Int) (p2 p3 p4:List D):Option Ret:=R 54 Tryz.f54 [] (bz Tryz.f54 4) ⟨[uu,.ref 0 0 0,uu,uu,uu,uu,uu,uu,uu,uu,uu,uu,uu,uu,uu,uu,uu,uu,uu,uu,uu,uu,uu,uu,.d (.int .i64 p0),.d (.int .i64 p1),uu,uu,uu,uu,uu,uu,uu,uu,uu,uu,uu,uu,uu,uu,uu,uu,uu,uu,uu,uu,uu,uu,uu,uu,uu,uu,uu,uu,uu,uu,uu,uu,uu,uu,uu,uu,uu,uu,uu,uu,uu,uu,uu,uu],[(0,some (.var [.d (.rs (5,0) p2),.d (.rs (4,0) p3),.d (.rs (3,0) p4)]))],1,[]⟩
noncomputable def gL (p0:List D) (p1 p2:Int) (p3 p4 p5:List D):Option Ret:=R 54 Tryz.f54 [] (bz Tryz.f54 10) ⟨[uu,.ref 0 0 0,uu,uu,uu,uu,uu,uu,uu,uu,uu,uu,uu,uu,uu,uu,uu,uu,uu,uu,uu,uu,uu,uu,uu,uu,uu,uu,uu,uu,uu,uu,uu,uu,.d (.rs (3,0) p0),.d (.int .i64 p1),.d (.int .i64 p2),uu,uu,uu,uu,uu,uu,uu,uu,uu,uu,uu,uu,uu,uu,uu,uu,uu,uu,uu,uu,uu,uu,uu,uu,uu,uu,uu,uu,uu,uu,uu,uu,uu],[(0,some (.var [.d (.rs (5,0) p3),.d (.rs (4,0) p4),.d (.rs (3,0) p5)]))],1,[]⟩
noncomputable def iw (p0:List D) (p1 p2:Int) (p3:List D):Option Ret:=R 55 Tryz.f55 [] (bz Tryz.f55 2) ⟨[uu,.ref 0 0 0,uu,uu,uu,uu,.d (.rs (5,0) p0),.d (.int .i64 p1),.d (.int .i64 p2),uu,uu,uu,uu,uu,uu,uu,uu,uu,uu,uu,uu,uu],[(0,some (.var [.d (.rs (5,0) p3)]))],1,[]⟩
noncomputable def i0 (p0:Int) (p1 p2 p3:List D):Option Ret:=R 59 Tryz.f59 [] (bz Tryz.f59 4) ⟨[uu,.ref 0 0 0,uu,.d (.int .i64 p0),uu,uu,uu,uu,uu,uu,uu,uu,uu,uu,uu,uu,uu,uu,uu,uu,uu,uu,uu,uu,uu,uu,uu,uu,uu,uu,uu,uu,uu,uu,uu,uu,uu,uu,uu,uu,uu,uu,uu,uu,uu,uu,uu,uu,uu,uu,uu,uu,uu,uu,uu,uu,uu,uu,uu,uu,uu,uu,uu,uu,uu,uu,uu,uu,uu,uu,uu,uu,uu],[(0,some (.var [.d (.rs (5,0) p1),.d (.rs (4,0) p2),.d (.rs (3,0) p3)]))],1,[]⟩
noncomputable def ir (p0:Int) (p1 p2 p3:List D):Option Ret:=R 59 Tryz.f59 [] (bz Tryz.f59 9) ⟨[uu,.ref 0 0 0,uu,uu,.d (.int .i64 p0),uu,uu,uu,uu,uu,uu,uu,uu,uu,uu,uu,uu,uu,uu,uu,uu,uu,uu,uu,uu,uu,uu,uu,uu,uu,uu,uu,uu,uu,uu,uu,uu,uu,uu,uu,uu,uu,uu,uu,uu,uu,uu,uu,uu,uu,uu,uu,uu,uu,uu,uu,uu,uu,uu,uu,uu,uu,uu,uu,uu,uu,uu,uu,uu,uu,uu,uu,uu],[(0,some (.var [.d (.rs (5,0) p1),.d (.rs (4,0) p2),.d (.rs (3,0) p3)]))],1,[]⟩
noncomputable def iq (p0:Int) (p1:List D):Option Ret:=R 60 Tryz.f60 [] (bz Tryz.f60 2) ⟨[uu,.ref 0 0 0,uu,.d (.int .i64 p0),uu,uu,uu,uu,uu,uu,uu,uu,uu,uu,uu,uu,uu,uu,uu,uu,uu,uu,uu],[(0,some (.var [.d (.rs (5,0) p1)]))],1,[]⟩
noncomputable def j9 (p0:List D) (p1 p2:Int) (p3 p4 p5:List D):Option Ret:=R 66 Tryz.f66 [] (bz Tryz.f66 5) ⟨[uu,uu,uu,uu,.ref 0 0 0,uu,.ref 1 0 0,.asl 2 none,.asl 3 none,uu,uu,uu,uu,uu,uu,uu,.d (.rs (1,0) p0),.d (.int .i64 p1),.d (.int .i64 p2),uu,uu,uu,uu,uu,uu,uu,uu,uu,uu,uu,uu,uu],[(0,some (.var [.d .nl])),(1,some (.var [.asl 4 none])),(2,some (.arr (1,0) p3)),(3,some (.arr (1,0) p4)),(4,some (.arr (5,0) p5))],5,[]⟩
noncomputable def iG (p0:Int) (p1:List D):Option Ret:=R 67 Tryz.f67 [] (bz Tryz.f67 4) ⟨[.d (.int .i64 p0),uu,uu,.asl 0 none,uu,uu,uu,uu,uu,uu,uu,uu,uu,uu,uu,uu,uu,uu,uu,uu,uu,uu,uu],[(0,some (.arr (1,0) p1))],1,[]⟩
noncomputable def aM (p0:List D) (p1 p2:Int) (p3:List D):Option Ret:=R 68 Tryz.f68 [] (bz Tryz.f68 3) ⟨[uu,uu,uu,.asl 0 none,uu,uu,uu,uu,uu,uu,uu,.d (.rs (5,0) p0),.d (.int .i64 p1),.d (.int .i64 p2),uu,uu,uu,uu,uu,uu,uu,uu,uu,uu,uu,uu,uu,uu,uu,uu,uu,uu,uu,uu,uu,uu,uu,uu,uu,uu,uu,uu,uu,uu,uu,uu,uu,uu,uu,uu,uu,uu,uu,uu,uu,uu,uu,uu,uu,uu,uu,uu,uu,uu,uu,uu,uu,uu,uu,uu,uu,uu,uu,uu,uu,uu,uu,uu,uu,uu,uu],[(0,some (.arr (1,0) p3))],1,[]⟩
noncomputable def iJ (p0:Int) (p1:List D):Option Ret:=R 69 Tryz.f69 [] (bz Tryz.f69 4) ⟨[.d (.int .i64 p0),uu,uu,.asl 0 none,uu,uu,uu,uu,uu,uu,uu,uu,uu,uu,uu,uu,uu,uu,uu,uu,uu,uu,uu,uu],[(0,some (.arr (1,0) p1))],1,[]⟩
noncomputable def aY (p0:Int) (p1 p2:List D):Option Ret:=R 70 Tryz.f70 [] (bz Tryz.f70 3) ⟨[uu,.ref 0 0 0,uu,.asl 1 none,.d (.int .i64 p0),uu,uu,uu,uu,uu,uu,uu,uu,uu,uu,uu,uu,uu,uu,uu,uu,uu,uu,uu,uu,uu,uu,uu,uu,uu,uu,uu,uu,uu,uu,uu,uu,uu,uu,uu,uu,uu,uu,uu,uu,uu,uu,uu,uu,uu,uu,uu,uu,uu,uu,uu,uu,uu,uu,uu,uu,uu,uu,uu,uu,uu,uu,uu,uu,uu,uu,uu,uu,uu,uu,uu,uu,uu,uu,uu,uu,uu,uu],[(0,some (.var [.d (.rs (5,0) p1)])),(1,some (.arr (1,0) p2))],2,[]⟩
noncomputable def gb (p0 p1 p2:Int) (p3:Bool) (p4:List D):Option Ret:=R 72 Tryz.f72 [((Go.Func.params Tryz.f72).toList.getD 0 0)] (bz Tryz.f72 4) ⟨[.ref 0 0 0,uu,.ref 1 0 0,.ref 2 0 0,.d (.int .i64 p0),.d (.int .i64 p1),uu,uu,uu,uu,uu,uu,uu,uu,uu,uu,uu,uu,uu,uu,uu,uu,uu,uu,uu,uu,uu,uu,uu,uu,uu,uu,uu,uu],[(0,some (.var [.asl 3 none,.d (.int .i64 p2),.d (.bool p3)])),(1,some (.var [.d .nl])),(2,some (.var [.d .nl])),(3,some (.arr (1,0) p4))],4,[.ref 0 0 0]⟩
noncomputable def dh (p0 p1 p2:Int) (p3:Bool) (p4 p5:List D):Option Ret:=R 72 Tryz.f72 [((Go.Func.params Tryz.f72).toList.getD 0 0)] (bz Tryz.f72 4) ⟨[.ref 0 0 0,uu,.ref 1 0 0,.ref 2 0 0,.d (.int .i64 p0),.d (.int .i64 p1),uu,uu,uu,uu,uu,uu,uu,uu,uu,uu,uu,uu,uu,uu,uu,uu,uu,uu,uu,uu,uu,uu,uu,uu,uu,uu,uu,uu],[(0,some (.var [.asl 3 none,.d (.int .i64 p2),.d (.bool p3)])),(1,some (.var [.d .nl])),(2,some (.var [.asl 4 none])),(3,some (.arr (1,0) p4)),(4,some (.arr (5,0) p5))],5,[.ref 0 0 0]⟩
noncomputable def iB (p0 p1:Int) (p2:List D) (p3 p4 p5 p6 p7 p8 p9:Int) (p10 p11:List D):Option Ret:=R 79 Tryz.f79 [] (bz Tryz.f79 4) ⟨[uu,uu,uu,.ref 0 0 0,uu,.d (.int .i64 p0),uu,uu,uu,uu,uu,uu,uu,uu,uu,uu,uu,uu,uu,uu,uu,uu,uu,uu,uu,uu,uu,uu,uu,uu,uu,uu,uu,uu,uu,uu,uu,uu,uu,uu,uu,uu,uu,uu,uu,uu,uu,uu,uu,uu,uu,uu,uu,uu,uu,uu,uu,uu,uu,uu,uu,uu,uu,uu,uu,uu],[(0,some (.var [.d (.int .i64 p1),.d (.rs (5,0) p2),.d (.int .i64 p3),.d (.int .i64 p4),.d (.int .i64 p5),.d (.int .i64 p6),.d (.int .i64 p7),.d (.int .i64 p8),.d (.int .i64 p9),.d (.rs (1,0) p10),.d (.rs (1,0) p11)]))],1,[]⟩
noncomputable def gN (p0 p1:Int) (p2:List D) (p3 p4 p5 p6 p7 p8 p9:Int) (p10 p11:List D):Option Ret:=R 79 Tryz.f79 [] (bz Tryz.f79 10) ⟨[uu,uu,uu,.ref 0 0 0,uu,uu,uu,uu,uu,.d (.int .i64 p0),uu,uu,uu,uu,uu,uu,uu,uu,uu,uu,uu,uu,uu,uu,uu,uu,uu,uu,uu,uu,uu,uu,uu,uu,uu,uu,uu,uu,uu,uu,uu,uu,uu,uu,uu,uu,uu,uu,uu,uu,uu,uu,uu,uu,uu,uu,uu,uu,uu,uu,uu,uu,uu,uu,uu,uu],[(0,some (.var [.d (.int .i64 p1),.d (.rs (5,0) p2),.d (.int .i64 p3),.d (.int .i64 p4),.d (.int .i64 p5),.d (.int .i64 p6),.d (.int .i64 p7),.d (.int .i64 p8),.d (.int .i64 p9),.d (.rs (1,0) p10),.d (.rs (1,0) p11)]))],1,[]⟩
noncomputable def iU (p0:List D) (p1:Int) (p2 p3 p4:List D):Option Ret:=R 86 Tryz.f86 [] (bz Tryz.f86 5) ⟨[uu,.d (.rs (1,0) p0),uu,uu,.ref 0 0 0,uu,.ref 1 0 0,.asl 2 none,.asl 3 none,.d (.int .i64 p1),uu,uu,uu,uu,uu,uu,uu,uu,uu,uu,uu,uu,uu,uu,uu,uu,uu,uu,uu,uu,uu,uu,uu,uu,uu],[(0,some (.var [.d .nl])),(1,some (.var [.asl 4 none])),(2,some (.arr (1,0) p2)),(3,some (.arr (1,0) p3)),(4,some (.arr (5,0) p4))],5,[]⟩
noncomputable def ef (p0:Int) (p1:List D) (p2 p3:Int) (p4:List D):Option Ret:=R 90 Tryz.f90 [87] (bz Tryz.f90 8) ⟨[uu,uu,.ref 0 0 0,.ref 1 0 0,uu,.d (.int .i64 p0),uu,uu,uu,uu,uu,uu,uu,uu,uu,uu,uu,uu,uu,uu,uu,uu,uu,uu,uu,uu,uu,uu,uu,uu,uu,uu,uu,uu,uu,uu,uu,uu,uu,uu,uu,uu,uu,uu,uu,uu,uu,uu,uu,uu,uu,uu],[(0,some (.var [.d .nl])),(1,some (.var [.asl 3 none])),(2,some (.var [.d (.rs (1,0) p1),.d (.int .i64 p2),.d (.int .i64 p3)])),(3,some (.arr (5,0) p4))],4,[.ref 2 0 0]⟩
noncomputable def fi (p0 p1 p2:Int) (p3:Bool) (p4:List D):Option Ret:=R 115 Tryz.f115 [((Go.Func.params Tryz.f115).toList.getD 0 0)] (bz Tryz.f115 6) ⟨[.ref 0 0 0,uu,.ref 1 0 0,.ref 2 0 0,.d (.int .i64 p0),.d (.int .i64 p1),uu,uu,uu,uu,uu,uu,uu,uu,uu,uu,uu,uu,uu,uu,uu,uu,uu,uu,uu,uu,uu,uu,uu,uu,uu,uu,uu,uu,uu,uu,uu,uu,uu,uu,uu,uu,uu,uu,uu,uu,uu,uu,uu,uu,uu,uu,uu,uu,uu,uu,uu,uu,uu,uu,uu,uu,uu,uu,uu,uu,uu,uu,uu,uu,uu,uu,uu,uu,uu,uu,uu,uu,uu,uu,uu,uu,uu,uu,uu,uu,uu,uu,uu,uu,uu,uu,uu,uu,uu,uu,uu,uu,uu,uu,uu,uu,uu,uu,uu,uu,uu,uu,uu,uu,uu,uu,uu,uu,uu,uu,uu,uu,uu,uu,uu,uu,uu,uu,uu,uu,uu,uu,uu],[(0,some (.var [.asl 3 none,.d (.int .i64 p2),.d (.bool p3)])),(1,some (.var [.d .nl])),(2,some (.var [.d .nl])),(3,some (.arr (1,0) p4))],4,[.ref 0 0 0]⟩
noncomputable def ar (p0 p1 p2:Int) (p3:Bool) (p4 p5:List D):Option Ret:=R 115 Tryz.f115 [((Go.Func.params Tryz.f115).toList.getD 0 0)] (bz Tryz.f115 6) ⟨[.ref 0 0 0,uu,.ref 1 0 0,.ref 2 0 0,.d (.int .i64 p0),.d (.int .i64 p1),uu,uu,uu,uu,uu,uu,uu,uu,uu,uu,uu,uu,uu,uu,uu,uu,uu,uu,uu,uu,uu,uu,uu,uu,uu,uu,uu,uu,uu,uu,uu,uu,uu,uu,uu,uu,uu,uu,uu,uu,uu,uu,uu,uu,uu,uu,uu,uu,uu,uu,uu,uu,uu,uu,uu,uu,uu,uu,uu,uu,uu,uu,uu,uu,uu,uu,uu,uu,uu,uu,uu,uu,uu,uu,uu,uu,uu,uu,uu,uu,uu,uu,uu,uu,uu,uu,uu,uu,uu,uu,uu,uu,uu,uu,uu,uu,uu,uu,uu,uu,uu,uu,uu,uu,uu,uu,uu,uu,uu,uu,uu,uu,uu,uu,uu,uu,uu,uu,uu,uu,uu,uu,uu],[(0,some (.var [.asl 3 none,.d (.int .i64 p2),.d (.bool p3)])),(1,some (.var [.d .nl])),(2,some (.var [.asl 4 none])),(3,some (.arr (1,0) p4)),(4,some (.arr (5,0) p5))],5,[.ref 0 0 0]⟩
noncomputable def gc (p0:ByteArray) (p1 p2:Int):Option Ret:=R 124 Tryz.f124 [] (bz Tryz.f124 4) ⟨[.d (.str p0),uu,uu,uu,uu,uu,uu,uu,uu,.d (.int .i64 p1),.d (.int .i64 p2),uu,uu,uu,uu,uu,uu,uu,uu],[],0,[]⟩
noncomputable def gf (p0:ByteArray) (p1:Int):Option Ret:=R 128 Tryz.f128 [] (bz Tryz.f128 2) ⟨[.d (.str p0),uu,uu,.d (.int .i64 p1),uu,uu,uu,uu,uu,uu,uu,uu,uu,uu,uu,uu,uu,uu],[],0,[]⟩
noncomputable def jo (p0:ByteArray) (p1:Int) (p2 p3 p4:List D):Option Ret:=R 129 Tryz.f129 [] (bz Tryz.f129 2) ⟨[uu,.d (.str p0),.ref 0 0 0,uu,uu,.d (.int .i64 p1),uu,uu,uu,uu,uu,uu,uu,uu,uu,uu,uu,uu,uu,uu,uu,uu],[(0,some (.var [.d (.rs (5,0) p2),.d (.rs (4,0) p3),.d (.rs (3,0) p4)]))],1,[]⟩
noncomputable def ce (p0:List D) (p1 p2:Int) (p3 p4 p5:List D):Option Ret:=R 137 Tryz.f137 [((Go.Func.params Tryz.f137).toList.getD 0 0)] (bz Tryz.f137 4) ⟨[.ref 0 0 0,uu,uu,uu,uu,uu,uu,.asl 1 none,.asl 2 none,uu,uu,uu,uu,uu,uu,uu,uu,uu,uu,.d (.rs (5,0) p0),.d (.int .i64 p1),.d (.int .i64 p2),uu,uu,uu,uu,uu,uu,uu,uu,uu,uu,uu,uu,uu,uu,uu,uu,uu,uu,uu,uu,uu,uu,uu,uu,uu,uu,uu,uu,uu,uu,uu,uu,uu,uu,uu,uu,uu,uu,uu,uu,uu,uu,uu,uu,uu],[(0,some (.var [.asl 3 none])),(1,some (.arr (1,0) p3)),(2,some (.arr (1,0) p4)),(3,some (.arr (5,0) p5))],4,[.ref 0 0 0]⟩
noncomputable def iz (p0:List D) (p1 p2 p3:Int):Option Ret:=R 140 Tryz.f140 [] (bz Tryz.f140 5) ⟨[.d (.rs (1,0) p0),.d (.int .i64 p1),uu,uu,uu,uu,uu,.d (.int .i64 p2),.d (.int .i64 p3),uu,uu,uu,uu,uu,uu,uu,uu,uu,uu,uu,uu,uu,uu,uu,uu,uu,uu,uu,uu,uu,uu,uu,uu,uu,uu,uu,uu,uu,uu,uu,uu,uu,uu,uu,uu,uu,uu,uu,uu,uu,uu,uu,uu,uu,uu],[],0,[]⟩
noncomputable def dW (p0:Int) (p1:List D) (p2 p3:Int):Option Ret:=R 142 Tryz.f142 [87] (bz Tryz.f142 2) ⟨[.ref 0 0 0,uu,.ref 1 0 0,.d (.int .i64 p0),uu,uu,uu,uu,uu,uu,uu,uu,uu,uu,uu,uu,uu,uu,uu,uu,uu,uu,uu,uu,uu,uu,uu,uu,uu,uu,uu,uu,uu,uu,uu,uu,uu,uu,uu,uu,uu,uu,uu,uu,uu,uu,uu,uu,uu,uu,uu,uu,uu,uu,uu,uu,uu,uu,uu,uu],[(0,some (.var [.d (.rs (1,0) p1),.d (.int .i64 p2),.d (.int .i64 p3)])),(1,some (.var [.d .nl,.d .nl,.d .nl]))],2,[.ref 0 0 0]⟩
noncomputable def ez (p0:List D) (p1 p2:Int):Option Ret:=R 145 Tryz.f145 [] (bz Tryz.f145 2) ⟨[.d (.rs (1,0) p0),.fn 81 [],uu,uu,uu,uu,uu,.d (.int .i64 p1),.d (.int .i64 p2),uu,uu,uu,uu,uu,uu,uu,uu,uu,uu],[],0,[]⟩
noncomputable def eF (p0:List D) (p1 p2:Int):Option Ret:=R 145 Tryz.f145 [] (bz Tryz.f145 2) ⟨[.d (.rs (1,0) p0),.fn 83 [],uu,uu,uu,uu,uu,.d (.int .i64 p1),.d (.int .i64 p2),uu,uu,uu,uu,uu,uu,uu,uu,uu,uu],[],0,[]⟩
noncomputable def dg (p0:List D) (p1:Int) (p2 p3 p4:List D):Option Ret:=R 148 Tryz.f148 [((Go.Func.params Tryz.f148).toList.getD 0 0)] (bz Tryz.f148 3) ⟨[.ref 0 0 0,uu,.d (.rs (1,0) p0),uu,.ref 1 0 0,uu,uu,.asl 2 none,.d (.int .i64 p1),uu,uu,uu,uu,uu,uu,uu,uu,uu,uu,uu,uu,uu,uu,uu,uu,uu,uu,uu,uu,uu,uu,uu,uu,uu,uu,uu,uu,uu,uu,uu,uu,uu,uu,uu,uu,uu,uu,uu,uu,uu,uu,uu,uu,uu,uu,uu,uu,uu,uu,uu,uu,uu,uu],[(0,some (.var [.asl 3 none])),(1,some (.var [.d (.rs (5,0) p2)])),(2,some (.arr (1,0) p3)),(3,some (.arr (5,0) p4))],4,[.ref 0 0 0]⟩
noncomputable def fJ (p0:List D) (p1:Int) (p2 p3:List D):Option Ret:=R 149 Tryz.f149 [] (bz Tryz.f149 3) ⟨[uu,.d (.rs (1,0) p0),.ref 0 0 0,uu,uu,.asl 1 none,.d (.int .i64 p1),uu,uu,uu,uu,uu,uu,uu,uu,uu,uu,uu,uu,uu,uu,uu,uu,uu,uu,uu,uu,uu,uu,uu,uu,uu,uu,uu,uu,uu,uu,uu,uu,uu,uu,uu,uu,uu,uu,uu,uu,uu,uu,uu,uu,uu,uu,uu,uu,uu,uu,uu,uu,uu,uu,uu,uu],[(0,some (.var [.d (.rs (5,0) p2)])),(1,some (.arr (1,0) p3))],2,[]⟩
noncomputable def c8 (p0:Int) (p1 p2:List D):Option Ret:=R 149 Tryz.f149 [] (bz Tryz.f149 7) ⟨[uu,uu,.ref 0 0 0,uu,uu,.asl 1 none,uu,.d (.int .i64 p0),uu,uu,uu,uu,uu,uu,uu,uu,uu,uu,uu,uu,uu,uu,uu,uu,uu,uu,uu,uu,uu,uu,uu,uu,uu,uu,uu,uu,uu,uu,uu,uu,uu,uu,uu,uu,uu,uu,uu,uu,uu,uu,uu,uu,uu,uu,uu,uu,uu,uu,uu,uu,uu,uu,uu],[(0,some (.var [.d (.rs (5,0) p1)])),(1,some (.arr (1,0) p2))],2,[]⟩
noncomputable def j0 (p0 p1:Int) (p2:List D) (p3 p4:Int):Option Ret:=R 154 Tryz.f154 [87] (bz Tryz.f154 4) ⟨[.ref 0 0 0,uu,.ref 1 0 0,.ref 2 0 0,.d (.int .i64 p0),.d (.int .i64 p1),uu,uu,uu,uu,uu,uu,uu,uu,uu,uu,uu,uu,uu],[(0,some (.var [.d (.rs (1,0) p2),.d (.int .i64 p3),.d (.int .i64 p4)])),(1,some (.var [.d .nl])),(2,some (.var [.d .nl]))],3,[.ref 0 0 0]⟩
noncomputable def ej (p0 p1:Int) (p2:List D) (p3 p4:Int) (p5:List D):Option Ret:=R 154 Tryz.f154 [87] (bz Tryz.f154 4) ⟨[.ref 0 0 0,uu,.ref 1 0 0,.ref 2 0 0,.d (.int .i64 p0),.d (.int .i64 p1),uu,uu,uu,uu,uu,uu,uu,uu,uu,uu,uu,uu,uu],[(0,some (.var [.d (.rs (1,0) p2),.d (.int .i64 p3),.d (.int .i64 p4)])),(1,some (.var [.d .nl])),(2,some (.var [.asl 3 none])),(3,some (.arr (5,0) p5))],4,[.ref 0 0 0]⟩
noncomputable def iL (p0:List D) (p1 p2 p3 p4:Int):Option Ret:=R 173 Tryz.f173 [] (bz Tryz.f173 6) ⟨[.d (.rs (1,0) p0),.d (.int .i64 p1),uu,uu,uu,uu,uu,.d (.int .i64 p2),.d (.int .i64 p3),.d (.int .i64 p4),uu,uu,uu,uu,uu,uu,uu,uu,uu,uu,uu,uu,uu,uu,uu,uu,uu,uu,uu,uu,uu,uu,uu,uu,uu,uu,uu,uu,uu,uu,uu,uu,uu,uu,uu,uu,uu,uu,uu,uu,uu,uu,uu,uu,uu,uu,uu,uu,uu],[],0,[]⟩
noncomputable def fG (p0:List D) (p1:ByteArray) (p2 p3:Int):Option Ret:=R 178 Tryz.f178 [] (bz Tryz.f178 2) ⟨[.d (.rs (3,0) p0),.fn 179 [.rp (1,1) [.str p1] 0 0],uu,uu,uu,uu,uu,.d (.int .i64 p2),.d (.int .i64 p3),uu,uu,uu,uu,uu,uu,uu,uu,uu,uu],[],0,[]⟩
noncomputable def gG (p0:List D) (p1 p2:Int) (p3 p4:List D):Option Ret:=R 189 Tryz.f189 [] (bz Tryz.f189 3) ⟨[uu,uu,.ref 0 0 0,uu,uu,.asl 1 none,uu,uu,uu,uu,uu,uu,uu,uu,.d (.rs (1,0) p0),.d (.int .i64 p1),.d (.int .i64 p2),uu,uu,uu,uu,uu,uu,uu,uu,uu,uu,uu,uu,uu,uu,uu,uu,uu,uu,uu,uu,uu,uu,uu,uu,uu,uu,uu,uu,uu,uu,uu,uu,uu,uu,uu,uu,uu,uu,uu,uu,uu,uu,uu,uu,uu],[(0,some (.var [.d (.rs (5,0) p3)])),(1,some (.arr (1,0) p4))],2,[]⟩
noncomputable def dE (p0:Int) (p1 p2:List D):Option Ret:=R 189 Tryz.f189 [] (bz Tryz.f189 8) ⟨[uu,uu,.ref 0 0 0,uu,uu,.asl 1 none,uu,uu,.d (.int .i64 p0),uu,uu,uu,uu,uu,uu,uu,uu,uu,uu,uu,uu,uu,uu,uu,uu,uu,uu,uu,uu,uu,uu,uu,uu,uu,uu,uu,uu,uu,uu,uu,uu,uu,uu,uu,uu,uu,uu,uu,uu,uu,uu,uu,uu,uu,uu,uu,uu,uu,uu,uu,uu,uu],[(0,some (.var [.d (.rs (5,0) p1)])),(1,some (.arr (1,0) p2))],2,[]⟩
noncomputable def cg (p0:ByteArray) (p1:Int) (p2 p3 p4 p5:List D):Option Ret:=R 191 Tryz.f191 [] (bz Tryz.f191 9) ⟨[uu,.d (.str p0),.ref 0 0 0,uu,.ref 1 0 0,uu,uu,uu,.asl 2 none,.ref 3 0 0,.asl 4 none,.d (.int .i64 p1),uu,uu,uu,uu,uu,uu,uu,uu,uu,uu,uu,uu,uu,uu,uu,uu,uu,uu,uu,uu,uu,uu,uu,uu,uu,uu,uu,uu,uu,uu,uu,uu,uu,uu,uu,uu,uu,uu,uu,uu,uu,uu,uu,uu,uu,uu,uu,uu,uu,uu,uu,uu,uu,uu,uu,uu,uu,uu,uu,uu,uu,uu,uu,uu,uu,uu,uu,uu,uu,uu,uu,uu,uu,uu,uu,uu,uu,uu,uu,uu,uu,uu,uu,uu,uu,uu,uu,uu,uu,uu,uu,uu,uu,uu,uu,uu,uu,uu,uu,uu,uu,uu,uu,uu,uu,uu,uu,uu,uu,uu,uu,uu,uu,uu,uu,uu,uu,uu,uu,uu,uu,uu,uu,uu,uu,uu,uu,uu,uu,uu,uu,uu,uu,uu,uu,uu,uu,uu,uu,uu,uu,uu,uu,uu,uu,uu,uu,uu,uu,uu,uu,uu,uu,uu,uu,uu,uu,uu],[(0,some (.var [.d (.rs (5,0) p2)])),(1,some (.var [.d .nl])),(2,some (.arr (1,0) p3)),(3,some (.var [.asl 5 none])),(4,some (.arr (2,2) p4)),(5,some (.arr (5,0) p5))],6,[]⟩
noncomputable def bZ (p0:ByteArray) (p1:Nat) (p2:Int) (p3 p4 p5 p6:List D):Option Ret:=R 191 Tryz.f191 [] (bz Tryz.f191 9) ⟨[uu,.d (.str p0),.ref 0 0 0,uu,.ref 1 0 0,uu,uu,uu,.asl 2 none,.ref 3 0 0,.asl 4 (some (0,p1)),.d (.int .i64 p2),uu,uu,uu,uu,uu,uu,uu,uu,uu,uu,uu,uu,uu,uu,uu,uu,uu,uu,uu,uu,uu,uu,uu,uu,uu,uu,uu,uu,uu,uu,uu,uu,uu,uu,uu,uu,uu,uu,uu,uu,uu,uu,uu,uu,uu,uu,uu,uu,uu,uu,uu,uu,uu,uu,uu,uu,uu,uu,uu,uu,uu,uu,uu,uu,uu,uu,uu,uu,uu,uu,uu,uu,uu,uu,uu,uu,uu,uu,uu,uu,uu,uu,uu,uu,uu,uu,uu,uu,uu,uu,uu,uu,uu,uu,uu,uu,uu,uu,uu,uu,uu,uu,uu,uu,uu,uu,uu,uu,uu,uu,uu,uu,uu,uu,uu,uu,uu,uu,uu,uu,uu,uu,uu,uu,uu,uu,uu,uu,uu,uu,uu,uu,uu,uu,uu,uu,uu,uu,uu,uu,uu,uu,uu,uu,uu,uu,uu,uu,uu,uu,uu,uu,uu,uu,uu,uu,uu,uu],[(0,some (.var [.d (.rs (5,0) p3)])),(1,some (.var [.d .nl])),(2,some (.arr (1,0) p4)),(3,some (.var [.asl 5 none])),(4,some (.arr (2,2) p5)),(5,some (.arr (5,0) p6))],6,[]⟩
noncomputable def eW (p0:ByteArray) (p1 p2 p3:Int) (p4 p5 p6 p7:List D):Option Ret:=R 191 Tryz.f191 [] (bz Tryz.f191 27) ⟨[uu,.d (.str p0),.ref 0 0 0,uu,.ref 1 0 0,uu,uu,uu,.asl 2 none,.ref 3 0 0,.asl 4 none,.d (.int .i64 p1),.d (.int .i64 p2),uu,uu,.d (.int .i64 p3),uu,uu,uu,uu,uu,uu,uu,uu,uu,uu,uu,uu,uu,uu,uu,uu,uu,uu,uu,uu,uu,uu,uu,uu,uu,uu,uu,uu,uu,uu,uu,uu,uu,uu,uu,uu,uu,uu,uu,uu,uu,uu,uu,uu,uu,uu,uu,uu,uu,uu,uu,uu,uu,uu,uu,uu,uu,uu,uu,uu,uu,uu,uu,uu,uu,uu,uu,uu,uu,uu,uu,uu,uu,uu,uu,uu,uu,uu,uu,uu,uu,uu,uu,uu,uu,uu,uu,uu,uu,uu,uu,uu,uu,uu,uu,uu,uu,uu,uu,uu,uu,uu,uu,uu,uu,uu,uu,uu,uu,uu,uu,uu,uu,uu,uu,uu,uu,uu,uu,uu,uu,uu,uu,uu,uu,uu,uu,uu,uu,uu,uu,uu,uu,uu,uu,uu,uu,uu,uu,uu,uu,uu,uu,uu,uu,uu,uu,uu,uu,uu,uu,uu,uu,uu],[(0,some (.var [.d (.rs (5,0) p4)])),(1,some (.var [.d .nl])),(2,some (.arr (1,0) p5)),(3,some (.var [.asl 5 none])),(4,some (.arr (2,2) p6)),(5,some (.arr (5,0) p7))],6,[]⟩
noncomputable def dQ (p0:ByteArray) (p1:Nat) (p2 p3 p4:Int) (p5 p6 p7 p8:List D):Option Ret:=R 191 Tryz.f191 [] (bz Tryz.f191 27) ⟨[uu,.d (.str p0),.ref 0 0 0,uu,.ref 1 0 0,uu,uu,uu,.asl 2 none,.ref 3 0 0,.asl 4 (some (0,p1)),.d (.int .i64 p2),.d (.int .i64 p3),uu,uu,.d (.int .i64 p4),uu,uu,uu,uu,uu,uu,uu,uu,uu,uu,uu,uu,uu,uu,uu,uu,uu,uu,uu,uu,uu,uu,uu,uu,uu,uu,uu,uu,uu,uu,uu,uu,uu,uu,uu,uu,uu,uu,uu,uu,uu,uu,uu,uu,uu,uu,uu,uu,uu,uu,uu,uu,uu,uu,uu,uu,uu,uu,uu,uu,uu,uu,uu,uu,uu,uu,uu,uu,uu,uu,uu,uu,uu,uu,uu,uu,uu,uu,uu,uu,uu,uu,uu,uu,uu,uu,uu,uu,uu,uu,uu,uu,uu,uu,uu,uu,uu,uu,uu,uu,uu,uu,uu,uu,uu,uu,uu,uu,uu,uu,uu,uu,uu,uu,uu,uu,uu,uu,uu,uu,uu,uu,uu,uu,uu,uu,uu,uu,uu,uu,uu,uu,uu,uu,uu,uu,uu,uu,uu,uu,uu,uu,uu,uu,uu,uu,uu,uu,uu,uu,uu,uu,uu,uu],[(0,some (.var [.d (.rs (5,0) p5)])),(1,some (.var [.d .nl])),(2,some (.arr (1,0) p6)),(3,some (.var [.asl 5 none])),(4,some (.arr (2,2) p7)),(5,some (.arr (5,0) p8))],6,[]⟩
noncomputable def gK (p0:List D) (p1:Int) (p2:List D):Option Ret:=R 193 Tryz.f193 [] (bz Tryz.f193 4) ⟨[uu,.d (.rs (1,0) p0),.ref 0 0 0,uu,.ref 1 0 0,uu,uu,.d (.int .i64 p1),uu,uu,uu,uu,uu,uu,uu,uu,uu,uu,uu,uu,uu,uu,uu,uu,uu,uu,uu,uu,uu,uu,uu,uu,uu,uu,uu,uu,uu,uu,uu,uu,uu,uu,uu,uu,uu,uu,uu,uu,uu,uu,uu,uu,uu,uu,uu,uu,uu,uu,uu,uu,uu,uu,uu,uu,uu,uu,uu,uu,uu,uu,uu,uu,uu,uu,uu,uu,uu,uu,uu,uu,uu,uu],[(0,some (.var [.d (.rs (5,0) p2)])),(1,some (.var [.d .nl,.d .nl,.d .nl]))],2,[]⟩
noncomputable def jg (p0:List D) (p1 p2:Int) (p3:List D):Option Ret:=R 193 Tryz.f193 [] (bz Tryz.f193 10) ⟨[uu,.d (.rs (1,0) p0),uu,uu,.ref 0 0 0,uu,uu,uu,.ref 1 0 0,.d (.int .i64 p1),uu,uu,uu,uu,uu,uu,uu,uu,uu,uu,uu,uu,uu,uu,uu,uu,uu,uu,uu,uu,uu,uu,uu,uu,uu,uu,uu,uu,uu,uu,uu,uu,uu,uu,uu,uu,uu,uu,uu,uu,uu,uu,uu,uu,uu,uu,uu,uu,uu,uu,uu,uu,uu,uu,uu,uu,uu,uu,uu,uu,uu,uu,uu,uu,uu,uu,uu,uu,uu,uu,uu,uu],[(0,some (.var [.d .nl,.d .nl,.d .nl])),(1,some (.var [.asl 2 none,.d .nl,.d .nl,.d (.int .i64 p2)])),(2,some (.arr (5,0) p3))],3,[]⟩
noncomputable def fC (p0:List D) (p1 p2:Int) (p3 p4 p5:List D):Option Ret:=R 193 Tryz.f193 [] (bz Tryz.f193 10) ⟨[uu,.d (.rs (1,0) p0),uu,uu,.ref 0 0 0,uu,uu,uu,.ref 1 0 0,.d (.int .i64 p1),uu,uu,uu,uu,uu,uu,uu,uu,uu,uu,uu,uu,uu,uu,uu,uu,uu,uu,uu,uu,uu,uu,uu,uu,uu,uu,uu,uu,uu,uu,uu,uu,uu,uu,uu,uu,uu,uu,uu,uu,uu,uu,uu,uu,uu,uu,uu,uu,uu,uu,uu,uu,uu,uu,uu,uu,uu,uu,uu,uu,uu,uu,uu,uu,uu,uu,uu,uu,uu,uu,uu,uu],[(0,some (.var [.d .nl,.d .nl,.d .nl])),(1,some (.var [.asl 2 none,.asl 3 none,.asl 4 none,.d (.int .i64 p2)])),(2,some (.arr (5,0) p3)),(3,some (.arr (4,0) p4)),(4,some (.arr (3,0) p5))],5,[]⟩
noncomputable def gq (p0:Int) (p1:ByteArray):Option Ret:=R 202 Tryz.f202 [] (bz Tryz.f202 6) ⟨[.d (.int .i64 p0),uu,uu,.d (.str p1),uu,uu,uu,uu,uu,uu,uu,uu,uu,uu,uu,uu,uu,uu,uu,uu,uu,uu,uu,uu,uu],[],0,[]⟩
noncomputable def iY (p0:List D) (p1 p2:Int) (p3:List D):Option Ret:=R 210 Tryz.f210 [((Go.Func.params Tryz.f210).toList.getD 0 0)] (bz Tryz.f210 3) ⟨[.ref 0 0 0,.d (.rs (1,0) p0),uu,uu,uu,.d (.int .i64 p1),.d (.int .i64 p2),uu,uu,uu,uu,uu,uu,uu,uu,uu,uu,uu,uu,uu,uu,uu,uu,uu,uu,uu],[(0,some (.var [.asl 1 none])),(1,some (.arr (5,0) p3))],2,[.ref 0 0 0]⟩
noncomputable def dr (p0:List D) (p1 p2 p3:Int):Option Ret:=R 221 Tryz.f221 [] (bz Tryz.f221 2) ⟨[.d (.rs (1,0) p0),.d (.int .u8 p1),uu,uu,uu,uu,uu,.d (.int .i64 p2),.d (.int .i64 p3),uu,uu,uu,uu,uu,uu,uu,uu,uu,uu],[],0,[]⟩
noncomputable def d7 (p0 p1:ByteArray) (p2 p3:Int):Option Ret:=R 227 Tryz.f227 [] (bz Tryz.f227 8) ⟨[.d (.str p0),uu,uu,uu,.d (.str p1),.d (.int .i64 p2),.d (.int .i64 p3),uu,uu,uu,uu,uu,uu,uu,uu,uu,uu,uu,uu,uu,uu,uu,uu,uu,uu,uu,uu,uu,uu,uu,uu,uu,uu,uu,uu,uu,uu,uu,uu,uu,uu,uu,uu,uu,uu,uu,uu,uu,uu,uu,uu,uu,uu,uu,uu,uu,uu,uu,uu,uu,uu],[],0,[]⟩
noncomputable def gp (p0:Int) (p1 p2:List D):Option Ret:=R 228 Tryz.f228 [] (bz Tryz.f228 2) ⟨[uu,.d (.int .i64 p0),.ref 0 0 0,uu,uu,uu,.asl 1 none,uu,uu,uu,uu,uu,uu,uu,uu,uu,uu,uu,uu,uu,uu,uu,uu,uu,uu,uu,uu,uu,uu,uu,uu,uu,uu,uu,uu,uu,uu,uu,uu],[(0,some (.var [.d (.rs (5,0) p1)])),(1,some (.arr (1,0) p2))],2,[]⟩
noncomputable def fk (p0:ByteArray) (p1 p2:List D) (p3 p4:Int) (p5 p6 p7:List D):Option Ret:=R 229 Tryz.f229 [((Go.Func.params Tryz.f229).toList.getD 0 0)] (bz Tryz.f229 1) ⟨[.ref 0 0 0,.d (.str p0),.d (.rs (1,0) p1),.d (.rs (1,0) p2),uu,uu,uu,uu,.d (.int .i64 p3),uu,uu,uu,uu,uu,uu,uu,uu,uu,uu,uu,uu,uu,uu,uu,uu,uu,uu,uu,uu,uu,uu,uu,uu,uu,uu,uu,uu,uu,uu,uu,uu,uu,uu,uu,uu,uu,uu,uu,uu,uu,uu,uu,uu,uu,uu,uu,uu,uu,uu,uu,uu,uu,uu,uu],[(0,some (.var [.asl 1 none,.asl 2 none,.asl 3 none,.d (.int .i64 p4)])),(1,some (.arr (5,0) p5)),(2,some (.arr (4,0) p6)),(3,some (.arr (3,0) p7))],4,[.ref 0 0 0]⟩
noncomputable def dN (p0:List D) (p1 p2:Int) (p3 p4 p5 p6:List D):Option Ret:=R 231 Tryz.f231 [((Go.Func.params Tryz.f231).toList.getD 0 0)] (bz Tryz.f231 5) ⟨[.ref 0 0 0,.d (.rs (1,0) p0),uu,uu,uu,.asl 1 none,.d (.int .i64 p1),uu,uu,uu,uu,uu,uu,uu,uu,uu,uu,uu,uu,uu,uu,uu,uu,uu,uu,uu,uu,uu,uu,uu,uu,uu,uu,uu,uu,uu,uu,uu,uu,uu,uu,uu,uu,uu,uu,uu,uu,uu,uu,uu,uu,uu,uu,uu,uu,uu,uu,uu,uu,uu,uu,uu,uu,uu,uu,uu,uu,uu,uu,uu,uu,uu,uu,uu,uu,uu,uu,uu,uu,uu],[(0,some (.var [.asl 2 none,.asl 3 none,.asl 4 none,.d (.int .i64 p2)])),(1,some (.arr (1,0) p3)),(2,some (.arr (5,0) p4)),(3,some (.arr (4,0) p5)),(4,some (.arr (3,0) p6))],5,[.ref 0 0 0]⟩
noncomputable def dz (p0 p1:Int) (p2 p3 p4 p5:List D):Option Ret:=R 231 Tryz.f231 [((Go.Func.params Tryz.f231).toList.getD 0 0)] (bz Tryz.f231 12) ⟨[.ref 0 0 0,uu,uu,uu,uu,.asl 1 none,uu,uu,uu,.d (.int .i64 p0),uu,uu,uu,uu,uu,uu,uu,uu,uu,uu,uu,uu,uu,uu,uu,uu,uu,uu,uu,uu,uu,uu,uu,uu,uu,uu,uu,uu,uu,uu,uu,uu,uu,uu,uu,uu,uu,uu,uu,uu,uu,uu,uu,uu,uu,uu,uu,uu,uu,uu,uu,uu,uu,uu,uu,uu,uu,uu,uu,uu,uu,uu,uu,uu,uu,uu,uu,uu,uu,uu],[(0,some (.var [.asl 2 none,.asl 3 none,.asl 4 none,.d (.int .i64 p1)])),(1,some (.arr (1,0) p2)),(2,some (.arr (5,0) p3)),(3,some (.arr (4,0) p4)),(4,some (.arr (3,0) p5))],5,[.ref 0 0 0]⟩
noncomputable def fm (p0 p1 p2:Int) (p3 p4 p5 p6:List D):Option Ret:=R 231 Tryz.f231 [((Go.Func.params Tryz.f231).toList.getD 0 0)] (bz Tryz.f231 15) ⟨[.ref 0 0 0,uu,uu,uu,uu,.asl 1 none,uu,uu,uu,.d (.int .i64 p0),.d (.int .i64 p1),uu,uu,uu,uu,uu,uu,uu,uu,uu,uu,uu,uu,uu,uu,uu,uu,uu,uu,uu,uu,uu,uu,uu,uu,uu,uu,uu,uu,uu,uu,uu,uu,uu,uu,uu,uu,uu,uu,uu,uu,uu,uu,uu,uu,uu,uu,uu,uu,uu,uu,uu,uu,uu,uu,uu,uu,uu,uu,uu,uu,uu,uu,uu,uu,uu,uu,uu,uu,uu],[(0,some (.var [.asl 2 none,.asl 3 none,.asl 4 none,.d (.int .i64 p2)])),(1,some (.arr (1,0) p3)),(2,some (.arr (5,0) p4)),(3,some (.arr (4,0) p5)),(4,some (.arr (3,0) p6))],5,[.ref 0 0 0]⟩
noncomputable def ga (p0 p1:List D) (p2 p3:Int) (p4 p5 p6:List D):Option Ret:=R 236 Tryz.f236 [((Go.Func.params Tryz.f236).toList.getD 0 0)] (bz Tryz.f236 1) ⟨[.ref 0 0 0,.d (.rs (1,0) p0),.d (.rs (1,1) p1),uu,uu,uu,.d (.int .i64 p2),uu,uu,uu,uu,uu,uu,uu,uu,uu,uu,uu,uu,uu,uu,uu,uu,uu,uu,uu,uu,uu,uu,uu,uu,uu],[(0,some (.var [.asl 1 none,.asl 2 none,.asl 3 none,.d (.int .i64 p3)])),(1,some (.arr (5,0) p4)),(2,some (.arr (4,0) p5)),(3,some (.arr (3,0) p6))],4,[.ref 0 0 0]⟩
noncomputable def cN (p0:List D) (p1 p2:Int) (p3 p4 p5 p6:List D):Option Ret:=R 244 Tryz.f244 [((Go.Func.params Tryz.f244).toList.getD 0 0)] (bz Tryz.f244 25) ⟨[.ref 0 0 0,uu,.d (.rs (1,1) p0),uu,uu,uu,uu,uu,uu,.asl 1 none,uu,uu,.d (.int .i64 p1),uu,uu,uu,uu,uu,uu,uu,uu,uu,uu,uu,uu,uu,uu,uu,uu,uu,uu,uu,uu,uu,uu,uu,uu,uu,uu,uu,uu,uu,uu,uu,uu,uu,uu,uu,uu,uu,uu,uu,uu,uu,uu,uu,uu,uu,uu,uu,uu,uu,uu,uu,uu,uu,uu,uu,uu,uu,uu,uu,uu,uu,uu,uu,uu,uu,uu,uu,uu,uu,uu,uu,uu,uu,uu,uu,uu,uu,uu,uu,uu,uu,uu,uu,uu,uu,uu,uu,uu,uu,uu,uu,uu,uu,uu,uu,uu,uu,uu,uu,uu,uu,uu,uu,uu,uu,uu,uu,uu,uu,uu,uu,uu,uu,uu,uu,uu,uu,uu,uu],[(0,some (.var [.asl 2 none,.asl 3 none,.asl 4 none,.d (.int .i64 p2)])),(1,some (.arr (1,0) p3)),(2,some (.arr (5,0) p4)),(3,some (.arr (4,0) p5)),(4,some (.arr (3,0) p6))],5,[.ref 0 0 0]⟩
noncomputable def gC (p0:List D) (p1:ByteArray) (p2:Int):Option Ret:=R 248 Tryz.f248 [] (bz Tryz.f248 2) ⟨[.d (.rs (1,1) p0),.d (.str p1),uu,uu,uu,uu,.d (.int .i64 p2),uu,uu,uu,uu,uu,uu,uu,uu,uu,uu,uu,uu,uu,uu,uu,uu,uu,uu,uu,uu,uu,uu,uu,uu,uu,uu,uu],[],0,[]⟩
noncomputable def jn (p0:List D) (p1:ByteArray) (p2 p3:Int):Option Ret:=R 248 Tryz.f248 [] (bz Tryz.f248 5) ⟨[.d (.rs (1,1) p0),.d (.str p1),uu,uu,uu,uu,.d (.int .i64 p2),.d (.int .i64 p3),uu,uu,uu,uu,uu,uu,uu,uu,uu,uu,uu,uu,uu,uu,uu,uu,uu,uu,uu,uu,uu,uu,uu,uu,uu,uu],[],0,[]⟩
end Go.Eng
/-! the functions as the interpreter has them -/
namespace Go.Eng
open Go.Proofs Go.Proofs.Tryz
set_option maxRecDepth 100000
theorem BQ (p l d:List D) (h:Int) (s:ByteArray) (x e:List D):V 249 [.op [.os (5,0) p,.os (4,0) l,.os (3,0) d,.int .i64 h],.str s,.rs (1,0) x,.rs (1,1) e] =
 br (ax s { data:=#[113,117,111,116,101] })
 (
 br (ni x.length == 2)
 (
 grd (decide (0 <= 1) && decide (1 < ni x.length)) (az x 1 fun x0=>
 asI .i64 x0 fun n1=>ac V 237 [.op [.os (5,0) p,.os (4,0) l,.os (3,0) d,.int .i64 h],(.agg [.int .i64 (1),.int .i64 n1,.int .i64 (0),.str ({ data:=#[] })])] fun x2 l3=>
 asI .i64 x2 fun _=>unc l3 fun x5 l6=>tk2 x5 fun l10 l13 l16 n19=>(unn l6 (some ((.tup []),[.op [.os (5,0) l10,.os (4,0) l13,.os (3,0) l16,.int .i64 n19]])))))
 (
 br (ax s { data:=#[105,102] })
 (
 br (ni x.length == 4)
 (
 grd (decide (0 <= 1) && decide (1 < ni x.length)) (az x 1 fun x20=>
 asI .i64 x20 fun n21=>ac V 244 [.op [.os (5,0) p,.os (4,0) l,.os (3,0) d,.int .i64 h],.int .i64 n21,.rs (1,1) e] fun x22 l23=>
 aP x22 fun l24=>unn l24 (unc l23 fun x25 l26=>tk2 x25 fun l30 l33 l36 n39=>(unn l26 (ac V 237 [.op [.os (5,0) l30,.os (4,0) l33,.os (3,0) l36,.int .i64 n39],(.agg [.int .i64 (4),.int .i64 (0),.int .i64 (0),.str ({ data:=#[] })])] fun x40 l41=>
 asI .i64 x40 fun n42=>unc l41 fun x43 l44=>tk2 x43 fun l48 l51 l54 n57=>(unn l44 (grd (decide (0 <= 2) && decide (2 < ni x.length)) (az x 2 fun x58=>
 asI .i64 x58 fun n59=>ac V 244 [.op [.os (5,0) l48,.os (4,0) l51,.os (3,0) l54,.int .i64 n57],.int .i64 n59,.rs (1,1) e] fun x60 l61=>
 aP x60 fun l62=>unn l62 (unc l61 fun x63 l64=>tk2 x63 fun l68 l71 l74 n77=>(unn l64 (ac V 237 [.op [.os (5,0) l68,.os (4,0) l71,.os (3,0) l74,.int .i64 n77],(.agg [.int .i64 (5),.int .i64 (0),.int .i64 (0),.str ({ data:=#[] })])] fun x78 l79=>
 asI .i64 x78 fun n80=>unc l79 fun x81 l82=>tk2 x81 fun l86 l89 l92 n95=>(unn l82 (ac V 253 [.op [.os (5,0) l86,.os (4,0) l89,.os (3,0) l92,.int .i64 n95],.int .i64 n42] fun x96 l97=>
 aP x96 fun l98=>unn l98 (unc l97 fun x99 l100=>tk2 x99 fun l104 l107 l110 n113=>(unn l100 (grd (decide (0 <= 3) && decide (3 < ni x.length)) (az x 3 fun x114=>
 asI .i64 x114 fun n115=>ac V 244 [.op [.os (5,0) l104,.os (4,0) l107,.os (3,0) l110,.int .i64 n113],.int .i64 n115,.rs (1,1) e] fun x116 l117=>
 aP x116 fun l118=>unn l118 (unc l117 fun x119 l120=>tk2 x119 fun l124 l127 l130 n133=>(unn l120 (ac V 253 [.op [.os (5,0) l124,.os (4,0) l127,.os (3,0) l130,.int .i64 n133],.int .i64 n80] fun x134 l135=>
 aP x134 fun l136=>unn l136 (unc l135 fun x137 l138=>tk2 x137 fun l142 l145 l148 n151=>(unn l138 (some ((.tup []),[.op [.os (5,0) l142,.os (4,0) l145,.os (3,0) l148,.int .i64 n151]]))))))))))))))))))))))))
 (
 br (ax s { data:=#[100,111] })
 (
 br (decide (ni x.length >= 2))
 (
 grd (bi x.length (some (1)) none) (ac V 236 [.op [.os (5,0) p,.os (4,0) l,.os (3,0) d,.int .i64 h],(.rs (1,0) (dk x (1))),.rs (1,1) e] fun x152 l153=>
 aP x152 fun l154=>unn l154 (unc l153 fun x155 l156=>tk2 x155 fun l160 l163 l166 n169=>(unn l156 (some ((.tup []),[.op [.os (5,0) l160,.os (4,0) l163,.os (3,0) l166,.int .i64 n169]]))))))
 (
 br (ax s { data:=#[102,110] })
 (
 br (decide (ni x.length >= 3))
 (
 grd (decide (0 <= 1) && decide (1 < ni x.length)) (az x 1 fun x170=>
 asI .i64 x170 fun n171=>ac V 228 [.agg [.rs (5,0) p],.int .i64 n171] fun x172 l173=>
 tk3 x172 fun l177 b180=>(unn l173 (br (!b180)
 (some ((.tup []),[.op [.os (5,0) p,.os (4,0) l,.os (3,0) d,.int .i64 (1)]]))
 (
 ac V 231 [.op [.os (5,0) p,.os (4,0) l,.os (3,0) d,.int .i64 h],.rs (1,0) l177] fun x181 l182=>
 aI (1,0) x181 fun l183=>unc l182 fun x184 l185=>tk2 x184 fun l189 l192 l195 n198=>(unn l185 (grd (bi x.length (some (2)) none) (ac V 254 [.op [.os (5,0) l189,.os (4,0) l192,.os (3,0) l195,.int .i64 n198],.rs (1,0) l183,(.rs (1,0) (dk x (2))),.rs (1,1) e] fun x199 l200=>
 aP x199 fun l201=>unn l201 (unc l200 fun x202 l203=>tk2 x202 fun l207 l210 l213 n216=>(unn l203 (some ((.tup []),[.op [.os (5,0) l207,.os (4,0) l210,.os (3,0) l213,.int .i64 n216]]))))))))))))
 (
 br (ax s { data:=#[108,101,116] })
 (
 br (decide (ni x.length >= 4))
 (
 grd (bi x.length (some (1)) (some (2))) (ac V 231 [.op [.os (5,0) p,.os (4,0) l,.os (3,0) d,.int .i64 h],(.rs (1,0) (dk (jP x (2)) (1)))] fun x217 l218=>
 aI (1,0) x217 fun l219=>unc l218 fun x220 l221=>tk2 x220 fun l225 l228 l231 n234=>(unn l221 (grd (bi x.length (some (3)) none) (ac V 254 [.op [.os (5,0) l225,.os (4,0) l228,.os (3,0) l231,.int .i64 n234],.rs (1,0) l219,(.rs (1,0) (dk x (3))),.rs (1,1) e] fun x235 l236=>
 aP x235 fun l237=>unn l237 (unc l236 fun x238 l239=>tk2 x238 fun l243 l246 l249 n252=>(unn l239 (grd (decide (0 <= 2) && decide (2 < ni x.length)) (az x 2 fun x253=>
 asI .i64 x253 fun n254=>ac V 244 [.op [.os (5,0) l243,.os (4,0) l246,.os (3,0) l249,.int .i64 n252],.int .i64 n254,.rs (1,1) e] fun x255 l256=>
 aP x255 fun l257=>unn l257 (unc l256 fun x258 l259=>tk2 x258 fun l263 l266 l269 n272=>(unn l259 (ac V 237 [.op [.os (5,0) l263,.os (4,0) l266,.os (3,0) l269,.int .i64 n272],(.agg [.int .i64 (7),.int .i64 (0),.int .i64 (1),.str ({ data:=#[] })])] fun x273 l274=>
 asI .i64 x273 fun _=>unc l274 fun x276 l277=>tk2 x276 fun l281 l284 l287 n290=>(unn l277 (some ((.tup []),[.op [.os (5,0) l281,.os (4,0) l284,.os (3,0) l287,.int .i64 n290]])))))))))))))))
 (some ((.tup []),[.op [.os (5,0) p,.os (4,0) l,.os (3,0) d,.int .i64 (1)]])))
 (some ((.tup []),[.op [.os (5,0) p,.os (4,0) l,.os (3,0) d,.int .i64 (1)]]))))
 (
 br (ax s { data:=#[108,101,116] })
 (
 br (decide (ni x.length >= 4))
 (
 grd (bi x.length (some (1)) (some (2))) (ac V 231 [.op [.os (5,0) p,.os (4,0) l,.os (3,0) d,.int .i64 h],(.rs (1,0) (dk (jP x (2)) (1)))] fun x291 l292=>
 aI (1,0) x291 fun l293=>unc l292 fun x294 l295=>tk2 x294 fun l299 l302 l305 n308=>(unn l295 (grd (bi x.length (some (3)) none) (ac V 254 [.op [.os (5,0) l299,.os (4,0) l302,.os (3,0) l305,.int .i64 n308],.rs (1,0) l293,(.rs (1,0) (dk x (3))),.rs (1,1) e] fun x309 l310=>
 aP x309 fun l311=>unn l311 (unc l310 fun x312 l313=>tk2 x312 fun l317 l320 l323 n326=>(unn l313 (grd (decide (0 <= 2) && decide (2 < ni x.length)) (az x 2 fun x327=>
 asI .i64 x327 fun n328=>ac V 244 [.op [.os (5,0) l317,.os (4,0) l320,.os (3,0) l323,.int .i64 n326],.int .i64 n328,.rs (1,1) e] fun x329 l330=>
 aP x329 fun l331=>unn l331 (unc l330 fun x332 l333=>tk2 x332 fun l337 l340 l343 n346=>(unn l333 (ac V 237 [.op [.os (5,0) l337,.os (4,0) l340,.os (3,0) l343,.int .i64 n346],(.agg [.int .i64 (7),.int .i64 (0),.int .i64 (1),.str ({ data:=#[] })])] fun x347 l348=>
 asI .i64 x347 fun _=>unc l348 fun x350 l351=>tk2 x350 fun l355 l358 l361 n364=>(unn l351 (some ((.tup []),[.op [.os (5,0) l355,.os (4,0) l358,.os (3,0) l361,.int .i64 n364]])))))))))))))))
 (some ((.tup []),[.op [.os (5,0) p,.os (4,0) l,.os (3,0) d,.int .i64 (1)]])))
 (some ((.tup []),[.op [.os (5,0) p,.os (4,0) l,.os (3,0) d,.int .i64 (1)]])))))
 (
 br (ax s { data:=#[102,110] })
 (
 br (decide (ni x.length >= 3))
 (
 grd (decide (0 <= 1) && decide (1 < ni x.length)) (az x 1 fun x365=>
 asI .i64 x365 fun n366=>ac V 228 [.agg [.rs (5,0) p],.int .i64 n366] fun x367 l368=>
 tk3 x367 fun l372 b375=>(unn l368 (br (!b375)
 (some ((.tup []),[.op [.os (5,0) p,.os (4,0) l,.os (3,0) d,.int .i64 (1)]]))
 (
 ac V 231 [.op [.os (5,0) p,.os (4,0) l,.os (3,0) d,.int .i64 h],.rs (1,0) l372] fun x376 l377=>
 aI (1,0) x376 fun l378=>unc l377 fun x379 l380=>tk2 x379 fun l384 l387 l390 n393=>(unn l380 (grd (bi x.length (some (2)) none) (ac V 254 [.op [.os (5,0) l384,.os (4,0) l387,.os (3,0) l390,.int .i64 n393],.rs (1,0) l378,(.rs (1,0) (dk x (2))),.rs (1,1) e] fun x394 l395=>
 aP x394 fun l396=>unn l396 (unc l395 fun x397 l398=>tk2 x397 fun l402 l405 l408 n411=>(unn l398 (some ((.tup []),[.op [.os (5,0) l402,.os (4,0) l405,.os (3,0) l408,.int .i64 n411]]))))))))))))
 (
 br (ax s { data:=#[108,101,116] })
 (
 br (decide (ni x.length >= 4))
 (
 grd (bi x.length (some (1)) (some (2))) (ac V 231 [.op [.os (5,0) p,.os (4,0) l,.os (3,0) d,.int .i64 h],(.rs (1,0) (dk (jP x (2)) (1)))] fun x412 l413=>
 aI (1,0) x412 fun l414=>unc l413 fun x415 l416=>tk2 x415 fun l420 l423 l426 n429=>(unn l416 (grd (bi x.length (some (3)) none) (ac V 254 [.op [.os (5,0) l420,.os (4,0) l423,.os (3,0) l426,.int .i64 n429],.rs (1,0) l414,(.rs (1,0) (dk x (3))),.rs (1,1) e] fun x430 l431=>
 aP x430 fun l432=>unn l432 (unc l431 fun x433 l434=>tk2 x433 fun l438 l441 l444 n447=>(unn l434 (grd (decide (0 <= 2) && decide (2 < ni x.length)) (az x 2 fun x448=>
 asI .i64 x448 fun n449=>ac V 244 [.op [.os (5,0) l438,.os (4,0) l441,.os (3,0) l444,.int .i64 n447],.int .i64 n449,.rs (1,1) e] fun x450 l451=>
 aP x450 fun l452=>unn l452 (unc l451 fun x453 l454=>tk2 x453 fun l458 l461 l464 n467=>(unn l454 (ac V 237 [.op [.os (5,0) l458,.os (4,0) l461,.os (3,0) l464,.int .i64 n467],(.agg [.int .i64 (7),.int .i64 (0),.int .i64 (1),.str ({ data:=#[] })])] fun x468 l469=>
 asI .i64 x468 fun _=>unc l469 fun x471 l472=>tk2 x471 fun l476 l479 l482 n485=>(unn l472 (some ((.tup []),[.op [.os (5,0) l476,.os (4,0) l479,.os (3,0) l482,.int .i64 n485]])))))))))))))))
 (some ((.tup []),[.op [.os (5,0) p,.os (4,0) l,.os (3,0) d,.int .i64 (1)]])))
 (some ((.tup []),[.op [.os (5,0) p,.os (4,0) l,.os (3,0) d,.int .i64 (1)]]))))
 (
 br (ax s { data:=#[108,101,116] })
 (
 br (decide (ni x.length >= 4))
 (
 grd (bi x.length (some (1)) (some (2))) (ac V 231 [.op [.os (5,0) p,.os (4,0) l,.os (3,0) d,.int .i64 h],(.rs (1,0) (dk (jP x (2)) (1)))] fun x486 l487=>
 aI (1,0) x486 fun l488=>unc l487 fun x489 l490=>tk2 x489 fun l494 l497 l500 n503=>(unn l490 (grd (bi x.length (some (3)) none) (ac V 254 [.op [.os (5,0) l494,.os (4,0) l497,.os (3,0) l500,.int .i64 n503],.rs (1,0) l488,(.rs (1,0) (dk x (3))),.rs (1,1) e] fun x504 l505=>
 aP x504 fun l506=>unn l506 (unc l505 fun x507 l508=>tk2 x507 fun l512 l515 l518 n521=>(unn l508 (grd (decide (0 <= 2) && decide (2 < ni x.length)) (az x 2 fun x522=>
 asI .i64 x522 fun n523=>ac V 244 [.op [.os (5,0) l512,.os (4,0) l515,.os (3,0) l518,.int .i64 n521],.int .i64 n523,.rs (1,1) e] fun x524 l525=>
 aP x524 fun l526=>unn l526 (unc l525 fun x527 l528=>tk2 x527 fun l532 l535 l538 n541=>(unn l528 (ac V 237 [.op [.os (5,0) l532,.os (4,0) l535,.os (3,0) l538,.int .i64 n541],(.agg [.int .i64 (7),.int .i64 (0),.int .i64 (1),.str ({ data:=#[] })])] fun x542 l543=>
 asI .i64 x542 fun _=>unc l543 fun x545 l546=>tk2 x545 fun l550 l553 l556 n559=>(unn l546 (some ((.tup []),[.op [.os (5,0) l550,.os (4,0) l553,.os (3,0) l556,.int .i64 n559]])))))))))))))))
 (some ((.tup []),[.op [.os (5,0) p,.os (4,0) l,.os (3,0) d,.int .i64 (1)]])))
 (some ((.tup []),[.op [.os (5,0) p,.os (4,0) l,.os (3,0) d,.int .i64 (1)]]))))))
 (
 br (ax s { data:=#[100,111] })
 (
 br (decide (ni x.length >= 2))
 (
 grd (bi x.length (some (1)) none) (ac V 236 [.op [.os (5,0) p,.os (4,0) l,.os (3,0) d,.int .i64 h],(.rs (1,0) (dk x (1))),.rs (1,1) e] fun x560 l561=>
 aP x560 fun l562=>unn l562 (unc l561 fun x563 l564=>tk2 x563 fun l568 l571 l574 n577=>(unn l564 (some ((.tup []),[.op [.os (5,0) l568,.os (4,0) l571,.os (3,0) l574,.int .i64 n577]]))))))
 (
 br (ax s { data:=#[102,110] })
 (
 br (decide (ni x.length >= 3))
 (
 grd (decide (0 <= 1) && decide (1 < ni x.length)) (az x 1 fun x578=>
 asI .i64 x578 fun n579=>ac V 228 [.agg [.rs (5,0) p],.int .i64 n579] fun x580 l581=>
 tk3 x580 fun l585 b588=>(unn l581 (br (!b588)
 (some ((.tup []),[.op [.os (5,0) p,.os (4,0) l,.os (3,0) d,.int .i64 (1)]]))
 (
 ac V 231 [.op [.os (5,0) p,.os (4,0) l,.os (3,0) d,.int .i64 h],.rs (1,0) l585] fun x589 l590=>
 aI (1,0) x589 fun l591=>unc l590 fun x592 l593=>tk2 x592 fun l597 l600 l603 n606=>(unn l593 (grd (bi x.length (some (2)) none) (ac V 254 [.op [.os (5,0) l597,.os (4,0) l600,.os (3,0) l603,.int .i64 n606],.rs (1,0) l591,(.rs (1,0) (dk x (2))),.rs (1,1) e] fun x607 l608=>
 aP x607 fun l609=>unn l609 (unc l608 fun x610 l611=>tk2 x610 fun l615 l618 l621 n624=>(unn l611 (some ((.tup []),[.op [.os (5,0) l615,.os (4,0) l618,.os (3,0) l621,.int .i64 n624]]))))))))))))
 (
 br (ax s { data:=#[108,101,116] })
 (
 br (decide (ni x.length >= 4))
 (
 grd (bi x.length (some (1)) (some (2))) (ac V 231 [.op [.os (5,0) p,.os (4,0) l,.os (3,0) d,.int .i64 h],(.rs (1,0) (dk (jP x (2)) (1)))] fun x625 l626=>
 aI (1,0) x625 fun l627=>unc l626 fun x628 l629=>tk2 x628 fun l633 l636 l639 n642=>(unn l629 (grd (bi x.length (some (3)) none) (ac V 254 [.op [.os (5,0) l633,.os (4,0) l636,.os (3,0) l639,.int .i64 n642],.rs (1,0) l627,(.rs (1,0) (dk x (3))),.rs (1,1) e] fun x643 l644=>
 aP x643 fun l645=>unn l645 (unc l644 fun x646 l647=>tk2 x646 fun l651 l654 l657 n660=>(unn l647 (grd (decide (0 <= 2) && decide (2 < ni x.length)) (az x 2 fun x661=>
 asI .i64 x661 fun n662=>ac V 244 [.op [.os (5,0) l651,.os (4,0) l654,.os (3,0) l657,.int .i64 n660],.int .i64 n662,.rs (1,1) e] fun x663 l664=>
 aP x663 fun l665=>unn l665 (unc l664 fun x666 l667=>tk2 x666 fun l671 l674 l677 n680=>(unn l667 (ac V 237 [.op [.os (5,0) l671,.os (4,0) l674,.os (3,0) l677,.int .i64 n680],(.agg [.int .i64 (7),.int .i64 (0),.int .i64 (1),.str ({ data:=#[] })])] fun x681 l682=>
 asI .i64 x681 fun _=>unc l682 fun x684 l685=>tk2 x684 fun l689 l692 l695 n698=>(unn l685 (some ((.tup []),[.op [.os (5,0) l689,.os (4,0) l692,.os (3,0) l695,.int .i64 n698]])))))))))))))))
 (some ((.tup []),[.op [.os (5,0) p,.os (4,0) l,.os (3,0) d,.int .i64 (1)]])))
 (some ((.tup []),[.op [.os (5,0) p,.os (4,0) l,.os (3,0) d,.int .i64 (1)]]))))
 (
 br (ax s { data:=#[108,101,116] })
 (
 br (decide (ni x.length >= 4))
 (
 grd (bi x.length (some (1)) (some (2))) (ac V 231 [.op [.os (5,0) p,.os (4,0) l,.os (3,0) d,.int .i64 h],(.rs (1,0) (dk (jP x (2)) (1)))] fun x699 l700=>
 aI (1,0) x699 fun l701=>unc l700 fun x702 l703=>tk2 x702 fun l707 l710 l713 n716=>(unn l703 (grd (bi x.length (some (3)) none) (ac V 254 [.op [.os (5,0) l707,.os (4,0) l710,.os (3,0) l713,.int .i64 n716],.rs (1,0) l701,(.rs (1,0) (dk x (3))),.rs (1,1) e] fun x717 l718=>
 aP x717 fun l719=>unn l719 (unc l718 fun x720 l721=>tk2 x720 fun l725 l728 l731 n734=>(unn l721 (grd (decide (0 <= 2) && decide (2 < ni x.length)) (az x 2 fun x735=>
 asI .i64 x735 fun n736=>ac V 244 [.op [.os (5,0) l725,.os (4,0) l728,.os (3,0) l731,.int .i64 n734],.int .i64 n736,.rs (1,1) e] fun x737 l738=>
 aP x737 fun l739=>unn l739 (unc l738 fun x740 l741=>tk2 x740 fun l745 l748 l751 n754=>(unn l741 (ac V 237 [.op [.os (5,0) l745,.os (4,0) l748,.os (3,0) l751,.int .i64 n754],(.agg [.int .i64 (7),.int .i64 (0),.int .i64 (1),.str ({ data:=#[] })])] fun x755 l756=>
 asI .i64 x755 fun _=>unc l756 fun x758 l759=>tk2 x758 fun l763 l766 l769 n772=>(unn l759 (some ((.tup []),[.op [.os (5,0) l763,.os (4,0) l766,.os (3,0) l769,.int .i64 n772]])))))))))))))))
 (some ((.tup []),[.op [.os (5,0) p,.os (4,0) l,.os (3,0) d,.int .i64 (1)]])))
 (some ((.tup []),[.op [.os (5,0) p,.os (4,0) l,.os (3,0) d,.int .i64 (1)]])))))
 (
 br (ax s { data:=#[102,110] })
 (
 br (decide (ni x.length >= 3))
 (
 grd (decide (0 <= 1) && decide (1 < ni x.length)) (az x 1 fun x773=>
 asI .i64 x773 fun n774=>ac V 228 [.agg [.rs (5,0) p],.int .i64 n774] fun x775 l776=>
 tk3 x775 fun l780 b783=>(unn l776 (br (!b783)
 (some ((.tup []),[.op [.os (5,0) p,.os (4,0) l,.os (3,0) d,.int .i64 (1)]]))
 (
 ac V 231 [.op [.os (5,0) p,.os (4,0) l,.os (3,0) d,.int .i64 h],.rs (1,0) l780] fun x784 l785=>
 aI (1,0) x784 fun l786=>unc l785 fun x787 l788=>tk2 x787 fun l792 l795 l798 n801=>(unn l788 (grd (bi x.length (some (2)) none) (ac V 254 [.op [.os (5,0) l792,.os (4,0) l795,.os (3,0) l798,.int .i64 n801],.rs (1,0) l786,(.rs (1,0) (dk x (2))),.rs (1,1) e] fun x802 l803=>
 aP x802 fun l804=>unn l804 (unc l803 fun x805 l806=>tk2 x805 fun l810 l813 l816 n819=>(unn l806 (some ((.tup []),[.op [.os (5,0) l810,.os (4,0) l813,.os (3,0) l816,.int .i64 n819]]))))))))))))
 (
 br (ax s { data:=#[108,101,116] })
 (
 br (decide (ni x.length >= 4))
 (
 grd (bi x.length (some (1)) (some (2))) (ac V 231 [.op [.os (5,0) p,.os (4,0) l,.os (3,0) d,.int .i64 h],(.rs (1,0) (dk (jP x (2)) (1)))] fun x820 l821=>
 aI (1,0) x820 fun l822=>unc l821 fun x823 l824=>tk2 x823 fun l828 l831 l834 n837=>(unn l824 (grd (bi x.length (some (3)) none) (ac V 254 [.op [.os (5,0) l828,.os (4,0) l831,.os (3,0) l834,.int .i64 n837],.rs (1,0) l822,(.rs (1,0) (dk x (3))),.rs (1,1) e] fun x838 l839=>
 aP x838 fun l840=>unn l840 (unc l839 fun x841 l842=>tk2 x841 fun l846 l849 l852 n855=>(unn l842 (grd (decide (0 <= 2) && decide (2 < ni x.length)) (az x 2 fun x856=>
 asI .i64 x856 fun n857=>ac V 244 [.op [.os (5,0) l846,.os (4,0) l849,.os (3,0) l852,.int .i64 n855],.int .i64 n857,.rs (1,1) e] fun x858 l859=>
 aP x858 fun l860=>unn l860 (unc l859 fun x861 l862=>tk2 x861 fun l866 l869 l872 n875=>(unn l862 (ac V 237 [.op [.os (5,0) l866,.os (4,0) l869,.os (3,0) l872,.int .i64 n875],(.agg [.int .i64 (7),.int .i64 (0),.int .i64 (1),.str ({ data:=#[] })])] fun x876 l877=>
 asI .i64 x876 fun _=>unc l877 fun x879 l880=>tk2 x879 fun l884 l887 l890 n893=>(unn l880 (some ((.tup []),[.op [.os (5,0) l884,.os (4,0) l887,.os (3,0) l890,.int .i64 n893]])))))))))))))))
 (some ((.tup []),[.op [.os (5,0) p,.os (4,0) l,.os (3,0) d,.int .i64 (1)]])))
 (some ((.tup []),[.op [.os (5,0) p,.os (4,0) l,.os (3,0) d,.int .i64 (1)]]))))
 (
 br (ax s { data:=#[108,101,116] })
 (
 br (decide (ni x.length >= 4))
 (
 grd (bi x.length (some (1)) (some (2))) (ac V 231 [.op [.os (5,0) p,.os (4,0) l,.os (3,0) d,.int .i64 h],(.rs (1,0) (dk (jP x (2)) (1)))] fun x894 l895=>
 aI (1,0) x894 fun l896=>unc l895 fun x897 l898=>tk2 x897 fun l902 l905 l908 n911=>(unn l898 (grd (bi x.length (some (3)) none) (ac V 254 [.op [.os (5,0) l902,.os (4,0) l905,.os (3,0) l908,.int .i64 n911],.rs (1,0) l896,(.rs (1,0) (dk x (3))),.rs (1,1) e] fun x912 l913=>
 aP x912 fun l914=>unn l914 (unc l913 fun x915 l916=>tk2 x915 fun l920 l923 l926 n929=>(unn l916 (grd (decide (0 <= 2) && decide (2 < ni x.length)) (az x 2 fun x930=>
 asI .i64 x930 fun n931=>ac V 244 [.op [.os (5,0) l920,.os (4,0) l923,.os (3,0) l926,.int .i64 n929],.int .i64 n931,.rs (1,1) e] fun x932 l933=>
 aP x932 fun l934=>unn l934 (unc l933 fun x935 l936=>tk2 x935 fun l940 l943 l946 n949=>(unn l936 (ac V 237 [.op [.os (5,0) l940,.os (4,0) l943,.os (3,0) l946,.int .i64 n949],(.agg [.int .i64 (7),.int .i64 (0),.int .i64 (1),.str ({ data:=#[] })])] fun x950 l951=>
 asI .i64 x950 fun _=>unc l951 fun x953 l954=>tk2 x953 fun l958 l961 l964 n967=>(unn l954 (some ((.tup []),[.op [.os (5,0) l958,.os (4,0) l961,.os (3,0) l964,.int .i64 n967]])))))))))))))))
 (some ((.tup []),[.op [.os (5,0) p,.os (4,0) l,.os (3,0) d,.int .i64 (1)]])))
 (some ((.tup []),[.op [.os (5,0) p,.os (4,0) l,.os (3,0) d,.int .i64 (1)]])))))))
 (
 br (ax s { data:=#[105,102] })
 (
 br (ni x.length == 4)
 (
 grd (decide (0 <= 1) && decide (1 < ni x.length)) (az x 1 fun x968=>
 asI .i64 x968 fun n969=>ac V 244 [.op [.os (5,0) p,.os (4,0) l,.os (3,0) d,.int .i64 h],.int .i64 n969,.rs (1,1) e] fun x970 l971=>
 aP x970 fun l972=>unn l972 (unc l971 fun x973 l974=>tk2 x973 fun l978 l981 l984 n987=>(unn l974 (ac V 237 [.op [.os (5,0) l978,.os (4,0) l981,.os (3,0) l984,.int .i64 n987],(.agg [.int .i64 (4),.int .i64 (0),.int .i64 (0),.str ({ data:=#[] })])] fun x988 l989=>
 asI .i64 x988 fun n990=>unc l989 fun x991 l992=>tk2 x991 fun l996 l999 l1002 n1005=>(unn l992 (grd (decide (0 <= 2) && decide (2 < ni x.length)) (az x 2 fun x1006=>
 asI .i64 x1006 fun n1007=>ac V 244 [.op [.os (5,0) l996,.os (4,0) l999,.os (3,0) l1002,.int .i64 n1005],.int .i64 n1007,.rs (1,1) e] fun x1008 l1009=>
 aP x1008 fun l1010=>unn l1010 (unc l1009 fun x1011 l1012=>tk2 x1011 fun l1016 l1019 l1022 n1025=>(unn l1012 (ac V 237 [.op [.os (5,0) l1016,.os (4,0) l1019,.os (3,0) l1022,.int .i64 n1025],(.agg [.int .i64 (5),.int .i64 (0),.int .i64 (0),.str ({ data:=#[] })])] fun x1026 l1027=>
 asI .i64 x1026 fun n1028=>unc l1027 fun x1029 l1030=>tk2 x1029 fun l1034 l1037 l1040 n1043=>(unn l1030 (ac V 253 [.op [.os (5,0) l1034,.os (4,0) l1037,.os (3,0) l1040,.int .i64 n1043],.int .i64 n990] fun x1044 l1045=>
 aP x1044 fun l1046=>unn l1046 (unc l1045 fun x1047 l1048=>tk2 x1047 fun l1052 l1055 l1058 n1061=>(unn l1048 (grd (decide (0 <= 3) && decide (3 < ni x.length)) (az x 3 fun x1062=>
 asI .i64 x1062 fun n1063=>ac V 244 [.op [.os (5,0) l1052,.os (4,0) l1055,.os (3,0) l1058,.int .i64 n1061],.int .i64 n1063,.rs (1,1) e] fun x1064 l1065=>
 aP x1064 fun l1066=>unn l1066 (unc l1065 fun x1067 l1068=>tk2 x1067 fun l1072 l1075 l1078 n1081=>(unn l1068 (ac V 253 [.op [.os (5,0) l1072,.os (4,0) l1075,.os (3,0) l1078,.int .i64 n1081],.int .i64 n1028] fun x1082 l1083=>
 aP x1082 fun l1084=>unn l1084 (unc l1083 fun x1085 l1086=>tk2 x1085 fun l1090 l1093 l1096 n1099=>(unn l1086 (some ((.tup []),[.op [.os (5,0) l1090,.os (4,0) l1093,.os (3,0) l1096,.int .i64 n1099]]))))))))))))))))))))))))
 (
 br (ax s { data:=#[100,111] })
 (
 br (decide (ni x.length >= 2))
 (
 grd (bi x.length (some (1)) none) (ac V 236 [.op [.os (5,0) p,.os (4,0) l,.os (3,0) d,.int .i64 h],(.rs (1,0) (dk x (1))),.rs (1,1) e] fun x1100 l1101=>
 aP x1100 fun l1102=>unn l1102 (unc l1101 fun x1103 l1104=>tk2 x1103 fun l1108 l1111 l1114 n1117=>(unn l1104 (some ((.tup []),[.op [.os (5,0) l1108,.os (4,0) l1111,.os (3,0) l1114,.int .i64 n1117]]))))))
 (
 br (ax s { data:=#[102,110] })
 (
 br (decide (ni x.length >= 3))
 (
 grd (decide (0 <= 1) && decide (1 < ni x.length)) (az x 1 fun x1118=>
 asI .i64 x1118 fun n1119=>ac V 228 [.agg [.rs (5,0) p],.int .i64 n1119] fun x1120 l1121=>
 tk3 x1120 fun l1125 b1128=>(unn l1121 (br (!b1128)
 (some ((.tup []),[.op [.os (5,0) p,.os (4,0) l,.os (3,0) d,.int .i64 (1)]]))
 (
 ac V 231 [.op [.os (5,0) p,.os (4,0) l,.os (3,0) d,.int .i64 h],.rs (1,0) l1125] fun x1129 l1130=>
 aI (1,0) x1129 fun l1131=>unc l1130 fun x1132 l1133=>tk2 x1132 fun l1137 l1140 l1143 n1146=>(unn l1133 (grd (bi x.length (some (2)) none) (ac V 254 [.op [.os (5,0) l1137,.os (4,0) l1140,.os (3,0) l1143,.int .i64 n1146],.rs (1,0) l1131,(.rs (1,0) (dk x (2))),.rs (1,1) e] fun x1147 l1148=>
 aP x1147 fun l1149=>unn l1149 (unc l1148 fun x1150 l1151=>tk2 x1150 fun l1155 l1158 l1161 n1164=>(unn l1151 (some ((.tup []),[.op [.os (5,0) l1155,.os (4,0) l1158,.os (3,0) l1161,.int .i64 n1164]]))))))))))))
 (
 br (ax s { data:=#[108,101,116] })
 (
 br (decide (ni x.length >= 4))
 (
 grd (bi x.length (some (1)) (some (2))) (ac V 231 [.op [.os (5,0) p,.os (4,0) l,.os (3,0) d,.int .i64 h],(.rs (1,0) (dk (jP x (2)) (1)))] fun x1165 l1166=>
 aI (1,0) x1165 fun l1167=>unc l1166 fun x1168 l1169=>tk2 x1168 fun l1173 l1176 l1179 n1182=>(unn l1169 (grd (bi x.length (some (3)) none) (ac V 254 [.op [.os (5,0) l1173,.os (4,0) l1176,.os (3,0) l1179,.int .i64 n1182],.rs (1,0) l1167,(.rs (1,0) (dk x (3))),.rs (1,1) e] fun x1183 l1184=>
 aP x1183 fun l1185=>unn l1185 (unc l1184 fun x1186 l1187=>tk2 x1186 fun l1191 l1194 l1197 n1200=>(unn l1187 (grd (decide (0 <= 2) && decide (2 < ni x.length)) (az x 2 fun x1201=>
 asI .i64 x1201 fun n1202=>ac V 244 [.op [.os (5,0) l1191,.os (4,0) l1194,.os (3,0) l1197,.int .i64 n1200],.int .i64 n1202,.rs (1,1) e] fun x1203 l1204=>
 aP x1203 fun l1205=>unn l1205 (unc l1204 fun x1206 l1207=>tk2 x1206 fun l1211 l1214 l1217 n1220=>(unn l1207 (ac V 237 [.op [.os (5,0) l1211,.os (4,0) l1214,.os (3,0) l1217,.int .i64 n1220],(.agg [.int .i64 (7),.int .i64 (0),.int .i64 (1),.str ({ data:=#[] })])] fun x1221 l1222=>
 asI .i64 x1221 fun _=>unc l1222 fun x1224 l1225=>tk2 x1224 fun l1229 l1232 l1235 n1238=>(unn l1225 (some ((.tup []),[.op [.os (5,0) l1229,.os (4,0) l1232,.os (3,0) l1235,.int .i64 n1238]])))))))))))))))
 (some ((.tup []),[.op [.os (5,0) p,.os (4,0) l,.os (3,0) d,.int .i64 (1)]])))
 (some ((.tup []),[.op [.os (5,0) p,.os (4,0) l,.os (3,0) d,.int .i64 (1)]]))))
 (
 br (ax s { data:=#[108,101,116] })
 (
 br (decide (ni x.length >= 4))
 (
 grd (bi x.length (some (1)) (some (2))) (ac V 231 [.op [.os (5,0) p,.os (4,0) l,.os (3,0) d,.int .i64 h],(.rs (1,0) (dk (jP x (2)) (1)))] fun x1239 l1240=>
 aI (1,0) x1239 fun l1241=>unc l1240 fun x1242 l1243=>tk2 x1242 fun l1247 l1250 l1253 n1256=>(unn l1243 (grd (bi x.length (some (3)) none) (ac V 254 [.op [.os (5,0) l1247,.os (4,0) l1250,.os (3,0) l1253,.int .i64 n1256],.rs (1,0) l1241,(.rs (1,0) (dk x (3))),.rs (1,1) e] fun x1257 l1258=>
 aP x1257 fun l1259=>unn l1259 (unc l1258 fun x1260 l1261=>tk2 x1260 fun l1265 l1268 l1271 n1274=>(unn l1261 (grd (decide (0 <= 2) && decide (2 < ni x.length)) (az x 2 fun x1275=>
 asI .i64 x1275 fun n1276=>ac V 244 [.op [.os (5,0) l1265,.os (4,0) l1268,.os (3,0) l1271,.int .i64 n1274],.int .i64 n1276,.rs (1,1) e] fun x1277 l1278=>
 aP x1277 fun l1279=>unn l1279 (unc l1278 fun x1280 l1281=>tk2 x1280 fun l1285 l1288 l1291 n1294=>(unn l1281 (ac V 237 [.op [.os (5,0) l1285,.os (4,0) l1288,.os (3,0) l1291,.int .i64 n1294],(.agg [.int .i64 (7),.int .i64 (0),.int .i64 (1),.str ({ data:=#[] })])] fun x1295 l1296=>
 asI .i64 x1295 fun _=>unc l1296 fun x1298 l1299=>tk2 x1298 fun l1303 l1306 l1309 n1312=>(unn l1299 (some ((.tup []),[.op [.os (5,0) l1303,.os (4,0) l1306,.os (3,0) l1309,.int .i64 n1312]])))))))))))))))
 (some ((.tup []),[.op [.os (5,0) p,.os (4,0) l,.os (3,0) d,.int .i64 (1)]])))
 (some ((.tup []),[.op [.os (5,0) p,.os (4,0) l,.os (3,0) d,.int .i64 (1)]])))))
 (
 br (ax s { data:=#[102,110] })
 (
 br (decide (ni x.length >= 3))
 (
 grd (decide (0 <= 1) && decide (1 < ni x.length)) (az x 1 fun x1313=>
 asI .i64 x1313 fun n1314=>ac V 228 [.agg [.rs (5,0) p],.int .i64 n1314] fun x1315 l1316=>
 tk3 x1315 fun l1320 b1323=>(unn l1316 (br (!b1323)
 (some ((.tup []),[.op [.os (5,0) p,.os (4,0) l,.os (3,0) d,.int .i64 (1)]]))
 (
 ac V 231 [.op [.os (5,0) p,.os (4,0) l,.os (3,0) d,.int .i64 h],.rs (1,0) l1320] fun x1324 l1325=>
 aI (1,0) x1324 fun l1326=>unc l1325 fun x1327 l1328=>tk2 x1327 fun l1332 l1335 l1338 n1341=>(unn l1328 (grd (bi x.length (some (2)) none) (ac V 254 [.op [.os (5,0) l1332,.os (4,0) l1335,.os (3,0) l1338,.int .i64 n1341],.rs (1,0) l1326,(.rs (1,0) (dk x (2))),.rs (1,1) e] fun x1342 l1343=>
 aP x1342 fun l1344=>unn l1344 (unc l1343 fun x1345 l1346=>tk2 x1345 fun l1350 l1353 l1356 n1359=>(unn l1346 (some ((.tup []),[.op [.os (5,0) l1350,.os (4,0) l1353,.os (3,0) l1356,.int .i64 n1359]]))))))))))))
 (
 br (ax s { data:=#[108,101,116] })
 (
 br (decide (ni x.length >= 4))
 (
 grd (bi x.length (some (1)) (some (2))) (ac V 231 [.op [.os (5,0) p,.os (4,0) l,.os (3,0) d,.int .i64 h],(.rs (1,0) (dk (jP x (2)) (1)))] fun x1360 l1361=>
 aI (1,0) x1360 fun l1362=>unc l1361 fun x1363 l1364=>tk2 x1363 fun l1368 l1371 l1374 n1377=>(unn l1364 (grd (bi x.length (some (3)) none) (ac V 254 [.op [.os (5,0) l1368,.os (4,0) l1371,.os (3,0) l1374,.int .i64 n1377],.rs (1,0) l1362,(.rs (1,0) (dk x (3))),.rs (1,1) e] fun x1378 l1379=>
 aP x1378 fun l1380=>unn l1380 (unc l1379 fun x1381 l1382=>tk2 x1381 fun l1386 l1389 l1392 n1395=>(unn l1382 (grd (decide (0 <= 2) && decide (2 < ni x.length)) (az x 2 fun x1396=>
 asI .i64 x1396 fun n1397=>ac V 244 [.op [.os (5,0) l1386,.os (4,0) l1389,.os (3,0) l1392,.int .i64 n1395],.int .i64 n1397,.rs (1,1) e] fun x1398 l1399=>
 aP x1398 fun l1400=>unn l1400 (unc l1399 fun x1401 l1402=>tk2 x1401 fun l1406 l1409 l1412 n1415=>(unn l1402 (ac V 237 [.op [.os (5,0) l1406,.os (4,0) l1409,.os (3,0) l1412,.int .i64 n1415],(.agg [.int .i64 (7),.int .i64 (0),.int .i64 (1),.str ({ data:=#[] })])] fun x1416 l1417=>
 asI .i64 x1416 fun _=>unc l1417 fun x1419 l1420=>tk2 x1419 fun l1424 l1427 l1430 n1433=>(unn l1420 (some ((.tup []),[.op [.os (5,0) l1424,.os (4,0) l1427,.os (3,0) l1430,.int .i64 n1433]])))))))))))))))
 (some ((.tup []),[.op [.os (5,0) p,.os (4,0) l,.os (3,0) d,.int .i64 (1)]])))
 (some ((.tup []),[.op [.os (5,0) p,.os (4,0) l,.os (3,0) d,.int .i64 (1)]]))))
 (
 br (ax s { data:=#[108,101,116] })
 (
 br (decide (ni x.length >= 4))
 (
 grd (bi x.length (some (1)) (some (2))) (ac V 231 [.op [.os (5,0) p,.os (4,0) l,.os (3,0) d,.int .i64 h],(.rs (1,0) (dk (jP x (2)) (1)))] fun x1434 l1435=>
 aI (1,0) x1434 fun l1436=>unc l1435 fun x1437 l1438=>tk2 x1437 fun l1442 l1445 l1448 n1451=>(unn l1438 (grd (bi x.length (some (3)) none) (ac V 254 [.op [.os (5,0) l1442,.os (4,0) l1445,.os (3,0) l1448,.int .i64 n1451],.rs (1,0) l1436,(.rs (1,0) (dk x (3))),.rs (1,1) e] fun x1452 l1453=>
 aP x1452 fun l1454=>unn l1454 (unc l1453 fun x1455 l1456=>tk2 x1455 fun l1460 l1463 l1466 n1469=>(unn l1456 (grd (decide (0 <= 2) && decide (2 < ni x.length)) (az x 2 fun x1470=>
 asI .i64 x1470 fun n1471=>ac V 244 [.op [.os (5,0) l1460,.os (4,0) l1463,.os (3,0) l1466,.int .i64 n1469],.int .i64 n1471,.rs (1,1) e] fun x1472 l1473=>
 aP x1472 fun l1474=>unn l1474 (unc l1473 fun x1475 l1476=>tk2 x1475 fun l1480 l1483 l1486 n1489=>(unn l1476 (ac V 237 [.op [.os (5,0) l1480,.os (4,0) l1483,.os (3,0) l1486,.int .i64 n1489],(.agg [.int .i64 (7),.int .i64 (0),.int .i64 (1),.str ({ data:=#[] })])] fun x1490 l1491=>
 asI .i64 x1490 fun _=>unc l1491 fun x1493 l1494=>tk2 x1493 fun l1498 l1501 l1504 n1507=>(unn l1494 (some ((.tup []),[.op [.os (5,0) l1498,.os (4,0) l1501,.os (3,0) l1504,.int .i64 n1507]])))))))))))))))
 (some ((.tup []),[.op [.os (5,0) p,.os (4,0) l,.os (3,0) d,.int .i64 (1)]])))
 (some ((.tup []),[.op [.os (5,0) p,.os (4,0) l,.os (3,0) d,.int .i64 (1)]]))))))
 (
 br (ax s { data:=#[100,111] })
 (
 br (decide (ni x.length >= 2))
 (
 grd (bi x.length (some (1)) none) (ac V 236 [.op [.os (5,0) p,.os (4,0) l,.os (3,0) d,.int .i64 h],(.rs (1,0) (dk x (1))),.rs (1,1) e] fun x1508 l1509=>
 aP x1508 fun l1510=>unn l1510 (unc l1509 fun x1511 l1512=>tk2 x1511 fun l1516 l1519 l1522 n1525=>(unn l1512 (some ((.tup []),[.op [.os (5,0) l1516,.os (4,0) l1519,.os (3,0) l1522,.int .i64 n1525]]))))))
 (
 br (ax s { data:=#[102,110] })
 (
 br (decide (ni x.length >= 3))
 (
 grd (decide (0 <= 1) && decide (1 < ni x.length)) (az x 1 fun x1526=>
 asI .i64 x1526 fun n1527=>ac V 228 [.agg [.rs (5,0) p],.int .i64 n1527] fun x1528 l1529=>
 tk3 x1528 fun l1533 b1536=>(unn l1529 (br (!b1536)
 (some ((.tup []),[.op [.os (5,0) p,.os (4,0) l,.os (3,0) d,.int .i64 (1)]]))
 (
 ac V 231 [.op [.os (5,0) p,.os (4,0) l,.os (3,0) d,.int .i64 h],.rs (1,0) l1533] fun x1537 l1538=>
 aI (1,0) x1537 fun l1539=>unc l1538 fun x1540 l1541=>tk2 x1540 fun l1545 l1548 l1551 n1554=>(unn l1541 (grd (bi x.length (some (2)) none) (ac V 254 [.op [.os (5,0) l1545,.os (4,0) l1548,.os (3,0) l1551,.int .i64 n1554],.rs (1,0) l1539,(.rs (1,0) (dk x (2))),.rs (1,1) e] fun x1555 l1556=>
 aP x1555 fun l1557=>unn l1557 (unc l1556 fun x1558 l1559=>tk2 x1558 fun l1563 l1566 l1569 n1572=>(unn l1559 (some ((.tup []),[.op [.os (5,0) l1563,.os (4,0) l1566,.os (3,0) l1569,.int .i64 n1572]]))))))))))))
 (
 br (ax s { data:=#[108,101,116] })
 (
 br (decide (ni x.length >= 4))
 (
 grd (bi x.length (some (1)) (some (2))) (ac V 231 [.op [.os (5,0) p,.os (4,0) l,.os (3,0) d,.int .i64 h],(.rs (1,0) (dk (jP x (2)) (1)))] fun x1573 l1574=>
 aI (1,0) x1573 fun l1575=>unc l1574 fun x1576 l1577=>tk2 x1576 fun l1581 l1584 l1587 n1590=>(unn l1577 (grd (bi x.length (some (3)) none) (ac V 254 [.op [.os (5,0) l1581,.os (4,0) l1584,.os (3,0) l1587,.int .i64 n1590],.rs (1,0) l1575,(.rs (1,0) (dk x (3))),.rs (1,1) e] fun x1591 l1592=>
 aP x1591 fun l1593=>unn l1593 (unc l1592 fun x1594 l1595=>tk2 x1594 fun l1599 l1602 l1605 n1608=>(unn l1595 (grd (decide (0 <= 2) && decide (2 < ni x.length)) (az x 2 fun x1609=>
 asI .i64 x1609 fun n1610=>ac V 244 [.op [.os (5,0) l1599,.os (4,0) l1602,.os (3,0) l1605,.int .i64 n1608],.int .i64 n1610,.rs (1,1) e] fun x1611 l1612=>
 aP x1611 fun l1613=>unn l1613 (unc l1612 fun x1614 l1615=>tk2 x1614 fun l1619 l1622 l1625 n1628=>(unn l1615 (ac V 237 [.op [.os (5,0) l1619,.os (4,0) l1622,.os (3,0) l1625,.int .i64 n1628],(.agg [.int .i64 (7),.int .i64 (0),.int .i64 (1),.str ({ data:=#[] })])] fun x1629 l1630=>
 asI .i64 x1629 fun _=>unc l1630 fun x1632 l1633=>tk2 x1632 fun l1637 l1640 l1643 n1646=>(unn l1633 (some ((.tup []),[.op [.os (5,0) l1637,.os (4,0) l1640,.os (3,0) l1643,.int .i64 n1646]])))))))))))))))
 (some ((.tup []),[.op [.os (5,0) p,.os (4,0) l,.os (3,0) d,.int .i64 (1)]])))
 (some ((.tup []),[.op [.os (5,0) p,.os (4,0) l,.os (3,0) d,.int .i64 (1)]]))))
 (
 br (ax s { data:=#[108,101,116] })
 (
 br (decide (ni x.length >= 4))
 (
 grd (bi x.length (some (1)) (some (2))) (ac V 231 [.op [.os (5,0) p,.os (4,0) l,.os (3,0) d,.int .i64 h],(.rs (1,0) (dk (jP x (2)) (1)))] fun x1647 l1648=>
 aI (1,0) x1647 fun l1649=>unc l1648 fun x1650 l1651=>tk2 x1650 fun l1655 l1658 l1661 n1664=>(unn l1651 (grd (bi x.length (some (3)) none) (ac V 254 [.op [.os (5,0) l1655,.os (4,0) l1658,.os (3,0) l1661,.int .i64 n1664],.rs (1,0) l1649,(.rs (1,0) (dk x (3))),.rs (1,1) e] fun x1665 l1666=>
 aP x1665 fun l1667=>unn l1667 (unc l1666 fun x1668 l1669=>tk2 x1668 fun l1673 l1676 l1679 n1682=>(unn l1669 (grd (decide (0 <= 2) && decide (2 < ni x.length)) (az x 2 fun x1683=>
 asI .i64 x1683 fun n1684=>ac V 244 [.op [.os (5,0) l1673,.os (4,0) l1676,.os (3,0) l1679,.int .i64 n1682],.int .i64 n1684,.rs (1,1) e] fun x1685 l1686=>
 aP x1685 fun l1687=>unn l1687 (unc l1686 fun x1688 l1689=>tk2 x1688 fun l1693 l1696 l1699 n1702=>(unn l1689 (ac V 237 [.op [.os (5,0) l1693,.os (4,0) l1696,.os (3,0) l1699,.int .i64 n1702],(.agg [.int .i64 (7),.int .i64 (0),.int .i64 (1),.str ({ data:=#[] })])] fun x1703 l1704=>
 asI .i64 x1703 fun _=>unc l1704 fun x1706 l1707=>tk2 x1706 fun l1711 l1714 l1717 n1720=>(unn l1707 (some ((.tup []),[.op [.os (5,0) l1711,.os (4,0) l1714,.os (3,0) l1717,.int .i64 n1720]])))))))))))))))
 (some ((.tup []),[.op [.os (5,0) p,.os (4,0) l,.os (3,0) d,.int .i64 (1)]])))
 (some ((.tup []),[.op [.os (5,0) p,.os (4,0) l,.os (3,0) d,.int .i64 (1)]])))))
 (
 br (ax s { data:=#[102,110] })
 (
 br (decide (ni x.length >= 3))
 (
 grd (decide (0 <= 1) && decide (1 < ni x.length)) (az x 1 fun x1721=>
 asI .i64 x1721 fun n1722=>ac V 228 [.agg [.rs (5,0) p],.int .i64 n1722] fun x1723 l1724=>
 tk3 x1723 fun l1728 b1731=>(unn l1724 (br (!b1731)
 (some ((.tup []),[.op [.os (5,0) p,.os (4,0) l,.os (3,0) d,.int .i64 (1)]]))
 (
 ac V 231 [.op [.os (5,0) p,.os (4,0) l,.os (3,0) d,.int .i64 h],.rs (1,0) l1728] fun x1732 l1733=>
 aI (1,0) x1732 fun l1734=>unc l1733 fun x1735 l1736=>tk2 x1735 fun l1740 l1743 l1746 n1749=>(unn l1736 (grd (bi x.length (some (2)) none) (ac V 254 [.op [.os (5,0) l1740,.os (4,0) l1743,.os (3,0) l1746,.int .i64 n1749],.rs (1,0) l1734,(.rs (1,0) (dk x (2))),.rs (1,1) e] fun x1750 l1751=>
 aP x1750 fun l1752=>unn l1752 (unc l1751 fun x1753 l1754=>tk2 x1753 fun l1758 l1761 l1764 n1767=>(unn l1754 (some ((.tup []),[.op [.os (5,0) l1758,.os (4,0) l1761,.os (3,0) l1764,.int .i64 n1767]]))))))))))))
 (
 br (ax s { data:=#[108,101,116] })
 (
 br (decide (ni x.length >= 4))
 (
 grd (bi x.length (some (1)) (some (2))) (ac V 231 [.op [.os (5,0) p,.os (4,0) l,.os (3,0) d,.int .i64 h],(.rs (1,0) (dk (jP x (2)) (1)))] fun x1768 l1769=>
 aI (1,0) x1768 fun l1770=>unc l1769 fun x1771 l1772=>tk2 x1771 fun l1776 l1779 l1782 n1785=>(unn l1772 (grd (bi x.length (some (3)) none) (ac V 254 [.op [.os (5,0) l1776,.os (4,0) l1779,.os (3,0) l1782,.int .i64 n1785],.rs (1,0) l1770,(.rs (1,0) (dk x (3))),.rs (1,1) e] fun x1786 l1787=>
 aP x1786 fun l1788=>unn l1788 (unc l1787 fun x1789 l1790=>tk2 x1789 fun l1794 l1797 l1800 n1803=>(unn l1790 (grd (decide (0 <= 2) && decide (2 < ni x.length)) (az x 2 fun x1804=>
 asI .i64 x1804 fun n1805=>ac V 244 [.op [.os (5,0) l1794,.os (4,0) l1797,.os (3,0) l1800,.int .i64 n1803],.int .i64 n1805,.rs (1,1) e] fun x1806 l1807=>
 aP x1806 fun l1808=>unn l1808 (unc l1807 fun x1809 l1810=>tk2 x1809 fun l1814 l1817 l1820 n1823=>(unn l1810 (ac V 237 [.op [.os (5,0) l1814,.os (4,0) l1817,.os (3,0) l1820,.int .i64 n1823],(.agg [.int .i64 (7),.int .i64 (0),.int .i64 (1),.str ({ data:=#[] })])] fun x1824 l1825=>
 asI .i64 x1824 fun _=>unc l1825 fun x1827 l1828=>tk2 x1827 fun l1832 l1835 l1838 n1841=>(unn l1828 (some ((.tup []),[.op [.os (5,0) l1832,.os (4,0) l1835,.os (3,0) l1838,.int .i64 n1841]])))))))))))))))
 (some ((.tup []),[.op [.os (5,0) p,.os (4,0) l,.os (3,0) d,.int .i64 (1)]])))
 (some ((.tup []),[.op [.os (5,0) p,.os (4,0) l,.os (3,0) d,.int .i64 (1)]]))))
 (
 br (ax s { data:=#[108,101,116] })
 (
 br (decide (ni x.length >= 4))
 (
 grd (bi x.length (some (1)) (some (2))) (ac V 231 [.op [.os (5,0) p,.os (4,0) l,.os (3,0) d,.int .i64 h],(.rs (1,0) (dk (jP x (2)) (1)))] fun x1842 l1843=>
 aI (1,0) x1842 fun l1844=>unc l1843 fun x1845 l1846=>tk2 x1845 fun l1850 l1853 l1856 n1859=>(unn l1846 (grd (bi x.length (some (3)) none) (ac V 254 [.op [.os (5,0) l1850,.os (4,0) l1853,.os (3,0) l1856,.int .i64 n1859],.rs (1,0) l1844,(.rs (1,0) (dk x (3))),.rs (1,1) e] fun x1860 l1861=>
 aP x1860 fun l1862=>unn l1862 (unc l1861 fun x1863 l1864=>tk2 x1863 fun l1868 l1871 l1874 n1877=>(unn l1864 (grd (decide (0 <= 2) && decide (2 < ni x.length)) (az x 2 fun x1878=>
 asI .i64 x1878 fun n1879=>ac V 244 [.op [.os (5,0) l1868,.os (4,0) l1871,.os (3,0) l1874,.int .i64 n1877],.int .i64 n1879,.rs (1,1) e] fun x1880 l1881=>
 aP x1880 fun l1882=>unn l1882 (unc l1881 fun x1883 l1884=>tk2 x1883 fun l1888 l1891 l1894 n1897=>(unn l1884 (ac V 237 [.op [.os (5,0) l1888,.os (4,0) l1891,.os (3,0) l1894,.int .i64 n1897],(.agg [.int .i64 (7),.int .i64 (0),.int .i64 (1),.str ({ data:=#[] })])] fun x1898 l1899=>
 asI .i64 x1898 fun _=>unc l1899 fun x1901 l1902=>tk2 x1901 fun l1906 l1909 l1912 n1915=>(unn l1902 (some ((.tup []),[.op [.os (5,0) l1906,.os (4,0) l1909,.os (3,0) l1912,.int .i64 n1915]])))))))))))))))
 (some ((.tup []),[.op [.os (5,0) p,.os (4,0) l,.os (3,0) d,.int .i64 (1)]])))
 (some ((.tup []),[.op [.os (5,0) p,.os (4,0) l,.os (3,0) d,.int .i64 (1)]])))))):=by
 exact (aX Tryz.func249 rfl _).trans (by kernel_rfl)
theorem me (p0 p1:Int) (p2:List D) (p3 p4 p5 p6 p7 p8 p9:Int) (p10 p11:List D):iB p0 p1 p2 p3 p4 p5 p6 p7 p8 p9 p10 p11 =
 br (decide (p0 < ni p10.length))
 (
 grd (decide (0 <= p0) && decide (p0 < ni p10.length)) (az p10 p0.toNat fun x6=>
 asS x6 fun s7=>ac V 144 [.str s7] fun x8 l9=>
 aP x8 fun l10=>unc l10 fun x11 l12=>asAgg x11 fun l13=>unc l13 fun x14 l15=>aI (5,0) x14 fun _=>unn l15 (unc l12 fun x17 l18=>asI .i64 x17 fun _=>unc l18 fun x20 l21=>asB x20 fun b22=>unn l21 (unn l9 (br (!b22)
 (some ((.bool false),[]))
 (iB (IntKind.wrap IntKind.i64 (p0 + 1)) p1 p2 p3 p4 p5 p6 p7 p8 p9 p10 p11))))))
 (gN (0) p1 p2 p3 p4 p5 p6 p7 p8 p9 p10 p11):=by
 exact (cd _ _ _).trans (by kernel_rfl)
theorem mT (p0:List D) (p1 p2:Int) (p3 p4:List D):gG p0 p1 p2 p3 p4 =
 br (decide (p2 < p1))
 (
 grd (decide (0 <= p2) && decide (p2 < ni p0.length)) (az p0 p2.toNat fun x0=>
 asI .i64 x0 fun n1=>grd (decide (0 <= n1) && decide (n1 < ni p4.length)) (az p4 n1.toNat fun _=>
 nam (List.set p4 n1.toNat (D.bool true)) fun l3=>
 gG p0 p1 (IntKind.wrap IntKind.i64 (p2 + 1)) p3 l3)))
 (dE (IntKind.wrap IntKind.i64 (ni p3.length - 1)) p3 p4):=by
 exact (cd _ _ _).trans (by kernel_rfl)
theorem mr (p0:ByteArray) (p1:Int):gf p0 p1 =
 br (decide (p1 < ni (ByteArray.size p0)))
 (
 grd (decide (0 <= p1) && decide (p1 < ni (ByteArray.size p0))) (ac V 180 [.int .u8 (bt p0 p1)] fun x0 l1=>
 asB x0 fun b2=>unn l1 (br (!b2)
 (some ((.bool false),[]))
 (gf p0 (IntKind.wrap IntKind.i64 (p1 + 1))))))
 (
 ac V 62 [(.int .i64 (ni (ByteArray.size p0))),.int .i64 (1),.int .i64 (12)] fun x3 l4=>
 asB x3 fun b5=>unn l4 (some ((.bool b5),[]))):=by
 exact (cd _ _ _).trans (by kernel_rfl)
theorem nG (p0:ByteArray) (p1:Int) (p2 p3 p4:List D):jo p0 p1 p2 p3 p4 =
 br (decide (p1 < ni p4.length))
 (
 grd (decide (0 <= p1) && decide (p1 < ni p4.length)) (az p4 p1.toNat fun x0=>
 asAgg x0 fun l1=>az l1 0 fun x2=>
 asS x2 fun s3=>br (ax s3 p0)
 (some ((.int .i64 p1),[]))
 (jo p0 (IntKind.wrap IntKind.i64 (p1 + 1)) p2 p3 p4)))
 (some ((.int .i64 (-1)),[])):=by
 exact (cd _ _ _).trans (by kernel_rfl)
theorem rY (b:List D) (i:Int) (k:Bool) :V 72 [.op [.os (1,0) b,.int .i64 i,.bool k]] =
 ac V 71 [.op [.os (1,0) b,.int .i64 i,.bool k]] fun x0 l1=>
 asI .i64 x0 fun n2=>unc l1 fun x3 l4=>cr x3 fun l8 n11 b14=>(unn l4 (gb n2 (0) n11 b14 l8)):=by
 exact (aX Tryz.func72 rfl _).trans (by kernel_rfl)
theorem xi (p l d:List D) (h:Int) (s:ByteArray) (n x:List D):V 229 [.op [.os (5,0) p,.os (4,0) l,.os (3,0) d,.int .i64 h],.str s,.rs (1,0) n,.rs (1,0) x] =
 fk s n x (0) h p l d:=by
 exact (aX Tryz.func229 rfl _).trans (by kernel_rfl)
theorem JF (a0_ a1_ a2_:Int):V 62 [.int .i64 a0_,.int .i64 a1_,.int .i64 a2_] =
 br (decide (a0_ >= a1_))
 (some ((.bool (decide (a0_ <= a2_))),[]))
 (some ((.bool false),[])):=by
 exact (aX Tryz.func62 rfl _).trans (by kernel_rfl)
theorem su (a0_0:List D):V 147 [.agg [.rs (5,0) a0_0]] =
 grd (decide (ni (List.length ([]++a0_0)) <= LIM)) (nam ([]++a0_0) fun l0=>
 some ((.agg [.os (5,0) l0]),[])):=by
 exact (aX Tryz.func147 rfl _).trans (by kernel_rfl)
theorem nk (a0_:List D) (a1_:Int):V 221 [.rs (1,0) a0_,.int .u8 a1_] =
 dr a0_ a1_ (ni a0_.length) (0):=by
 exact (aX Tryz.func221 rfl _).trans (by kernel_rfl)
theorem Bx (a0_:Int):V 69 [.int .i64 a0_] =
 br (decide (a0_ < 0))
 (some ((.os (1,0) []),[]))
 (iJ a0_ []):=by
 exact (aX Tryz.func69 rfl _).trans (by kernel_rfl)
end Go.Eng
/-! the functions as the interpreter has them -/
namespace Go.Eng
open Go.Proofs Go.Proofs.Tryz
set_option maxRecDepth 100000
theorem j1 (p0 p1 p2:Int) (p3:Bool) (p4 p5:List D):ar p0 p1 p2 p3 p4 p5 =
 br (decide (p1 < p0))
 (
 br p3
 (
 ac V 114 [.op [.os (1,0) p4,.int .i64 p2,.bool p3]] fun x387 l388=>
 asI .i64 x387 fun n389=>unc l388 fun x390 l391=>cr x390 fun l395 n398 b401=>(unn l391 (br (n389 == 2)
 (
 br (n389 == 2)
 (
 ac V 114 [.op [.os (1,0) l395,.int .i64 n398,.bool b401]] fun x402 l403=>
 asI .i64 x402 fun n404=>unc l403 fun x405 l406=>cr x405 fun l410 n413 b416=>(unn l406 (grd (decide (ni (List.length (p5++[D.agg [D.int IntKind.i64 n389,D.int IntKind.i64 n404,D.str { data:=#[] },D.int IntKind.i64 (0),D.int IntKind.i64 (0)]])) <= LIM)) (nam (p5++[D.agg [D.int IntKind.i64 n389,D.int IntKind.i64 n404,D.str { data:=#[] },D.int IntKind.i64 (0),D.int IntKind.i64 (0)]]) fun l417=>
 ar p0 (IntKind.wrap IntKind.i64 (p1 + 1)) n413 b416 l410 l417))))
 (
 br (n389 == 3)
 (
 ac V 114 [.op [.os (1,0) l395,.int .i64 n398,.bool b401]] fun x418 l419=>
 asI .i64 x418 fun n420=>unc l419 fun x421 l422=>cr x421 fun l426 n429 b432=>(unn l422 (grd (decide (ni (List.length (p5++[D.agg [D.int IntKind.i64 n389,D.int IntKind.i64 (IntKind.wrap IntKind.i64 (n420 - 1000000000)),D.str { data:=#[] },D.int IntKind.i64 (0),D.int IntKind.i64 (0)]])) <= LIM)) (nam (p5++[D.agg [D.int IntKind.i64 n389,D.int IntKind.i64 (IntKind.wrap IntKind.i64 (n420 - 1000000000)),D.str { data:=#[] },D.int IntKind.i64 (0),D.int IntKind.i64 (0)]]) fun l433=>
 ar p0 (IntKind.wrap IntKind.i64 (p1 + 1)) n429 b432 l426 l433))))
 (
 br (n389 == 4)
 (
 ac V 174 [.rs (1,0) l395,.int .i64 n398] fun x434 l435=>
 CH x434 fun s439 n442 b445=>(unn l435 (br b401
 (
 grd (decide (ni (List.length (p5++[D.agg [D.int IntKind.i64 n389,D.int IntKind.i64 (0),D.str s439,D.int IntKind.i64 (0),D.int IntKind.i64 (0)]])) <= LIM)) (nam (p5++[D.agg [D.int IntKind.i64 n389,D.int IntKind.i64 (0),D.str s439,D.int IntKind.i64 (0),D.int IntKind.i64 (0)]]) fun l446=>
 ar p0 (IntKind.wrap IntKind.i64 (p1 + 1)) n442 b445 l395 l446))
 (
 grd (decide (ni (List.length (p5++[D.agg [D.int IntKind.i64 n389,D.int IntKind.i64 (0),D.str s439,D.int IntKind.i64 (0),D.int IntKind.i64 (0)]])) <= LIM)) (nam (p5++[D.agg [D.int IntKind.i64 n389,D.int IntKind.i64 (0),D.str s439,D.int IntKind.i64 (0),D.int IntKind.i64 (0)]]) fun l447=>
 ar p0 (IntKind.wrap IntKind.i64 (p1 + 1)) n442 false l395 l447)))))
 (
 br (n389 == 5)
 (
 ac V 114 [.op [.os (1,0) l395,.int .i64 n398,.bool b401]] fun x448 l449=>
 asI .i64 x448 fun n450=>unc l449 fun x451 l452=>cr x451 fun l456 n459 b462=>(unn l452 (ac V 114 [.op [.os (1,0) l456,.int .i64 n459,.bool b462]] fun x463 l464=>
 asI .i64 x463 fun n465=>unc l464 fun x466 l467=>cr x466 fun l471 n474 b477=>(unn l467 (grd (decide (ni (List.length (p5++[D.agg [D.int IntKind.i64 n389,D.int IntKind.i64 (0),D.str { data:=#[] },D.int IntKind.i64 n450,D.int IntKind.i64 n465]])) <= LIM)) (nam (p5++[D.agg [D.int IntKind.i64 n389,D.int IntKind.i64 (0),D.str { data:=#[] },D.int IntKind.i64 n450,D.int IntKind.i64 n465]]) fun l478=>
 ar p0 (IntKind.wrap IntKind.i64 (p1 + 1)) n474 b477 l471 l478))))))
 (
 br (n389 == 6)
 (
 ac V 114 [.op [.os (1,0) l395,.int .i64 n398,.bool b401]] fun x479 l480=>
 asI .i64 x479 fun n481=>unc l480 fun x482 l483=>cr x482 fun l487 n490 b493=>(unn l483 (ac V 114 [.op [.os (1,0) l487,.int .i64 n490,.bool b493]] fun x494 l495=>
 asI .i64 x494 fun n496=>unc l495 fun x497 l498=>cr x497 fun l502 n505 b508=>(unn l498 (grd (decide (ni (List.length (p5++[D.agg [D.int IntKind.i64 n389,D.int IntKind.i64 n481,D.str { data:=#[] },D.int IntKind.i64 n496,D.int IntKind.i64 (0)]])) <= LIM)) (nam (p5++[D.agg [D.int IntKind.i64 n389,D.int IntKind.i64 n481,D.str { data:=#[] },D.int IntKind.i64 n496,D.int IntKind.i64 (0)]]) fun l509=>
 ar p0 (IntKind.wrap IntKind.i64 (p1 + 1)) n505 b508 l502 l509))))))
 (
 br (n389 == 7)
 (
 ac V 114 [.op [.os (1,0) l395,.int .i64 n398,.bool b401]] fun x510 l511=>
 asI .i64 x510 fun n512=>unc l511 fun x513 l514=>cr x513 fun l518 n521 b524=>(unn l514 (grd (decide (ni (List.length (p5++[D.agg [D.int IntKind.i64 n389,D.int IntKind.i64 (0),D.str { data:=#[] },D.int IntKind.i64 n512,D.int IntKind.i64 (0)]])) <= LIM)) (nam (p5++[D.agg [D.int IntKind.i64 n389,D.int IntKind.i64 (0),D.str { data:=#[] },D.int IntKind.i64 n512,D.int IntKind.i64 (0)]]) fun l525=>
 ar p0 (IntKind.wrap IntKind.i64 (p1 + 1)) n521 b524 l518 l525))))
 (
 grd (decide (ni (List.length (p5++[D.agg [D.int IntKind.i64 n389,D.int IntKind.i64 (0),D.str { data:=#[] },D.int IntKind.i64 (0),D.int IntKind.i64 (0)]])) <= LIM)) (nam (p5++[D.agg [D.int IntKind.i64 n389,D.int IntKind.i64 (0),D.str { data:=#[] },D.int IntKind.i64 (0),D.int IntKind.i64 (0)]]) fun l526=>
 ar p0 (IntKind.wrap IntKind.i64 (p1 + 1)) n398 b401 l395 l526))))))))
 (
 br (n389 == 8)
 (
 br (n389 == 8)
 (
 ac V 114 [.op [.os (1,0) l395,.int .i64 n398,.bool b401]] fun x527 l528=>
 asI .i64 x527 fun n529=>unc l528 fun x530 l531=>cr x530 fun l535 n538 b541=>(unn l531 (grd (decide (ni (List.length (p5++[D.agg [D.int IntKind.i64 n389,D.int IntKind.i64 n529,D.str { data:=#[] },D.int IntKind.i64 (0),D.int IntKind.i64 (0)]])) <= LIM)) (nam (p5++[D.agg [D.int IntKind.i64 n389,D.int IntKind.i64 n529,D.str { data:=#[] },D.int IntKind.i64 (0),D.int IntKind.i64 (0)]]) fun l542=>
 ar p0 (IntKind.wrap IntKind.i64 (p1 + 1)) n538 b541 l535 l542))))
 (
 br (n389 == 3)
 (
 ac V 114 [.op [.os (1,0) l395,.int .i64 n398,.bool b401]] fun x543 l544=>
 asI .i64 x543 fun n545=>unc l544 fun x546 l547=>cr x546 fun l551 n554 b557=>(unn l547 (grd (decide (ni (List.length (p5++[D.agg [D.int IntKind.i64 n389,D.int IntKind.i64 (IntKind.wrap IntKind.i64 (n545 - 1000000000)),D.str { data:=#[] },D.int IntKind.i64 (0),D.int IntKind.i64 (0)]])) <= LIM)) (nam (p5++[D.agg [D.int IntKind.i64 n389,D.int IntKind.i64 (IntKind.wrap IntKind.i64 (n545 - 1000000000)),D.str { data:=#[] },D.int IntKind.i64 (0),D.int IntKind.i64 (0)]]) fun l558=>
 ar p0 (IntKind.wrap IntKind.i64 (p1 + 1)) n554 b557 l551 l558))))
 (
 br (n389 == 4)
 (
 ac V 174 [.rs (1,0) l395,.int .i64 n398] fun x559 l560=>
 CH x559 fun s564 n567 b570=>(unn l560 (br b401
 (
 grd (decide (ni (List.length (p5++[D.agg [D.int IntKind.i64 n389,D.int IntKind.i64 (0),D.str s564,D.int IntKind.i64 (0),D.int IntKind.i64 (0)]])) <= LIM)) (nam (p5++[D.agg [D.int IntKind.i64 n389,D.int IntKind.i64 (0),D.str s564,D.int IntKind.i64 (0),D.int IntKind.i64 (0)]]) fun l571=>
 ar p0 (IntKind.wrap IntKind.i64 (p1 + 1)) n567 b570 l395 l571))
 (
 grd (decide (ni (List.length (p5++[D.agg [D.int IntKind.i64 n389,D.int IntKind.i64 (0),D.str s564,D.int IntKind.i64 (0),D.int IntKind.i64 (0)]])) <= LIM)) (nam (p5++[D.agg [D.int IntKind.i64 n389,D.int IntKind.i64 (0),D.str s564,D.int IntKind.i64 (0),D.int IntKind.i64 (0)]]) fun l572=>
 ar p0 (IntKind.wrap IntKind.i64 (p1 + 1)) n567 false l395 l572)))))
 (
 br (n389 == 5)
 (
 ac V 114 [.op [.os (1,0) l395,.int .i64 n398,.bool b401]] fun x573 l574=>
 asI .i64 x573 fun n575=>unc l574 fun x576 l577=>cr x576 fun l581 n584 b587=>(unn l577 (ac V 114 [.op [.os (1,0) l581,.int .i64 n584,.bool b587]] fun x588 l589=>
 asI .i64 x588 fun n590=>unc l589 fun x591 l592=>cr x591 fun l596 n599 b602=>(unn l592 (grd (decide (ni (List.length (p5++[D.agg [D.int IntKind.i64 n389,D.int IntKind.i64 (0),D.str { data:=#[] },D.int IntKind.i64 n575,D.int IntKind.i64 n590]])) <= LIM)) (nam (p5++[D.agg [D.int IntKind.i64 n389,D.int IntKind.i64 (0),D.str { data:=#[] },D.int IntKind.i64 n575,D.int IntKind.i64 n590]]) fun l603=>
 ar p0 (IntKind.wrap IntKind.i64 (p1 + 1)) n599 b602 l596 l603))))))
 (
 br (n389 == 6)
 (
 ac V 114 [.op [.os (1,0) l395,.int .i64 n398,.bool b401]] fun x604 l605=>
 asI .i64 x604 fun n606=>unc l605 fun x607 l608=>cr x607 fun l612 n615 b618=>(unn l608 (ac V 114 [.op [.os (1,0) l612,.int .i64 n615,.bool b618]] fun x619 l620=>
 asI .i64 x619 fun n621=>unc l620 fun x622 l623=>cr x622 fun l627 n630 b633=>(unn l623 (grd (decide (ni (List.length (p5++[D.agg [D.int IntKind.i64 n389,D.int IntKind.i64 n606,D.str { data:=#[] },D.int IntKind.i64 n621,D.int IntKind.i64 (0)]])) <= LIM)) (nam (p5++[D.agg [D.int IntKind.i64 n389,D.int IntKind.i64 n606,D.str { data:=#[] },D.int IntKind.i64 n621,D.int IntKind.i64 (0)]]) fun l634=>
 ar p0 (IntKind.wrap IntKind.i64 (p1 + 1)) n630 b633 l627 l634))))))
 (
 br (n389 == 7)
 (
 ac V 114 [.op [.os (1,0) l395,.int .i64 n398,.bool b401]] fun x635 l636=>
 asI .i64 x635 fun n637=>unc l636 fun x638 l639=>cr x638 fun l643 n646 b649=>(unn l639 (grd (decide (ni (List.length (p5++[D.agg [D.int IntKind.i64 n389,D.int IntKind.i64 (0),D.str { data:=#[] },D.int IntKind.i64 n637,D.int IntKind.i64 (0)]])) <= LIM)) (nam (p5++[D.agg [D.int IntKind.i64 n389,D.int IntKind.i64 (0),D.str { data:=#[] },D.int IntKind.i64 n637,D.int IntKind.i64 (0)]]) fun l650=>
 ar p0 (IntKind.wrap IntKind.i64 (p1 + 1)) n646 b649 l643 l650))))
 (
 grd (decide (ni (List.length (p5++[D.agg [D.int IntKind.i64 n389,D.int IntKind.i64 (0),D.str { data:=#[] },D.int IntKind.i64 (0),D.int IntKind.i64 (0)]])) <= LIM)) (nam (p5++[D.agg [D.int IntKind.i64 n389,D.int IntKind.i64 (0),D.str { data:=#[] },D.int IntKind.i64 (0),D.int IntKind.i64 (0)]]) fun l651=>
 ar p0 (IntKind.wrap IntKind.i64 (p1 + 1)) n398 b401 l395 l651))))))))
 (
 br (n389 == 9)
 (
 ac V 114 [.op [.os (1,0) l395,.int .i64 n398,.bool b401]] fun x652 l653=>
 asI .i64 x652 fun n654=>unc l653 fun x655 l656=>cr x655 fun l660 n663 b666=>(unn l656 (grd (decide (ni (List.length (p5++[D.agg [D.int IntKind.i64 n389,D.int IntKind.i64 n654,D.str { data:=#[] },D.int IntKind.i64 (0),D.int IntKind.i64 (0)]])) <= LIM)) (nam (p5++[D.agg [D.int IntKind.i64 n389,D.int IntKind.i64 n654,D.str { data:=#[] },D.int IntKind.i64 (0),D.int IntKind.i64 (0)]]) fun l667=>
 ar p0 (IntKind.wrap IntKind.i64 (p1 + 1)) n663 b666 l660 l667))))
 (
 br (n389 == 3)
 (
 ac V 114 [.op [.os (1,0) l395,.int .i64 n398,.bool b401]] fun x668 l669=>
 asI .i64 x668 fun n670=>unc l669 fun x671 l672=>cr x671 fun l676 n679 b682=>(unn l672 (grd (decide (ni (List.length (p5++[D.agg [D.int IntKind.i64 n389,D.int IntKind.i64 (IntKind.wrap IntKind.i64 (n670 - 1000000000)),D.str { data:=#[] },D.int IntKind.i64 (0),D.int IntKind.i64 (0)]])) <= LIM)) (nam (p5++[D.agg [D.int IntKind.i64 n389,D.int IntKind.i64 (IntKind.wrap IntKind.i64 (n670 - 1000000000)),D.str { data:=#[] },D.int IntKind.i64 (0),D.int IntKind.i64 (0)]]) fun l683=>
 ar p0 (IntKind.wrap IntKind.i64 (p1 + 1)) n679 b682 l676 l683))))
 (
 br (n389 == 4)
 (
 ac V 174 [.rs (1,0) l395,.int .i64 n398] fun x684 l685=>
 CH x684 fun s689 n692 b695=>(unn l685 (br b401
 (
 grd (decide (ni (List.length (p5++[D.agg [D.int IntKind.i64 n389,D.int IntKind.i64 (0),D.str s689,D.int IntKind.i64 (0),D.int IntKind.i64 (0)]])) <= LIM)) (nam (p5++[D.agg [D.int IntKind.i64 n389,D.int IntKind.i64 (0),D.str s689,D.int IntKind.i64 (0),D.int IntKind.i64 (0)]]) fun l696=>
 ar p0 (IntKind.wrap IntKind.i64 (p1 + 1)) n692 b695 l395 l696))
 (
 grd (decide (ni (List.length (p5++[D.agg [D.int IntKind.i64 n389,D.int IntKind.i64 (0),D.str s689,D.int IntKind.i64 (0),D.int IntKind.i64 (0)]])) <= LIM)) (nam (p5++[D.agg [D.int IntKind.i64 n389,D.int IntKind.i64 (0),D.str s689,D.int IntKind.i64 (0),D.int IntKind.i64 (0)]]) fun l697=>
 ar p0 (IntKind.wrap IntKind.i64 (p1 + 1)) n692 false l395 l697)))))
 (
 br (n389 == 5)
 (
 ac V 114 [.op [.os (1,0) l395,.int .i64 n398,.bool b401]] fun x698 l699=>
 asI .i64 x698 fun n700=>unc l699 fun x701 l702=>cr x701 fun l706 n709 b712=>(unn l702 (ac V 114 [.op [.os (1,0) l706,.int .i64 n709,.bool b712]] fun x713 l714=>
 asI .i64 x713 fun n715=>unc l714 fun x716 l717=>cr x716 fun l721 n724 b727=>(unn l717 (grd (decide (ni (List.length (p5++[D.agg [D.int IntKind.i64 n389,D.int IntKind.i64 (0),D.str { data:=#[] },D.int IntKind.i64 n700,D.int IntKind.i64 n715]])) <= LIM)) (nam (p5++[D.agg [D.int IntKind.i64 n389,D.int IntKind.i64 (0),D.str { data:=#[] },D.int IntKind.i64 n700,D.int IntKind.i64 n715]]) fun l728=>
 ar p0 (IntKind.wrap IntKind.i64 (p1 + 1)) n724 b727 l721 l728))))))
 (
 br (n389 == 6)
 (
 ac V 114 [.op [.os (1,0) l395,.int .i64 n398,.bool b401]] fun x729 l730=>
 asI .i64 x729 fun n731=>unc l730 fun x732 l733=>cr x732 fun l737 n740 b743=>(unn l733 (ac V 114 [.op [.os (1,0) l737,.int .i64 n740,.bool b743]] fun x744 l745=>
 asI .i64 x744 fun n746=>unc l745 fun x747 l748=>cr x747 fun l752 n755 b758=>(unn l748 (grd (decide (ni (List.length (p5++[D.agg [D.int IntKind.i64 n389,D.int IntKind.i64 n731,D.str { data:=#[] },D.int IntKind.i64 n746,D.int IntKind.i64 (0)]])) <= LIM)) (nam (p5++[D.agg [D.int IntKind.i64 n389,D.int IntKind.i64 n731,D.str { data:=#[] },D.int IntKind.i64 n746,D.int IntKind.i64 (0)]]) fun l759=>
 ar p0 (IntKind.wrap IntKind.i64 (p1 + 1)) n755 b758 l752 l759))))))
 (
 br (n389 == 7)
 (
 ac V 114 [.op [.os (1,0) l395,.int .i64 n398,.bool b401]] fun x760 l761=>
 asI .i64 x760 fun n762=>unc l761 fun x763 l764=>cr x763 fun l768 n771 b774=>(unn l764 (grd (decide (ni (List.length (p5++[D.agg [D.int IntKind.i64 n389,D.int IntKind.i64 (0),D.str { data:=#[] },D.int IntKind.i64 n762,D.int IntKind.i64 (0)]])) <= LIM)) (nam (p5++[D.agg [D.int IntKind.i64 n389,D.int IntKind.i64 (0),D.str { data:=#[] },D.int IntKind.i64 n762,D.int IntKind.i64 (0)]]) fun l775=>
 ar p0 (IntKind.wrap IntKind.i64 (p1 + 1)) n771 b774 l768 l775))))
 (
 grd (decide (ni (List.length (p5++[D.agg [D.int IntKind.i64 n389,D.int IntKind.i64 (0),D.str { data:=#[] },D.int IntKind.i64 (0),D.int IntKind.i64 (0)]])) <= LIM)) (nam (p5++[D.agg [D.int IntKind.i64 n389,D.int IntKind.i64 (0),D.str { data:=#[] },D.int IntKind.i64 (0),D.int IntKind.i64 (0)]]) fun l776=>
 ar p0 (IntKind.wrap IntKind.i64 (p1 + 1)) n398 b401 l395 l776))))))))))))
 (
 br p3
 (
 br (p2 == ni p4.length)
 (
 ac V 60 [.agg [.rs (5,0) p5]] fun x777 l778=>
 asB x777 fun b779=>unn l778 (some ((.agg [.os (5,0) p5]),[.op [.os (1,0) p4,.int .i64 p2,.bool b779]])))
 (some ((.agg [.os (5,0) p5]),[.op [.os (1,0) p4,.int .i64 p2,.bool false]])))
 (some ((.agg [.os (5,0) p5]),[.op [.os (1,0) p4,.int .i64 p2,.bool false]]))))
 (
 br p3
 (
 br (p2 == ni p4.length)
 (
 ac V 60 [.agg [.rs (5,0) p5]] fun x780 l781=>
 asB x780 fun b782=>unn l781 (some ((.agg [.os (5,0) p5]),[.op [.os (1,0) p4,.int .i64 p2,.bool b782]])))
 (some ((.agg [.os (5,0) p5]),[.op [.os (1,0) p4,.int .i64 p2,.bool false]])))
 (some ((.agg [.os (5,0) p5]),[.op [.os (1,0) p4,.int .i64 p2,.bool false]]))):=by
 exact (cd _ _ _).trans (by kernel_rfl)
theorem De (a0_0:List D) (a0_1 a0_2:Int):V 74 [.op [.rs (1,0) a0_0,.int .i64 a0_1,.int .i64 a0_2]] =
 ac V 142 [.op [.rs (1,0) a0_0,.int .i64 a0_1,.int .i64 a0_2]] fun x0 l1=>
 asAgg x0 fun l2=>unc l2 fun x3 l4=>aI (5,0) x3 fun l5=>unc l4 fun x6 l7=>aI (4,0) x6 fun l8=>unc l7 fun x9 l10=>aI (3,0) x9 fun l11=>unn l10 (unc l1 fun x12 l13=>bH x12 fun l14=>unc l14 fun x15 l16=>cu (1,0) x15 fun l17=>unc l16 fun x18 l19=>asI .i64 x18 fun n20=>unc l19 fun x21 l22=>asI .i64 x21 fun n23=>unn l22 (unn l13 (ac V 76 [.op [.rs (1,0) l17,.int .i64 n20,.int .i64 n23],(.int .i64 (ni l8.length))] fun x24 l25=>
 asI .i64 x24 fun n26=>unc l25 fun x27 l28=>bH x27 fun l29=>unc l29 fun x30 l31=>cu (1,0) x30 fun l32=>unc l31 fun x33 l34=>asI .i64 x33 fun n35=>unc l34 fun x36 l37=>asI .i64 x36 fun n38=>unn l37 (unn l28 (ac V 76 [.op [.rs (1,0) l32,.int .i64 n35,.int .i64 n38],.int .i64 (25)] fun x39 l40=>
 asI .i64 x39 fun n41=>unc l40 fun x42 l43=>bH x42 fun l44=>unc l44 fun x45 l46=>cu (1,0) x45 fun l47=>unc l46 fun x48 l49=>asI .i64 x48 fun n50=>unc l49 fun x51 l52=>asI .i64 x51 fun n53=>unn l52 (unn l43 (br (n41 == 0)
 (
 ac V 76 [.op [.rs (1,0) l47,.int .i64 n50,.int .i64 n53],.int .i64 (11)] fun x54 l55=>
 asI .i64 x54 fun n56=>unc l55 fun x57 l58=>bH x57 fun l59=>unc l59 fun x60 l61=>cu (1,0) x60 fun l62=>unc l61 fun x63 l64=>asI .i64 x63 fun n65=>unc l64 fun x66 l67=>asI .i64 x66 fun n68=>unn l67 (unn l58 (grd (decide (0 <= n26) && decide (n26 < ni l8.length)) (az l8 n26.toNat fun x69=>
 asAgg x69 fun l70=>nam (List.set l8 n26.toNat (D.agg (List.take 0 l70++[D.int IntKind.i64 n56]++List.drop 1 l70))) fun l71=>
 some ((.agg [.os (5,0) l5,.os (4,0) l71,.os (3,0) l11]),[.op [.rs (1,0) l62,.int .i64 n65,.int .i64 n68]])))))
 (
 br (n41 == 1)
 (
 ac V 122 [.op [.rs (1,0) l47,.int .i64 n50,.int .i64 n53],(.rs (1,0) [.int .i64 (-1),.int .i64 (0),.int .i64 n26,(.int .i64 (IntKind.wrap IntKind.i64 (n26 + 1))),(.int .i64 (ni l8.length)),(.int .i64 (IntKind.wrap IntKind.i64 (ni l8.length + 1)))])] fun x72 l73=>
 asI .i64 x72 fun n74=>unc l73 fun x75 l76=>bH x75 fun l77=>unc l77 fun x78 l79=>cu (1,0) x78 fun l80=>unc l79 fun x81 l82=>asI .i64 x81 fun n83=>unc l82 fun x84 l85=>asI .i64 x84 fun n86=>unn l85 (unn l76 (grd (decide (0 <= n26) && decide (n26 < ni l8.length)) (az l8 n26.toNat fun x87=>
 asAgg x87 fun l88=>nam (List.set l8 n26.toNat (D.agg (List.take 1 l88++[D.int IntKind.i64 n74]++List.drop 2 l88))) fun l89=>
 some ((.agg [.os (5,0) l5,.os (4,0) l89,.os (3,0) l11]),[.op [.rs (1,0) l80,.int .i64 n83,.int .i64 n86]])))))
 (
 br (n41 == 2)
 (
 ac V 76 [.op [.rs (1,0) l47,.int .i64 n50,.int .i64 n53],.int .i64 (7)] fun x90 l91=>
 asI .i64 x90 fun n92=>unc l91 fun x93 l94=>bH x93 fun l95=>unc l95 fun x96 l97=>cu (1,0) x96 fun l98=>unc l97 fun x99 l100=>asI .i64 x99 fun n101=>unc l100 fun x102 l103=>asI .i64 x102 fun n104=>unn l103 (unn l94 (grd (decide (0 <= n26) && decide (n26 < ni l8.length)) (az l8 n26.toNat fun x105=>
 asAgg x105 fun l106=>nam (List.set l8 n26.toNat (D.agg (List.take 2 l106++[D.int IntKind.i64 (IntKind.wrap IntKind.i64 (n92 - 1))]++List.drop 3 l106))) fun l107=>
 some ((.agg [.os (5,0) l5,.os (4,0) l107,.os (3,0) l11]),[.op [.rs (1,0) l98,.int .i64 n101,.int .i64 n104]])))))
 (
 br (n41 == 3)
 (
 ac V 75 [.op [.rs (1,0) l47,.int .i64 n50,.int .i64 n53],(.rs (1,0) [.str ({ data:=#[] }),.str ({ data:=#[97] }),.str ({ data:=#[65] })])] fun x108 l109=>
 asS x108 fun s110=>unc l109 fun x111 l112=>bH x111 fun l113=>unc l113 fun x114 l115=>cu (1,0) x114 fun l116=>unc l115 fun x117 l118=>asI .i64 x117 fun n119=>unc l118 fun x120 l121=>asI .i64 x120 fun n122=>unn l121 (unn l112 (grd (decide (0 <= n26) && decide (n26 < ni l8.length)) (az l8 n26.toNat fun x123=>
 asAgg x123 fun l124=>nam (List.set l8 n26.toNat (D.agg (List.take 3 l124++[D.str s110]++List.drop 4 l124))) fun l125=>
 some ((.agg [.os (5,0) l5,.os (4,0) l125,.os (3,0) l11]),[.op [.rs (1,0) l116,.int .i64 n119,.int .i64 n122]])))))
 (
 br (n41 == 4)
 (
 ac V 75 [.op [.rs (1,0) l47,.int .i64 n50,.int .i64 n53],(.rs (1,0) [.str ({ data:=#[102] }),.str ({ data:=#[109,97,105,110] }),.str ({ data:=#[122,122] }),.str ({ data:=#[65] })])] fun x126 l127=>
 asS x126 fun s128=>unc l127 fun x129 l130=>bH x129 fun l131=>unc l131 fun x132 l133=>cu (1,0) x132 fun l134=>unc l133 fun x135 l136=>asI .i64 x135 fun n137=>unc l136 fun x138 l139=>asI .i64 x138 fun n140=>unn l139 (unn l130 (ac V 76 [.op [.rs (1,0) l134,.int .i64 n137,.int .i64 n140],.int .i64 (60)] fun x141 l142=>
 asI .i64 x141 fun n143=>unc l142 fun x144 l145=>bH x144 fun l146=>unc l146 fun x147 l148=>cu (1,0) x147 fun l149=>unc l148 fun x150 l151=>asI .i64 x150 fun n152=>unc l151 fun x153 l154=>asI .i64 x153 fun n155=>unn l154 (unn l145 (ac V 76 [.op [.rs (1,0) l149,.int .i64 n152,.int .i64 n155],.int .i64 (6)] fun x156 l157=>
 asI .i64 x156 fun n158=>unc l157 fun x159 l160=>bH x159 fun l161=>unc l161 fun x162 l163=>cu (1,0) x162 fun l164=>unc l163 fun x165 l166=>asI .i64 x165 fun n167=>unc l166 fun x168 l169=>asI .i64 x168 fun n170=>unn l169 (unn l160 (grd (decide (ni (List.length (l11++[D.agg [D.str s128,D.int IntKind.i64 n143,D.int IntKind.i64 n158]])) <= LIM)) (nam (l11++[D.agg [D.str s128,D.int IntKind.i64 n143,D.int IntKind.i64 n158]]) fun l171=>
 some ((.agg [.os (5,0) l5,.os (4,0) l8,.os (3,0) l171]),[.op [.rs (1,0) l164,.int .i64 n167,.int .i64 n170]])))))))))
 (
 br (n41 == 5)
 (
 ac V 90 [.op [.rs (1,0) l47,.int .i64 n50,.int .i64 n53]] fun x172 l173=>
 asAgg x172 fun l174=>unc l174 fun x175 l176=>aI (5,0) x175 fun l177=>unn l176 (unc l173 fun x178 l179=>bH x178 fun l180=>unc l180 fun x181 l182=>cu (1,0) x181 fun l183=>unc l182 fun x184 l185=>asI .i64 x184 fun n186=>unc l185 fun x187 l188=>asI .i64 x187 fun n189=>unn l188 (unn l179 (some ((.agg [.os (5,0) l177,.os (4,0) l8,.os (3,0) l11]),[.op [.rs (1,0) l183,.int .i64 n186,.int .i64 n189]])))))
 (some ((.agg [.os (5,0) l5,.os (4,0) l8,.os (3,0) l11]),[.op [.rs (1,0) l47,.int .i64 n50,.int .i64 n53]])))))))))))))):=by
 exact (aX Tryz.func74 rfl _).trans (by kernel_rfl)
theorem tU (p0:ByteArray) (p1:Nat) (p2:Int) (p3 p4 p5 p6:List D):bZ p0 p1 p2 p3 p4 p5 p6 =
 br (decide (p2 < ni (ByteArray.size p0)))
 (
 grd (decide (0 <= p2) && decide (p2 < ni (ByteArray.size p0))) (br (bt p0 p2 == 32)
 (bZ p0 p1 (IntKind.wrap IntKind.i64 (p2 + 1)) p3 p4 p5 p6)
 (
 br (bt p0 p2 == 40)
 (grd (decide
 (ni
 (List.length
 (part p5 (some (0,p1)) ++
 [D.agg
 [D.int IntKind.i64 p2,
 D.os
 (TypeInfo.size (Tables.types (Program.toTables Tryz.prog))[3],
 match m6 Tryz.prog (3) with
 | true=>0
 | false=>1)
 []]])) <=
 LIM)) (nam (part p5 (some (0,p1)) ++
 [D.agg
 [D.int IntKind.i64 p2,
 D.os
 (TypeInfo.size (Tables.types (Program.toTables Tryz.prog))[3],
 match m6 Tryz.prog (3) with
 | true=>0
 | false=>1)
 []]]) fun l79=>
 cg p0 (IntKind.wrap IntKind.i64 (p2 + 1)) p3 p4 l79 p6))
 (
 br (bt p0 p2 == 41)
 (
 br (IntKind.wrap IntKind.i64 (ni p1 - 1) == 0)
 (
 ac V 147 [.agg [.rs (5,0) p3]] fun x80 l81=>
 asAgg x80 fun l82=>unc l82 fun x83 l84=>aI (5,0) x83 fun l85=>unn l84 (unn l81 (some ((.tup [.agg [.os (5,0) l85],.os (1,0) p4,.int .i64 (5),.int .i64 p2]),[]))))
 (
 grd (decide (0 <= IntKind.wrap IntKind.i64 (ni p1 - 1)) && decide (IntKind.wrap IntKind.i64 (ni p1 - 1) < ni p1) && decide (0 + p1 <= List.length p5)) (az p5 (0 + Int.toNat (IntKind.wrap IntKind.i64 (ni p1 - 1))) fun x86=>
 asAgg x86 fun l87=>az l87 1 fun x88=>
 aI (1,0) x88 fun l89=>asAgg x86 fun l90=>ac V 210 [.op [.os (5,0) p6],.rs (1,0) l89] fun x91 l92=>
 asI .i64 x91 fun n93=>unc l92 fun x94 l95=>bH x94 fun l96=>unc l96 fun x97 l98=>aI (5,0) x97 fun l99=>unn l98 (unn l95 (grd (kt p1 (List.length (List.set p5 (0 + Int.toNat (IntKind.wrap IntKind.i64 (ni p1 - 1))) (D.agg (List.take 1 l90++[D.dead]++List.drop 2 l90))) - 0) none (some (IntKind.wrap IntKind.i64 (ni p1 - 1)))) (grd (decide (0 <= IntKind.wrap IntKind.i64 (IntKind.wrap IntKind.i64 (ni p1 - 1) - 1)) && decide (IntKind.wrap IntKind.i64 (IntKind.wrap IntKind.i64 (ni p1 - 1) - 1) < ni (Int.toNat (IntKind.wrap IntKind.i64 (ni p1 - 1)))) && decide (0 + Int.toNat (IntKind.wrap IntKind.i64 (ni p1 - 1)) <= List.length (List.set p5 (0 + Int.toNat (IntKind.wrap IntKind.i64 (ni p1 - 1))) (D.agg (List.take 1 l90++[D.dead]++List.drop 2 l90))))) (az (List.set p5 (0 + Int.toNat (IntKind.wrap IntKind.i64 (ni p1 - 1))) (D.agg (List.take 1 l90++[D.dead]++List.drop 2 l90))) (0 + Int.toNat (IntKind.wrap IntKind.i64 (IntKind.wrap IntKind.i64 (ni p1 - 1) - 1))) fun x100=>
 asAgg x100 fun l101=>az l101 1 fun x102=>
 aI (1,0) x102 fun l103=>asAgg x100 fun l104=>grd (decide (ni (List.length (l103++[D.int IntKind.i64 n93])) <= LIM)) (nam (l103++[D.int IntKind.i64 n93]) fun l105=>
 grd (decide (0 <= IntKind.wrap IntKind.i64 (IntKind.wrap IntKind.i64 (ni p1 - 1) - 1)) && decide (IntKind.wrap IntKind.i64 (IntKind.wrap IntKind.i64 (ni p1 - 1) - 1) < ni (Int.toNat (IntKind.wrap IntKind.i64 (ni p1 - 1)))) && decide (0 + Int.toNat (IntKind.wrap IntKind.i64 (ni p1 - 1)) <= List.length (List.set (List.set p5 (0 + Int.toNat (IntKind.wrap IntKind.i64 (ni p1 - 1))) (D.agg (List.take 1 l90++[D.dead]++List.drop 2 l90))) (0 + Int.toNat (IntKind.wrap IntKind.i64 (IntKind.wrap IntKind.i64 (ni p1 - 1) - 1))) (D.agg (List.take 1 l104++[D.dead]++List.drop 2 l104))))) (az (List.set (List.set p5 (0 + Int.toNat (IntKind.wrap IntKind.i64 (ni p1 - 1))) (D.agg (List.take 1 l90++[D.dead]++List.drop 2 l90))) (0 + Int.toNat (IntKind.wrap IntKind.i64 (IntKind.wrap IntKind.i64 (ni p1 - 1) - 1))) (D.agg (List.take 1 l104++[D.dead]++List.drop 2 l104))) (0 + Int.toNat (IntKind.wrap IntKind.i64 (IntKind.wrap IntKind.i64 (ni p1 - 1) - 1))) fun x106=>
 asAgg x106 fun l107=>nam (List.set (List.set (List.set p5 (0 + Int.toNat (IntKind.wrap IntKind.i64 (ni p1 - 1))) (D.agg (List.take 1 l90++[D.dead]++List.drop 2 l90))) (0 + Int.toNat (IntKind.wrap IntKind.i64 (IntKind.wrap IntKind.i64 (ni p1 - 1) - 1))) (D.agg (List.take 1 l104++[D.dead]++List.drop 2 l104))) (0 + Int.toNat (IntKind.wrap IntKind.i64 (IntKind.wrap IntKind.i64 (ni p1 - 1) - 1)))
 (D.agg
 (List.take 1 l107 ++
 [D.os
 (TypeInfo.size (Tables.types (Program.toTables Tryz.prog))[3],
 match m6 Tryz.prog (3) with
 | true=>0
 | false=>1)
 l105] ++
 List.drop 2 l107))) fun l108=>
 bZ p0 (Int.toNat (IntKind.wrap IntKind.i64 (ni p1 - 1))) (IntKind.wrap IntKind.i64 (p2 + 1)) p3 p4 l108 l99)))))))))
 (
 ac V 211 [.int .u8 (bt p0 p2)] fun x109 l110=>
 asB x109 fun b111=>unn l110 (br b111
 (dQ p0 p1 p2 (IntKind.wrap IntKind.i64 (ni p1 - 1)) p2 p3 p4 p5 p6)
 (
 ac V 147 [.agg [.rs (5,0) p3]] fun x112 l113=>
 asAgg x112 fun l114=>unc l114 fun x115 l116=>aI (5,0) x115 fun l117=>unn l116 (unn l113 (some ((.tup [.agg [.os (5,0) l117],.os (1,0) p4,.int .i64 (2),.int .i64 p2]),[]))))))))))
 (
 br (decide (ni p1 > 1))
 (
 ac V 147 [.agg [.rs (5,0) p3]] fun x118 l119=>
 asAgg x118 fun l120=>unc l120 fun x121 l122=>aI (5,0) x121 fun l123=>unn l122 (unn l119 (grd (decide (0 <= IntKind.wrap IntKind.i64 (ni p1 - 1)) && decide (IntKind.wrap IntKind.i64 (ni p1 - 1) < ni p1) && decide (0 + p1 <= List.length p5)) (az p5 (0 + Int.toNat (IntKind.wrap IntKind.i64 (ni p1 - 1))) fun x124=>
 asAgg x124 fun l125=>az l125 0 fun x126=>
 asI .i64 x126 fun n127=>some ((.tup [.agg [.os (5,0) l123],.os (1,0) p4,.int .i64 (4),.int .i64 n127]),[])))))
 (
 ac V 60 [.agg [.rs (5,0) p6]] fun x128 l129=>
 asB x128 fun b130=>unn l129 (br (!b130)
 (
 ac V 147 [.agg [.rs (5,0) p3]] fun x131 l132=>
 asAgg x131 fun l133=>unc l133 fun x134 l135=>aI (5,0) x134 fun l136=>unn l135 (unn l132 (some ((.tup [.agg [.os (5,0) l136],.os (1,0) p4,.int .i64 (6),.int .i64 (0)]),[]))))
 (
 grd (decide (0 <= 0) && decide (0 < ni p1) && decide (0 + p1 <= List.length p5)) (az p5 0 fun x137=>
 asAgg x137 fun l138=>az l138 1 fun x139=>
 aI (1,0) x139 fun l140=>asAgg x137 fun l141=>grd (decide (ni (List.length ([]++l140)) <= LIM)) (nam ([]++l140) fun l142=>
 some ((.tup [.agg [.os (5,0) p6],.os (1,0) l142,.int .i64 (0),(.int .i64 (ni (ByteArray.size p0)))]),[]))))))):=by
 exact (cd _ _ _).trans (by kernel_rfl)
theorem y8 (a0_0 a0_1 a0_2:List D) (a1_:Int):V 123 [.agg [.rs (5,0) a0_0,.rs (4,0) a0_1,.rs (3,0) a0_2],.int .i64 a1_] =
 grd (decide (0 <= a1_) && decide (a1_ < ni a0_1.length)) (az a0_1 a1_.toNat fun x0=>
 QN x0 fun n4 n7 n10 s13=>(br (n4 == 1)
 (
 ac V 56 [.agg [.rs (5,0) a0_0],.int .i64 n7] fun x14 l15=>
 asB x14 fun b16=>unn l15 (br b16
 (
 br (n10 == 0)
 (some ((.bool (ax s13 { data:=#[] })),[]))
 (some ((.bool false),[])))
 (some ((.bool false),[]))))
 (
 br (n4 == 2)
 (
 ac V 58 [.int .i64 n7,.int .i64 (0),.int .i64 (20)] fun x17 l18=>
 asB x17 fun b19=>unn l18 (ac V 58 [.int .i64 n10,.int .i64 (0),.int .i64 (3)] fun x20 l21=>
 asB x20 fun b22=>unn l21 (br b19
 (
 br b22
 (some ((.bool (ax s13 { data:=#[] })),[]))
 (some ((.bool false),[])))
 (some ((.bool false),[])))))
 (
 br (n4 == 3)
 (
 ac V 124 [.str s13] fun x23 l24=>
 asB x23 fun b25=>unn l24 (br (n7 == 0)
 (
 br (n10 == 0)
 (some ((.bool b25),[]))
 (some ((.bool false),[])))
 (some ((.bool false),[]))))
 (
 br (n4 == 4)
 (
 br (n4 == 4)
 (
 ac V 58 [.int .i64 n7,(.int .i64 (IntKind.wrap IntKind.i64 (a1_ + 1))),(.int .i64 (ni a0_1.length))] fun x26 l27=>
 asB x26 fun b28=>unn l27 (br b28
 (
 br (n10 == 0)
 (some ((.bool (ax s13 { data:=#[] })),[]))
 (some ((.bool false),[])))
 (some ((.bool false),[]))))
 (
 br (n4 == 6)
 (
 ac V 58 [.int .i64 n7,(.int .i64 (IntKind.wrap IntKind.i64 (a1_ + 1))),(.int .i64 (IntKind.wrap IntKind.i64 (ni a0_1.length - 1)))] fun x29 l30=>
 asB x29 fun b31=>unn l30 (ac V 58 [.int .i64 n10,.int .i64 (0),.int .i64 (4)] fun x32 l33=>
 asB x32 fun b34=>unn l33 (br b31
 (
 br b34
 (some ((.bool (ax s13 { data:=#[] })),[]))
 (some ((.bool false),[])))
 (some ((.bool false),[])))))
 (
 br (n4 == 7)
 (
 ac V 58 [.int .i64 n10,.int .i64 (0),.int .i64 (4)] fun x35 l36=>
 asB x35 fun b37=>unn l36 (br (n7 == 0)
 (
 br b37
 (some ((.bool (ax s13 { data:=#[] })),[]))
 (some ((.bool false),[])))
 (some ((.bool false),[]))))
 (
 br (n4 == 8)
 (
 br (n4 == 8)
 (
 br (n7 == 0)
 (
 br (n10 == 0)
 (some ((.bool (ax s13 { data:=#[] })),[]))
 (some ((.bool false),[])))
 (some ((.bool false),[])))
 (some ((.bool false),[])))
 (
 br (n4 == 9)
 (
 br (n7 == 0)
 (
 br (n10 == 0)
 (some ((.bool (ax s13 { data:=#[] })),[]))
 (some ((.bool false),[])))
 (some ((.bool false),[])))
 (some ((.bool false),[])))))))
 (
 br (n4 == 5)
 (
 ac V 58 [.int .i64 n7,(.int .i64 (IntKind.wrap IntKind.i64 (a1_ + 1))),(.int .i64 (ni a0_1.length))] fun x38 l39=>
 asB x38 fun b40=>unn l39 (br b40
 (
 br (n10 == 0)
 (some ((.bool (ax s13 { data:=#[] })),[]))
 (some ((.bool false),[])))
 (some ((.bool false),[]))))
 (
 br (n4 == 6)
 (
 ac V 58 [.int .i64 n7,(.int .i64 (IntKind.wrap IntKind.i64 (a1_ + 1))),(.int .i64 (IntKind.wrap IntKind.i64 (ni a0_1.length - 1)))] fun x41 l42=>
 asB x41 fun b43=>unn l42 (ac V 58 [.int .i64 n10,.int .i64 (0),.int .i64 (4)] fun x44 l45=>
 asB x44 fun b46=>unn l45 (br b43
 (
 br b46
 (some ((.bool (ax s13 { data:=#[] })),[]))
 (some ((.bool false),[])))
 (some ((.bool false),[])))))
 (
 br (n4 == 7)
 (
 ac V 58 [.int .i64 n10,.int .i64 (0),.int .i64 (4)] fun x47 l48=>
 asB x47 fun b49=>unn l48 (br (n7 == 0)
 (
 br b49
 (some ((.bool (ax s13 { data:=#[] })),[]))
 (some ((.bool false),[])))
 (some ((.bool false),[]))))
 (
 br (n4 == 8)
 (
 br (n4 == 8)
 (
 br (n7 == 0)
 (
 br (n10 == 0)
 (some ((.bool (ax s13 { data:=#[] })),[]))
 (some ((.bool false),[])))
 (some ((.bool false),[])))
 (some ((.bool false),[])))
 (
 br (n4 == 9)
 (
 br (n7 == 0)
 (
 br (n10 == 0)
 (some ((.bool (ax s13 { data:=#[] })),[]))
 (some ((.bool false),[])))
 (some ((.bool false),[])))
 (some ((.bool false),[])))))))))))):=by
 exact (aX Tryz.func123 rfl _).trans (by kernel_rfl)
theorem y7 (a0_0 a0_1 a0_2:List D) (a1_:Int):V 127 [.agg [.rs (5,0) a0_0,.rs (4,0) a0_1,.rs (3,0) a0_2],.int .i64 a1_] =
 grd (decide (0 <= a1_) && decide (a1_ < ni a0_1.length)) (az a0_1 a1_.toNat fun x0=>
 QN x0 fun n4 n7 n10 s13=>(br (n4 == 1)
 (
 br (n4 == n4 && (n7 == n7 && (n10 == 0 && (ax s13 { data:=#[] } && true))))
 (
 ac V 61 [.agg [.rs (5,0) a0_0],.int .i64 n7] fun x14 l15=>
 asB x14 fun b16=>unn l15 (some ((.bool b16),[])))
 (some ((.bool false),[])))
 (
 br (n4 == 2)
 (
 br (ax s13 { data:=#[] })
 (
 ac V 62 [.int .i64 n7,.int .i64 (0),.int .i64 (20)] fun x17 l18=>
 asB x17 fun b19=>unn l18 (br b19
 (
 ac V 62 [.int .i64 n10,.int .i64 (0),.int .i64 (3)] fun x20 l21=>
 asB x20 fun b22=>unn l21 (some ((.bool b22),[])))
 (some ((.bool false),[]))))
 (some ((.bool false),[])))
 (
 br (n4 == 3)
 (
 br (n4 == n4 && (n7 == 0 && (n10 == 0 && (ax s13 s13 && true))))
 (
 ac V 128 [.str s13] fun x23 l24=>
 asB x23 fun b25=>unn l24 (some ((.bool b25),[])))
 (some ((.bool false),[])))
 (
 br (n4 == 4)
 (
 br (n4 == 4)
 (
 br (n4 == n4 && (n7 == n7 && (n10 == 0 && (ax s13 { data:=#[] } && true))))
 (
 br (decide (n7 > a1_))
 (some ((.bool (decide (n7 <= ni a0_1.length))),[]))
 (some ((.bool false),[])))
 (some ((.bool false),[])))
 (
 br (n4 == 6)
 (
 br (ax s13 { data:=#[] })
 (
 br (decide (n7 > a1_))
 (
 br (decide (n7 < ni a0_1.length))
 (
 ac V 62 [.int .i64 n10,.int .i64 (0),.int .i64 (4)] fun x26 l27=>
 asB x26 fun b28=>unn l27 (some ((.bool b28),[])))
 (some ((.bool false),[])))
 (some ((.bool false),[])))
 (some ((.bool false),[])))
 (
 br (n4 == 7)
 (
 br (n4 == n4 && (n7 == 0 && (n10 == n10 && (ax s13 { data:=#[] } && true))))
 (
 ac V 62 [.int .i64 n10,.int .i64 (0),.int .i64 (4)] fun x29 l30=>
 asB x29 fun b31=>unn l30 (some ((.bool b31),[])))
 (some ((.bool false),[])))
 (
 br (n4 == 8)
 (
 br (n4 == 8)
 (some ((.bool (n4 == n4 && (n7 == 0 && (n10 == 0 && (ax s13 { data:=#[] } && true))))),[]))
 (some ((.bool false),[])))
 (
 br (n4 == 9)
 (some ((.bool (n4 == n4 && (n7 == 0 && (n10 == 0 && (ax s13 { data:=#[] } && true))))),[]))
 (some ((.bool false),[])))))))
 (
 br (n4 == 5)
 (
 br (n4 == n4 && (n7 == n7 && (n10 == 0 && (ax s13 { data:=#[] } && true))))
 (
 br (decide (n7 > a1_))
 (some ((.bool (decide (n7 <= ni a0_1.length))),[]))
 (some ((.bool false),[])))
 (some ((.bool false),[])))
 (
 br (n4 == 6)
 (
 br (ax s13 { data:=#[] })
 (
 br (decide (n7 > a1_))
 (
 br (decide (n7 < ni a0_1.length))
 (
 ac V 62 [.int .i64 n10,.int .i64 (0),.int .i64 (4)] fun x32 l33=>
 asB x32 fun b34=>unn l33 (some ((.bool b34),[])))
 (some ((.bool false),[])))
 (some ((.bool false),[])))
 (some ((.bool false),[])))
 (
 br (n4 == 7)
 (
 br (n4 == n4 && (n7 == 0 && (n10 == n10 && (ax s13 { data:=#[] } && true))))
 (
 ac V 62 [.int .i64 n10,.int .i64 (0),.int .i64 (4)] fun x35 l36=>
 asB x35 fun b37=>unn l36 (some ((.bool b37),[])))
 (some ((.bool false),[])))
 (
 br (n4 == 8)
 (
 br (n4 == 8)
 (some ((.bool (n4 == n4 && (n7 == 0 && (n10 == 0 && (ax s13 { data:=#[] } && true))))),[]))
 (some ((.bool false),[])))
 (
 br (n4 == 9)
 (some ((.bool (n4 == n4 && (n7 == 0 && (n10 == 0 && (ax s13 { data:=#[] } && true))))),[]))
 (some ((.bool false),[])))))))))))):=by
 exact (aX Tryz.func127 rfl _).trans (by kernel_rfl)
theorem DK (a0_0 a0_1:Int) (a0_2:ByteArray) (a0_3 a0_4 a1_:Int):V 126 [.agg [.int .i64 a0_0,.int .i64 a0_1,.str a0_2,.int .i64 a0_3,.int .i64 a0_4],.int .i64 a1_] =
 br (a0_0 == 1)
 (
 ac V 58 [.int .i64 a0_1,.int .i64 (0),.int .i64 (0)] fun x0 l1=>
 asB x0 fun b2=>unn l1 (br b2
 (
 br (ax a0_2 { data:=#[] })
 (
 br (a0_3 == 0)
 (some ((.bool (a0_4 == 0)),[]))
 (some ((.bool false),[])))
 (some ((.bool false),[])))
 (some ((.bool false),[]))))
 (
 br (a0_0 == 2)
 (
 ac V 58 [.int .i64 a0_1,.int .i64 (0),.int .i64 (1)] fun x3 l4=>
 asB x3 fun b5=>unn l4 (br b5
 (
 br (ax a0_2 { data:=#[] })
 (
 br (a0_3 == 0)
 (some ((.bool (a0_4 == 0)),[]))
 (some ((.bool false),[])))
 (some ((.bool false),[])))
 (some ((.bool false),[]))))
 (
 br (a0_0 == 3)
 (
 ac V 58 [.int .i64 a0_1,.int .i64 (-1000000000),.int .i64 (1000000000)] fun x6 l7=>
 asB x6 fun b8=>unn l7 (br b8
 (
 br (ax a0_2 { data:=#[] })
 (
 br (a0_3 == 0)
 (some ((.bool (a0_4 == 0)),[]))
 (some ((.bool false),[])))
 (some ((.bool false),[])))
 (some ((.bool false),[]))))
 (
 br (a0_0 == 4)
 (
 ac V 124 [.str a0_2] fun x9 l10=>
 asB x9 fun b11=>unn l10 (ac V 58 [.int .i64 a0_1,.int .i64 (0),.int .i64 (0)] fun x12 l13=>
 asB x12 fun b14=>unn l13 (br b14
 (
 br b11
 (
 br (a0_3 == 0)
 (some ((.bool (a0_4 == 0)),[]))
 (some ((.bool false),[])))
 (some ((.bool false),[])))
 (some ((.bool false),[])))))
 (
 br (a0_0 == 5)
 (
 ac V 58 [.int .i64 a0_3,.int .i64 (0),(.int .i64 (IntKind.wrap IntKind.i64 (a1_ - 1)))] fun x15 l16=>
 asB x15 fun b17=>unn l16 (ac V 58 [.int .i64 a0_4,.int .i64 (0),(.int .i64 (IntKind.wrap IntKind.i64 (a1_ - 1)))] fun x18 l19=>
 asB x18 fun b20=>unn l19 (ac V 58 [.int .i64 a0_1,.int .i64 (0),.int .i64 (0)] fun x21 l22=>
 asB x21 fun b23=>unn l22 (br b23
 (
 br (ax a0_2 { data:=#[] })
 (
 br b17
 (some ((.bool b20),[]))
 (some ((.bool false),[])))
 (some ((.bool false),[])))
 (some ((.bool false),[]))))))
 (
 br (a0_0 == 6)
 (
 ac V 58 [.int .i64 a0_3,.int .i64 (0),(.int .i64 (IntKind.wrap IntKind.i64 (a1_ - 1)))] fun x24 l25=>
 asB x24 fun b26=>unn l25 (ac V 58 [.int .i64 a0_1,.int .i64 (0),.int .i64 (1000000000)] fun x27 l28=>
 asB x27 fun b29=>unn l28 (br b29
 (
 br (ax a0_2 { data:=#[] })
 (
 br b26
 (some ((.bool (a0_4 == 0)),[]))
 (some ((.bool false),[])))
 (some ((.bool false),[])))
 (some ((.bool false),[])))))
 (
 br (a0_0 == 7)
 (
 ac V 58 [.int .i64 a0_3,.int .i64 (0),(.int .i64 (IntKind.wrap IntKind.i64 (a1_ - 1)))] fun x30 l31=>
 asB x30 fun b32=>unn l31 (ac V 58 [.int .i64 a0_1,.int .i64 (0),.int .i64 (0)] fun x33 l34=>
 asB x33 fun b35=>unn l34 (br b35
 (
 br (ax a0_2 { data:=#[] })
 (
 br b32
 (some ((.bool (a0_4 == 0)),[]))
 (some ((.bool false),[])))
 (some ((.bool false),[])))
 (some ((.bool false),[])))))
 (
 br (a0_0 == 8)
 (
 ac V 58 [.int .i64 a0_1,.int .i64 (0),.int .i64 (99)] fun x36 l37=>
 asB x36 fun b38=>unn l37 (br b38
 (
 br (ax a0_2 { data:=#[] })
 (
 br (a0_3 == 0)
 (some ((.bool (a0_4 == 0)),[]))
 (some ((.bool false),[])))
 (some ((.bool false),[])))
 (some ((.bool false),[]))))
 (
 br (a0_0 == 9)
 (
 ac V 58 [.int .i64 a0_1,.int .i64 (0),.int .i64 (1000000000)] fun x39 l40=>
 asB x39 fun b41=>unn l40 (br b41
 (
 br (ax a0_2 { data:=#[] })
 (
 br (a0_3 == 0)
 (some ((.bool (a0_4 == 0)),[]))
 (some ((.bool false),[])))
 (some ((.bool false),[])))
 (some ((.bool false),[]))))
 (some ((.bool false),[])))))))))):=by
 exact (aX Tryz.func126 rfl _).trans (by kernel_rfl)
theorem mo (p0 p1:List D) (p2 p3:Int) (p4 p5 p6:List D):ga p0 p1 p2 p3 p4 p5 p6 =
 br (decide (p2 < ni p0.length))
 (
 br (p3 == 0)
 (
 br (decide (p2 > 0))
 (
 ac V 237 [.op [.os (5,0) p4,.os (4,0) p5,.os (3,0) p6,.int .i64 p3],(.agg [.int .i64 (9),.int .i64 (0),.int .i64 (0),.str ({ data:=#[] })])] fun x0 l1=>
 asI .i64 x0 fun _=>unc l1 fun x3 l4=>tk2 x3 fun l8 l11 l14 n17=>(unn l4 (grd (decide (0 <= p2) && decide (p2 < ni p0.length)) (az p0 p2.toNat fun x18=>
 asI .i64 x18 fun n19=>ac V 244 [.op [.os (5,0) l8,.os (4,0) l11,.os (3,0) l14,.int .i64 n17],.int .i64 n19,.rs (1,1) p1] fun x20 l21=>
 aP x20 fun l22=>unn l22 (unc l21 fun x23 l24=>tk2 x23 fun l28 l31 l34 n37=>(unn l24 (ga p0 p1 (IntKind.wrap IntKind.i64 (p2 + 1)) n37 l28 l31 l34)))))))
 (
 grd (decide (0 <= p2) && decide (p2 < ni p0.length)) (az p0 p2.toNat fun x38=>
 asI .i64 x38 fun n39=>ac V 244 [.op [.os (5,0) p4,.os (4,0) p5,.os (3,0) p6,.int .i64 p3],.int .i64 n39,.rs (1,1) p1] fun x40 l41=>
 aP x40 fun l42=>unn l42 (unc l41 fun x43 l44=>tk2 x43 fun l48 l51 l54 n57=>(unn l44 (ga p0 p1 (IntKind.wrap IntKind.i64 (p2 + 1)) n57 l48 l51 l54))))))
 (some ((.tup []),[.op [.os (5,0) p4,.os (4,0) p5,.os (3,0) p6,.int .i64 p3]])))
 (some ((.tup []),[.op [.os (5,0) p4,.os (4,0) p5,.os (3,0) p6,.int .i64 p3]])):=by
 exact (cd _ _ _).trans (by kernel_rfl)
theorem zq (a0_0 a0_1 a0_2:List D) (a1_:ByteArray) (a2_:Int):V 24 [.agg [.rs (5,0) a0_0,.rs (4,0) a0_1,.rs (3,0) a0_2],.str a1_,.int .i64 a2_] =
 ac V 77 [.agg [.rs (5,0) a0_0,.rs (4,0) a0_1,.rs (3,0) a0_2],.str a1_] fun x0 l1=>
 aP x0 fun l2=>unc l2 fun x3 l4=>tk4 x3 fun l8 n11 n14 n17 n20 n23 n26 n29=>(unc l4 fun x30 l31=>asB x30 fun b32=>unn l31 (unn l1 (br (!b32)
 (some ((.tup [.agg [.int .i64 (0),.os (5,0) [],.int .i64 (0),.int .i64 (0),.int .i64 (0),.int .i64 (0),.int .i64 (0),.int .i64 (0),.int .i64 (0),.os (1,0) [],.os (1,0) []],.bool false]),[]))
 (
 ac V 26 [.agg [.rs (5,0) a0_0,.rs (4,0) a0_1,.rs (3,0) a0_2],.agg [.int .i64 a2_,.rs (5,0) l8,.int .i64 n11,.int .i64 n14,.int .i64 n17,.int .i64 n20,.int .i64 n23,.int .i64 n26,.int .i64 n29,.rs (1,0) [],.rs (1,0) []]] fun x33 l34=>
 asB x33 fun b35=>unn l34 (br (!b35)
 (some ((.tup [.agg [.int .i64 (0),.os (5,0) [],.int .i64 (0),.int .i64 (0),.int .i64 (0),.int .i64 (0),.int .i64 (0),.int .i64 (0),.int .i64 (0),.os (1,0) [],.os (1,0) []],.bool false]),[]))
 (some ((.tup [.agg [.int .i64 a2_,.os (5,0) l8,.int .i64 n11,.int .i64 n14,.int .i64 n17,.int .i64 n20,.int .i64 n23,.int .i64 n26,.int .i64 n29,.os (1,0) [],.os (1,0) []],.bool true]),[]))))))):=by
 exact (aX Tryz.func24 rfl _).trans (by kernel_rfl)
theorem Dk (a0_0:List D) (a0_1 a0_2:Int) (a1_:List D):V 75 [.op [.rs (1,0) a0_0,.int .i64 a0_1,.int .i64 a0_2],.rs (1,0) a1_] =
 ac V 76 [.op [.rs (1,0) a0_0,.int .i64 a0_1,.int .i64 a0_2],(.int .i64 (ni a1_.length))] fun x0 l1=>
 asI .i64 x0 fun n2=>unc l1 fun x3 l4=>bH x3 fun l5=>unc l5 fun x6 l7=>cu (1,0) x6 fun l8=>unc l7 fun x9 l10=>asI .i64 x9 fun n11=>unc l10 fun x12 l13=>asI .i64 x12 fun n14=>unn l13 (unn l4 (grd (decide (0 <= n2) && decide (n2 < ni a1_.length)) (az a1_ n2.toNat fun x15=>
 asS x15 fun s16=>some ((.str s16),[.op [.rs (1,0) l8,.int .i64 n11,.int .i64 n14]])))):=by
 exact (aX Tryz.func75 rfl _).trans (by kernel_rfl)
theorem jX (p0 p1 p2:Int) (p3 p4 p5 p6:List D):fm p0 p1 p2 p3 p4 p5 p6 =
 br (decide (p1 < p0))
 (
 grd (decide (0 <= p1) && decide (p1 < ni p3.length)) (az p3 p1.toNat fun x28=>
 asS x28 fun s29=>grd (decide (0 <= p0) && decide (p0 < ni p3.length)) (az p3 p0.toNat fun x30=>
 asS x30 fun s31=>br (ax s29 s31)
 (fm p0 (IntKind.wrap IntKind.i64 (p1 + 1)) (2) p3 p4 p5 p6)
 (fm p0 (IntKind.wrap IntKind.i64 (p1 + 1)) p2 p3 p4 p5 p6))))
 (dz (IntKind.wrap IntKind.i64 (p0 + 1)) p2 p3 p4 p5 p6):=by
 exact (cd _ _ _).trans (by kernel_rfl)
theorem lr (p0 p1:Int) (p2:List D) (p3 p4 p5 p6 p7 p8 p9:Int) (p10 p11:List D):gN p0 p1 p2 p3 p4 p5 p6 p7 p8 p9 p10 p11 =
 br (decide (p0 < ni p11.length))
 (
 grd (decide (0 <= p0) && decide (p0 < ni p11.length)) (az p11 p0.toNat fun x23=>
 asS x23 fun s24=>br (decide (ni (ByteArray.size s24) > 400))
 (some ((.bool false),[]))
 (gN (IntKind.wrap IntKind.i64 (p0 + 1)) p1 p2 p3 p4 p5 p6 p7 p8 p9 p10 p11)))
 (some ((.bool true),[])):=by
 exact (cd _ _ _).trans (by kernel_rfl)
theorem GG (p:List D) (k n:Int) (s:ByteArray) (a b:Int):V 158 [.op [.os (5,0) p],.agg [.int .i64 k,.int .i64 n,.str s,.int .i64 a,.int .i64 b]] =
 grd (decide (ni (List.length (p++[D.agg [D.int IntKind.i64 k,D.int IntKind.i64 n,D.str s,D.int IntKind.i64 a,D.int IntKind.i64 b]])) <= LIM)) (nam (p++[D.agg [D.int IntKind.i64 k,D.int IntKind.i64 n,D.str s,D.int IntKind.i64 a,D.int IntKind.i64 b]]) fun l0=>
 some ((.int .i64 (IntKind.wrap IntKind.i64 (ni l0.length - 1))),[.op [.os (5,0) l0]])):=by
 exact (aX Tryz.func158 rfl _).trans (by kernel_rfl)
theorem Bv (b:List D) (i:Int) (k:Bool):V 115 [.op [.os (1,0) b,.int .i64 i,.bool k]] =
 ac V 114 [.op [.os (1,0) b,.int .i64 i,.bool k]] fun x0 l1=>
 asI .i64 x0 fun n2=>unc l1 fun x3 l4=>cr x3 fun l8 n11 b14=>(unn l4 (br (decide (n2 > 3000))
 (fi n2 (0) n11 false l8)
 (fi n2 (0) n11 b14 l8))):=by
 exact (aX Tryz.func115 rfl _).trans (by kernel_rfl)
theorem CZ (a0_0 a0_1 a0_2:List D):V 54 [.agg [.rs (5,0) a0_0,.rs (4,0) a0_1,.rs (3,0) a0_2]] =
 ac V 55 [.agg [.rs (5,0) a0_0]] fun x0 l1=>
 asB x0 fun b2=>unn l1 (br (!b2)
 (some ((.bool false),[]))
 (
 br (decide (ni a0_1.length > 400))
 (some ((.bool false),[]))
 (
 br (decide (ni a0_2.length > 20))
 (some ((.bool false),[]))
 (iK (ni a0_1.length) (0) a0_0 a0_1 a0_2)))):=by
 exact (aX Tryz.func54 rfl _).trans (by kernel_rfl)
theorem ly (p0 p1:Int) (p2 p3 p4:List D):iK p0 p1 p2 p3 p4 =
 br (decide (p1 < p0))
 (
 ac V 123 [.agg [.rs (5,0) p2,.rs (4,0) p3,.rs (3,0) p4],.int .i64 p1] fun x3 l4=>
 asB x3 fun b5=>unn l4 (br (!b5)
 (some ((.bool false),[]))
 (iK p0 (IntKind.wrap IntKind.i64 (p1 + 1)) p2 p3 p4)))
 (gL p4 (ni p4.length) (0) p2 p3 p4):=by
 exact (cd _ _ _).trans (by kernel_rfl)
theorem zh (a0_:ByteArray):V 82 [.str a0_] =
 ac V 146 [.str a0_] fun x0 l1=>
 aP x0 fun l2=>unc l2 fun x3 l4=>asAgg x3 fun l5=>unc l5 fun x6 l7=>aI (5,0) x6 fun _=>unn l7 (unc l4 fun x9 l10=>asI .i64 x9 fun _=>unc l10 fun x12 l13=>asB x12 fun b14=>unn l13 (unn l1 (some ((.bool b14),[])))):=by
 exact (aX Tryz.func82 rfl _).trans (by kernel_rfl)
theorem y3 (p l d:List D) (h:Int) (x:List D):V 231 [.op [.os (5,0) p,.os (4,0) l,.os (3,0) d,.int .i64 h],.rs (1,0) x] =
 br (decide (ni x.length > 4))
 (dN x (0) (1) [] p l d)
 (dN x (0) h [] p l d):=by
 exact (aX Tryz.func231 rfl _).trans (by kernel_rfl)
theorem za (a0_0:List D):V 70 [.agg [.rs (5,0) a0_0]] =
 ac V 69 [(.int .i64 (ni a0_0.length))] fun x0 l1=>
 aI (1,0) x0 fun l2=>unn l1 (aY (0) a0_0 l2):=by
 exact (aX Tryz.func70 rfl _).trans (by kernel_rfl)
end Go.Eng
/-! the functions as the interpreter has them -/
namespace Go.Eng
open Go.Proofs Go.Proofs.Tryz
set_option maxRecDepth 100000
theorem wL (p0:ByteArray) (p1:Int) (p2 p3 p4 p5:List D):cg p0 p1 p2 p3 p4 p5 =
 br (decide (p1 < ni (ByteArray.size p0)))
 (
 grd (decide (0 <= p1) && decide (p1 < ni (ByteArray.size p0))) (br (bt p0 p1 == 32)
 (cg p0 (IntKind.wrap IntKind.i64 (p1 + 1)) p2 p3 p4 p5)
 (
 br (bt p0 p1 == 40)
 (grd (decide
 (ni
 (List.length
 (p4 ++
 [D.agg
 [D.int IntKind.i64 p1,
 D.os
 (TypeInfo.size (Tables.types (Program.toTables Tryz.prog))[3],
 match m6 Tryz.prog (3) with
 | true=>0
 | false=>1)
 []]])) <=
 LIM)) (nam (p4 ++
 [D.agg
 [D.int IntKind.i64 p1,
 D.os
 (TypeInfo.size (Tables.types (Program.toTables Tryz.prog))[3],
 match m6 Tryz.prog (3) with
 | true=>0
 | false=>1)
 []]]) fun l15=>
 cg p0 (IntKind.wrap IntKind.i64 (p1 + 1)) p2 p3 l15 p5))
 (
 br (bt p0 p1 == 41)
 (
 br (IntKind.wrap IntKind.i64 (ni p4.length - 1) == 0)
 (
 ac V 147 [.agg [.rs (5,0) p2]] fun x16 l17=>
 asAgg x16 fun l18=>unc l18 fun x19 l20=>aI (5,0) x19 fun l21=>unn l20 (unn l17 (some ((.tup [.agg [.os (5,0) l21],.os (1,0) p3,.int .i64 (5),.int .i64 p1]),[]))))
 (
 grd (decide (0 <= IntKind.wrap IntKind.i64 (ni p4.length - 1)) && decide (IntKind.wrap IntKind.i64 (ni p4.length - 1) < ni p4.length)) (az p4 (Int.toNat (IntKind.wrap IntKind.i64 (ni p4.length - 1))) fun x22=>
 asAgg x22 fun l23=>az l23 1 fun x24=>
 aI (1,0) x24 fun l25=>asAgg x22 fun l26=>ac V 210 [.op [.os (5,0) p5],.rs (1,0) l25] fun x27 l28=>
 asI .i64 x27 fun n29=>unc l28 fun x30 l31=>bH x30 fun l32=>unc l32 fun x33 l34=>aI (5,0) x33 fun l35=>unn l34 (unn l31 (grd (bi (List.length (List.set p4 (Int.toNat (IntKind.wrap IntKind.i64 (ni p4.length - 1))) (D.agg (List.take 1 l26++[D.dead]++List.drop 2 l26)))) none (some (IntKind.wrap IntKind.i64 (ni p4.length - 1)))) (grd (decide (0 <= IntKind.wrap IntKind.i64 (IntKind.wrap IntKind.i64 (ni p4.length - 1) - 1)) && decide (IntKind.wrap IntKind.i64 (IntKind.wrap IntKind.i64 (ni p4.length - 1) - 1) < ni (Int.toNat (IntKind.wrap IntKind.i64 (ni p4.length - 1)))) && decide (0 + Int.toNat (IntKind.wrap IntKind.i64 (ni p4.length - 1)) <= List.length (List.set p4 (Int.toNat (IntKind.wrap IntKind.i64 (ni p4.length - 1))) (D.agg (List.take 1 l26++[D.dead]++List.drop 2 l26))))) (az (List.set p4 (Int.toNat (IntKind.wrap IntKind.i64 (ni p4.length - 1))) (D.agg (List.take 1 l26++[D.dead]++List.drop 2 l26))) (0 + Int.toNat (IntKind.wrap IntKind.i64 (IntKind.wrap IntKind.i64 (ni p4.length - 1) - 1))) fun x36=>
 asAgg x36 fun l37=>az l37 1 fun x38=>
 aI (1,0) x38 fun l39=>asAgg x36 fun l40=>grd (decide (ni (List.length (l39++[D.int IntKind.i64 n29])) <= LIM)) (nam (l39++[D.int IntKind.i64 n29]) fun l41=>
 grd (decide (0 <= IntKind.wrap IntKind.i64 (IntKind.wrap IntKind.i64 (ni p4.length - 1) - 1)) && decide (IntKind.wrap IntKind.i64 (IntKind.wrap IntKind.i64 (ni p4.length - 1) - 1) < ni (Int.toNat (IntKind.wrap IntKind.i64 (ni p4.length - 1)))) && decide (0 + Int.toNat (IntKind.wrap IntKind.i64 (ni p4.length - 1)) <= List.length (List.set (List.set p4 (Int.toNat (IntKind.wrap IntKind.i64 (ni p4.length - 1))) (D.agg (List.take 1 l26++[D.dead]++List.drop 2 l26))) (0 + Int.toNat (IntKind.wrap IntKind.i64 (IntKind.wrap IntKind.i64 (ni p4.length - 1) - 1))) (D.agg (List.take 1 l40++[D.dead]++List.drop 2 l40))))) (az (List.set (List.set p4 (Int.toNat (IntKind.wrap IntKind.i64 (ni p4.length - 1))) (D.agg (List.take 1 l26++[D.dead]++List.drop 2 l26))) (0 + Int.toNat (IntKind.wrap IntKind.i64 (IntKind.wrap IntKind.i64 (ni p4.length - 1) - 1))) (D.agg (List.take 1 l40++[D.dead]++List.drop 2 l40))) (0 + Int.toNat (IntKind.wrap IntKind.i64 (IntKind.wrap IntKind.i64 (ni p4.length - 1) - 1))) fun x42=>
 asAgg x42 fun l43=>nam (List.set (List.set (List.set p4 (Int.toNat (IntKind.wrap IntKind.i64 (ni p4.length - 1))) (D.agg (List.take 1 l26++[D.dead]++List.drop 2 l26))) (0 + Int.toNat (IntKind.wrap IntKind.i64 (IntKind.wrap IntKind.i64 (ni p4.length - 1) - 1))) (D.agg (List.take 1 l40++[D.dead]++List.drop 2 l40))) (0 + Int.toNat (IntKind.wrap IntKind.i64 (IntKind.wrap IntKind.i64 (ni p4.length - 1) - 1)))
 (D.agg
 (List.take 1 l43 ++
 [D.os
 (TypeInfo.size (Tables.types (Program.toTables Tryz.prog))[3],
 match m6 Tryz.prog (3) with
 | true=>0
 | false=>1)
 l41] ++
 List.drop 2 l43))) fun l44=>
 bZ p0 (Int.toNat (IntKind.wrap IntKind.i64 (ni p4.length - 1))) (IntKind.wrap IntKind.i64 (p1 + 1)) p2 p3 l44 l35)))))))))
 (
 ac V 211 [.int .u8 (bt p0 p1)] fun x45 l46=>
 asB x45 fun b47=>unn l46 (br b47
 (eW p0 p1 (IntKind.wrap IntKind.i64 (ni p4.length - 1)) p1 p2 p3 p4 p5)
 (
 ac V 147 [.agg [.rs (5,0) p2]] fun x48 l49=>
 asAgg x48 fun l50=>unc l50 fun x51 l52=>aI (5,0) x51 fun l53=>unn l52 (unn l49 (some ((.tup [.agg [.os (5,0) l53],.os (1,0) p3,.int .i64 (2),.int .i64 p1]),[]))))))))))
 (
 br (decide (ni p4.length > 1))
 (
 ac V 147 [.agg [.rs (5,0) p2]] fun x54 l55=>
 asAgg x54 fun l56=>unc l56 fun x57 l58=>aI (5,0) x57 fun l59=>unn l58 (unn l55 (grd (decide (0 <= IntKind.wrap IntKind.i64 (ni p4.length - 1)) && decide (IntKind.wrap IntKind.i64 (ni p4.length - 1) < ni p4.length)) (az p4 (Int.toNat (IntKind.wrap IntKind.i64 (ni p4.length - 1))) fun x60=>
 asAgg x60 fun l61=>az l61 0 fun x62=>
 asI .i64 x62 fun n63=>some ((.tup [.agg [.os (5,0) l59],.os (1,0) p3,.int .i64 (4),.int .i64 n63]),[])))))
 (
 ac V 60 [.agg [.rs (5,0) p5]] fun x64 l65=>
 asB x64 fun b66=>unn l65 (br (!b66)
 (
 ac V 147 [.agg [.rs (5,0) p2]] fun x67 l68=>
 asAgg x67 fun l69=>unc l69 fun x70 l71=>aI (5,0) x70 fun l72=>unn l71 (unn l68 (some ((.tup [.agg [.os (5,0) l72],.os (1,0) p3,.int .i64 (6),.int .i64 (0)]),[]))))
 (
 grd (decide (0 <= 0) && decide (0 < ni p4.length)) (az p4 0 fun x73=>
 asAgg x73 fun l74=>az l74 1 fun x75=>
 aI (1,0) x75 fun l76=>asAgg x73 fun l77=>grd (decide (ni (List.length ([]++l76)) <= LIM)) (nam ([]++l76) fun l78=>
 some ((.tup [.agg [.os (5,0) p5],.os (1,0) l78,.int .i64 (0),(.int .i64 (ni (ByteArray.size p0)))]),[]))))))):=by
 exact (cd _ _ _).trans (by kernel_rfl)
theorem zj :V 213 [] =
 some ((.os (1,0) [.str ({ data:=#[40,100,101,102,105,110,101,32,40,102,32,110,41,32,40,105,102,32,40,60,32,110,32,50,41,32,110,32,40,43,32,40,102,32,40,45,32,110,32,49,41,41,32,40,102,32,40,45,32,110,32,50,41,41,41,41,41,32,40,102,32,54,41] }),(.str ({ data:=List.toArray (List.append [40,100,101,102,105,110,101,32,40,117,112,32,110,41,32,40,105,102,32,40,60,32,110,32,51,41,32,40,100,111,32,40] [112,114,105,110,116,32,110,41,32,40,117,112,32,40,43,32,110,32,49,41,41,41,32,110,41,41,32,40,117,112,32,48,41]) })),.str ({ data:=#[40,108,101,116,32,120,32,53,32,40,108,101,116,32,102,32,40,102,110,32,40,121,41,32,40,43,32,120,32,121,41,41,32,40,112,114,105,110,116,32,40,102,32,52,41,41,41,41] }),.str ({ data:=#[40,112,114,105,110,116,32,40,99,97,108,108,99,99,32,40,102,110,32,40,107,41,32,40,100,111,32,40,107,32,55,41,32,56,41,41,41,41] }),(.str ({ data:=List.toArray (List.append [40,100,101,102,105,110,101,32,40,109,97,112,32,102,32,108,41,32,40,105,102,32,40,110,117,108,108,63,32,108,41,32,40,41,32,40,99,111,110,115,32,40,102,32,40,99,97,114,32,108,41,41,32,40,109,97,112,32,102] [32,40,99,100,114,32,108,41,41,41,41,41,32,40,112,114,105,110,116,32,40,109,97,112,32,40,102,110,32,40,120,41,32,40,42,32,120,32,120,41,41,32,40,113,117,111,116,101,32,40,49,32,50,32,51,41,41,41,41]) })),.str ({ data:=#[40,100,111,32,40,115,112,97,119,110,32,40,102,110,32,40,41,32,40,100,111,32,40,112,114,105,110,116,32,49,41,32,40,112,114,105,110,116,32,50,41,41,41,41,32,40,112,114,105,110,116,32,51,41,41] }),(.str ({ data:=List.toArray (List.append [40,108,101,116,32,112,32,40,115,112,97,119,110,32,40,102,110,32,40,41,32,40,112,114,105,110,116,32,40,114,101,99,118,41] [41,41,41,32,40,100,111,32,40,115,101,110,100,32,112,32,40,113,117,111,116,101,32,40,97,32,98,41,41,41,32,48,41,41]) })),(.str ({ data:=List.toArray (List.append [40,108,101,116,32,112,32,40,115,112,97,119,110,32,40,102,110,32,40,41,32,40,108,101,116,32,102,32,40,114,101,99,118,41,32,40,112,114,105,110,116,32,40,102] [32,53,41,41,41,41,41,32,40,108,101,116,32,122,32,57,32,40,115,101,110,100,32,112,32,40,102,110,32,40,120,41,32,40,43,32,120,32,122,41,41,41,41,41]) })),.str ({ data:=#[40,100,111,32,40,112,114,105,110,116,32,49,41,32,40,103,111,32,49,41,32,40,112,114,105,110,116,32,50,41,32,40,103,111,32,48,41,32,40,112,114,105,110,116,32,51,41,41] }),(.str ({ data:=List.toArray (List.append [40,108,101,116,32,109,101,32,40,115,101,108,102,41,32,40,100,111,32,40,115,112,97,119,110,32,40,102,110,32,40,41,32,40,100,111,32,40] [103,111,32,49,41,32,40,115,101,110,100,32,109,101,32,52,50,41,41,41,41,32,40,112,114,105,110,116,32,40,114,101,99,118,41,41,41,41]) })),(.str ({ data:=List.toArray (List.append [40,100,101,102,105,110,101,32,40,108,111,111,112,32,110,41,32,40,105,102,32,40,61,32,110,32,48,41,32,40,112,114,105,110,116,32,40] [113,117,111,116,101,32,101,110,100,41,41,32,40,108,111,111,112,32,40,45,32,110,32,49,41,41,41,41,32,40,108,111,111,112,32,57,41]) })),.str ({ data:=#[40,112,114,105,110,116,32,40,99,97,114,32,40,113,117,111,116,101,32,40,41,41,41,41] }),.str ({ data:=#[40,112,114,105,110,116,32,40,102,32,49,41,41] }),.str ({ data:=#[40,43,32,49,32,35,116,41] }),.str ({ data:=#[40,112,114,105,110,116,32,40,99,111,110,115,32,49,32,40,99,111,110,115,32,50,32,40,41,41,41,41] }),(.str ({ data:=List.toArray (List.append (List.append [40,100,101,102,105,110,101,32,40,112,105,110,103,32,112,32,110,41,32,40,105,102,32,40,60,32,110,32,49,41,32,48,32,40,100,111,32,40,115,101,110,100,32,112,32] [110,41,32,40,112,114,105,110,116,32,40,114,101,99,118,41,41,32,40,112,105,110,103,32,112,32,40,45,32,110,32,49,41,41,41,41,41,32,40,108,101,116,32,109,101,32]) (List.append [40,115,101,108,102,41,32,40,112,105,110,103,32,40,115,112,97,119,110,32,40,102,110,32,40,41,32,40,100,111,32,40,103,111,32,49,41,32,40,115,101,110,100,32,109,101] [32,40,43,32,49,48,32,40,114,101,99,118,41,41,41,32,40,115,101,110,100,32,109,101,32,40,43,32,49,48,32,40,114,101,99,118,41,41,41,41,41,41,32,50,41,41])) })),(.str ({ data:=List.toArray (List.append [40,108,101,116,32,107,32,40,99,97,108,108,99,99,32,40,102,110,32,40,99,41,32,99,41,41,32,40,105,102,32,40,112,97,105,114,63] [32,107,41,32,40,112,114,105,110,116,32,40,99,97,114,32,107,41,41,32,40,107,32,40,113,117,111,116,101,32,40,53,41,41,41,41,41]) })),(.str ({ data:=List.toArray (List.append [40,108,101,116,32,112,32,40,115,112,97,119,110,32,40,102,110,32,40,41,32,40,100,111,32,40,103,111,32,49,41,32,40,108,101,116,32,107,32,40,114,101,99,118,41,32,40,107,32,56] [41,41,41,41,41,32,40,112,114,105,110,116,32,40,99,97,108,108,99,99,32,40,102,110,32,40,107,41,32,40,100,111,32,40,115,101,110,100,32,112,32,107,41,32,51,41,41,41,41,41]) }))]),[]):=by
 exact (aX Tryz.func213 rfl _).trans (by kernel_rfl)
theorem zw (a0_0:List D) (a0_1 a0_2 a1_0 a1_1:Int) (a1_2:ByteArray) (a1_3 a1_4:Int):V 156 [.op [.rs (1,0) a0_0,.int .i64 a0_1,.int .i64 a0_2],.agg [.int .i64 a1_0,.int .i64 a1_1,.str a1_2,.int .i64 a1_3,.int .i64 a1_4]] =
 ac V 76 [.op [.rs (1,0) a0_0,.int .i64 a0_1,.int .i64 a0_2],.int .i64 (8)] fun x0 l1=>
 asI .i64 x0 fun n2=>unc l1 fun x3 l4=>Gu x3 fun l8 n11 n14=>(unn l4 (br (n2 == 0)
 (
 ac V 76 [.op [.rs (1,0) l8,.int .i64 n11,.int .i64 n14],.int .i64 (11)] fun x15 l16=>
 asI .i64 x15 fun n17=>unc l16 fun x18 l19=>Gu x18 fun l23 n26 n29=>(unn l19 (some ((.agg [.int .i64 n17,.int .i64 a1_1,.str a1_2,.int .i64 a1_3,.int .i64 a1_4]),[.op [.rs (1,0) l23,.int .i64 n26,.int .i64 n29]]))))
 (
 br (n2 == 1)
 (
 ac V 76 [.op [.rs (1,0) l8,.int .i64 n11,.int .i64 n14],.int .i64 (20)] fun x30 l31=>
 asI .i64 x30 fun n32=>unc l31 fun x33 l34=>Gu x33 fun l38 n41 n44=>(unn l34 (some ((.agg [.int .i64 a1_0,.int .i64 a1_1,.str a1_2,(.int .i64 (IntKind.wrap IntKind.i64 (n32 - 1))),.int .i64 a1_4]),[.op [.rs (1,0) l38,.int .i64 n41,.int .i64 n44]]))))
 (
 br (n2 == 2)
 (
 ac V 76 [.op [.rs (1,0) l8,.int .i64 n11,.int .i64 n14],.int .i64 (20)] fun x45 l46=>
 asI .i64 x45 fun n47=>unc l46 fun x48 l49=>Gu x48 fun l53 n56 n59=>(unn l49 (some ((.agg [.int .i64 a1_0,.int .i64 a1_1,.str a1_2,.int .i64 a1_3,(.int .i64 (IntKind.wrap IntKind.i64 (n47 - 1)))]),[.op [.rs (1,0) l53,.int .i64 n56,.int .i64 n59]]))))
 (
 br (n2 == 3)
 (
 ac V 122 [.op [.rs (1,0) l8,.int .i64 n11,.int .i64 n14],(.rs (1,0) [.int .i64 (-1),.int .i64 (2),.int .i64 (99),.int .i64 (100),.int .i64 (1000000000),.int .i64 (1000000001),.int .i64 (-1000000000),.int .i64 (-1000000001)])] fun x60 l61=>
 asI .i64 x60 fun n62=>unc l61 fun x63 l64=>Gu x63 fun l68 n71 n74=>(unn l64 (some ((.agg [.int .i64 a1_0,.int .i64 n62,.str a1_2,.int .i64 a1_3,.int .i64 a1_4]),[.op [.rs (1,0) l68,.int .i64 n71,.int .i64 n74]]))))
 (
 br (n2 == 4)
 (
 ac V 75 [.op [.rs (1,0) l8,.int .i64 n11,.int .i64 n14],(.rs (1,0) [.str ({ data:=#[] }),.str ({ data:=#[97] }),.str ({ data:=#[65,98] }),.str ({ data:=#[97,98,99,100,101,102,103,104,105,106,107,108] }),.str ({ data:=#[97,98,99,100,101,102,103,104,105,106,107,108,109] }),.str ({ data:=#[97,49] })])] fun x75 l76=>
 asS x75 fun s77=>unc l76 fun x78 l79=>Gu x78 fun l83 n86 n89=>(unn l79 (some ((.agg [.int .i64 a1_0,.int .i64 a1_1,.str s77,.int .i64 a1_3,.int .i64 a1_4]),[.op [.rs (1,0) l83,.int .i64 n86,.int .i64 n89]]))))
 (some ((.agg [.int .i64 a1_0,.int .i64 a1_1,.str a1_2,.int .i64 a1_3,.int .i64 a1_4]),[.op [.rs (1,0) l8,.int .i64 n11,.int .i64 n14]])))))))):=by
 exact (aX Tryz.func156 rfl _).trans (by kernel_rfl)
theorem qP (a0_0:List D) (a0_1 a0_2:Int):V 192 [.op [.rs (1,0) a0_0,.int .i64 a0_1,.int .i64 a0_2]] =
 ac V 155 [.op [.rs (1,0) a0_0,.int .i64 a0_1,.int .i64 a0_2],.int .i64 (4)] fun x0 l1=>
 asB x0 fun b2=>unc l1 fun x3 l4=>bH x3 fun l5=>unc l5 fun x6 l7=>cu (1,0) x6 fun l8=>unc l7 fun x9 l10=>asI .i64 x9 fun n11=>unc l10 fun x12 l13=>asI .i64 x12 fun n14=>unn l13 (unn l4 (br (!b2)
 (
 ac V 213 [] fun x15 l16=>
 aI (1,0) x15 fun l17=>unn l16 (ac V 75 [.op [.rs (1,0) l8,.int .i64 n11,.int .i64 n14],.rs (1,0) l17] fun x18 l19=>
 asS x18 fun s20=>unc l19 fun x21 l22=>bH x21 fun l23=>unc l23 fun x24 l25=>cu (1,0) x24 fun l26=>unc l25 fun x27 l28=>asI .i64 x27 fun n29=>unc l28 fun x30 l31=>asI .i64 x30 fun n32=>unn l31 (unn l22 (some ((.str s20),[.op [.rs (1,0) l26,.int .i64 n29,.int .i64 n32]])))))
 (
 ac V 214 [.op [.rs (1,0) l8,.int .i64 n11,.int .i64 n14],.int .i64 (3)] fun x33 l34=>
 asS x33 fun s35=>unc l34 fun x36 l37=>bH x36 fun l38=>unc l38 fun x39 l40=>cu (1,0) x39 fun l41=>unc l40 fun x42 l43=>asI .i64 x42 fun n44=>unc l43 fun x45 l46=>asI .i64 x45 fun n47=>unn l46 (unn l37 (some ((.str s35),[.op [.rs (1,0) l41,.int .i64 n44,.int .i64 n47]])))))):=by
 exact (aX Tryz.func192 rfl _).trans (by kernel_rfl)
theorem wz (a0_0:List D) (a0_1 a0_2:Int) (a1_:List D):V 122 [.op [.rs (1,0) a0_0,.int .i64 a0_1,.int .i64 a0_2],.rs (1,0) a1_] =
 ac V 76 [.op [.rs (1,0) a0_0,.int .i64 a0_1,.int .i64 a0_2],(.int .i64 (ni a1_.length))] fun x0 l1=>
 asI .i64 x0 fun n2=>unc l1 fun x3 l4=>bH x3 fun l5=>unc l5 fun x6 l7=>cu (1,0) x6 fun l8=>unc l7 fun x9 l10=>asI .i64 x9 fun n11=>unc l10 fun x12 l13=>asI .i64 x12 fun n14=>unn l13 (unn l4 (grd (decide (0 <= n2) && decide (n2 < ni a1_.length)) (az a1_ n2.toNat fun x15=>
 asI .i64 x15 fun n16=>some ((.int .i64 n16),[.op [.rs (1,0) l8,.int .i64 n11,.int .i64 n14]])))):=by
 exact (aX Tryz.func122 rfl _).trans (by kernel_rfl)
theorem i6 (p0:List D) (p1:ByteArray) (p2 p3:Int):fG p0 p1 p2 p3 =
 br (decide (p3 < p2))
 (
 grd (decide (0 <= p3) && decide (p3 < ni p0.length)) (az p0 p3.toNat fun x0=>
 Pf x0 fun s4 n7 n10=>(ac V 179 [.agg [.str s4,.int .i64 n7,.int .i64 n10],(.bp [.str p1])] fun x11 l12=>
 asB x11 fun b13=>unn l12 (br b13
 (some ((.int .i64 p3),[]))
 (fG p0 p1 p2 (IntKind.wrap IntKind.i64 (p3 + 1)))))))
 (some ((.int .i64 (-1)),[])):=by
 exact (cd _ _ _).trans (by kernel_rfl)
theorem tN (b:List D) (i:Int) (k:Bool) :V 190 [.op [.os (1,0) b,.int .i64 i,.bool k]] =
 ac V 209 [.rs (1,0) b,.int .i64 i] fun x0 l1=>
 CH x0 fun s5 n8 b11=>(unn l1 (br (!b11)
 (some ((.str ({ data:=#[] })),[.op [.os (1,0) b,.int .i64 i,.bool false]]))
 (some ((.str s5),[.op [.os (1,0) b,.int .i64 n8,.bool k]])))):=by
 exact (aX Tryz.func190 rfl _).trans (by kernel_rfl)
theorem DR (a0_0 a1_:List D):V 86 [.agg [.rs (5,0) a0_0],.rs (1,0) a1_] =
 ac V 149 [.agg [.rs (5,0) a0_0],.rs (1,0) a1_] fun x0 l1=>
 aI (1,0) x0 fun l2=>unn l1 (ac V 148 [.op [.os (5,0) []],(.agg [.rs (5,0) a0_0]),.rs (1,0) l2] fun x3 l4=>
 aI (1,0) x3 fun l5=>unc l4 fun x6 l7=>bH x6 fun l8=>unc l8 fun x9 l10=>aI (5,0) x9 fun l11=>unn l10 (unn l7 (iU a1_ (0) l5 [] l11))):=by
 exact (aX Tryz.func86 rfl _).trans (by kernel_rfl)
theorem lU (p0:Int) (p1 p2 p3:List D):i0 p0 p1 p2 p3 =
 br (decide (p0 < ni p2.length))
 (
 ac V 127 [.agg [.rs (5,0) p1,.rs (4,0) p2,.rs (3,0) p3],.int .i64 p0] fun x3 l4=>
 asB x3 fun b5=>unn l4 (br (!b5)
 (some ((.bool false),[]))
 (i0 (IntKind.wrap IntKind.i64 (p0 + 1)) p1 p2 p3)))
 (ir (0) p1 p2 p3):=by
 exact (cd _ _ _).trans (by kernel_rfl)
theorem zk (a0_0 a1_:List D):V 193 [.agg [.rs (5,0) a0_0],.rs (1,0) a1_] =
 ac V 60 [.agg [.rs (5,0) a0_0]] fun x0 l1=>
 asB x0 fun b2=>unn l1 (br (!b2)
 (some ((.tup [.agg [.os (5,0) [],.os (4,0) [],.os (3,0) []],.int .i64 (3),.int .i64 (0)]),[]))
 (gK a1_ (0) a0_0)):=by
 exact (aX Tryz.func193 rfl _).trans (by kernel_rfl)
theorem uy (a0_:Int):V 211 [.int .u8 a0_] =
 ac V 180 [.int .u8 a0_] fun x0 l1=>
 asB x0 fun b2=>unn l1 (br b2
 (some ((.bool true),[]))
 (
 ac V 226 [.int .u8 a0_] fun x3 l4=>
 asB x3 fun b5=>unn l4 (br b5
 (some ((.bool true),[]))
 (some ((.bool (a0_ == 35)),[]))))):=by
 exact (aX Tryz.func211 rfl _).trans (by kernel_rfl)
theorem yU (a0_:ByteArray):V 139 [.str a0_] =
 ac V 69 [(.int .i64 (ni (ByteArray.size a0_)))] fun x0 l1=>
 aI (1,0) x0 fun l2=>unn l1 (grd (decide (ni (List.length (l2++gB a0_)) <= LIM)) (nam (l2++gB a0_) fun l3=>
 some ((.os (1,0) l3),[]))):=by
 exact (aX Tryz.func139 rfl _).trans (by kernel_rfl)
theorem kZ (a0_:List D) (a1_:Int):V 203 [.rs (1,0) a0_,.int .u8 a1_] =
 ac V 221 [.rs (1,0) a0_,.int .u8 a1_] fun x0 l1=>
 asI .i64 x0 fun n2=>unn l1 (some ((.bool (decide (n2 >= 0))),[])):=by
 exact (aX Tryz.func203 rfl _).trans (by kernel_rfl)
theorem tH (a0_0:List D) (a0_1 a0_2:Int):V 142 [.op [.rs (1,0) a0_0,.int .i64 a0_1,.int .i64 a0_2]] =
 dW (0) a0_0 a0_1 a0_2:=by
 exact (aX Tryz.func142 rfl _).trans (by kernel_rfl)
theorem Ck (a0_0:List D):V 55 [.agg [.rs (5,0) a0_0]] =
 iw a0_0 (ni a0_0.length) (0) a0_0:=by
 exact (aX Tryz.func55 rfl _).trans (by kernel_rfl)
theorem Nw (a0_:List D):V 12 [.rs (1,0) a0_] =
 some ((.bool (decide (ni a0_.length > 1048576))),[]):=by
 exact (aX Tryz.func12 rfl _).trans (by kernel_rfl)

end Go.Eng
