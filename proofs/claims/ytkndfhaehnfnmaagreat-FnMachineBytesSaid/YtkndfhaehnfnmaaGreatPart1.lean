/- the program and the reference on plain data, part 1 -/
import Derived.Test.YtkndfhaehnfnmaaGreatEngC
import Derived.Test.YtkndfhaehnfnmaaGreatProg
/-! bytes,texts,digits: plain facts -/
namespace Go.Eng
noncomputable section

def mk (l : List UInt8) : ByteArray := ⟨l.toArray⟩
theorem yO (l : List UInt8) : (mk l).size = l.length := by simp [mk,ByteArray.size]
theorem Se (a b : List UInt8) : mk a ++ mk b = mk (a ++ b) := by
 apply ByteArray.ext
 simp [mk]
theorem UC (l : List UInt8) : (mk l).data.toList = l := by simp [mk]
theorem Ql (s : ByteArray) : mk s.data.toList = s := by
 apply ByteArray.ext
 simp [mk]
theorem mk_inj {a b : List UInt8} : mk a = mk b ↔ a = b := by
 constructor
 ·intro h
  have := congrArg (fun s => s.data.toList) h
  simpa [UC] using this
 ·rintro rfl; rfl
theorem OL (s : ByteArray) : ∀ (k i : Nat) (acc : List UInt8),k = s.size - i -> ByteArray.toList.loop s i acc = acc.reverse ++ s.data.toList.drop i
 | 0,i,acc,h => by
  unfold ByteArray.toList.loop
  have hs : s.data.toList.length = s.size := by rw [Array.length_toList]; rfl
  rw [if_neg (by omega),List.drop_of_length_le (by omega),List.append_nil]
 | k + 1,i,acc,h => by
  unfold ByteArray.toList.loop
  have hs : s.data.toList.length = s.size := by rw [Array.length_toList]; rfl
  rw [if_pos (by omega),OL s k (i + 1) _ (by omega)]
  have hi : i < s.data.toList.length := by omega
  rw [List.drop_eq_getElem_cons hi]
  have hi' : i < s.data.size := by simpa using hi
  have hg : s.get! i = s.data.toList[i] := by
   show s.data[i]! = _
   rw [getElem!_pos s.data i hi',Array.getElem_toList]
  rw [hg]
  simp
theorem OJ (s : ByteArray) : s.toList = s.data.toList := by
 have := OL s s.size 0 [] (by omega)
 rw [List.reverse_nil,List.nil_append,List.drop_zero] at this
 exact this
theorem Bv (x y : ByteArray) : kc x y = decide (x = y) := by
 unfold kc
 rw [OJ,OJ]
 by_cases h : x = y
 ·subst h; simp
 ·have h2 : ¬ x.data.toList = y.data.toList := by
   intro e; apply h; rw [<- Ql x,<- Ql y,e]
  rw [decide_eq_false h]
  exact beq_eq_false_iff_ne.2 h2
theorem IL (a b : List UInt8) : kc (mk a) (mk b) = decide (a = b) := by
 rw [Bv]; simp only [mk_inj]
abbrev eU (b : UInt8) : D := .int .u8 (b.toNat : Int)
theorem RL {l : List UInt8} {i : Nat} {x : UInt8} (h : l[i]? = some x) : bt (mk l) (i : Int) = (x.toNat : Int) := by
 simp only [bt,UC,Int.toNat_natCast]
 rw [List.getD_eq_getElem?_getD,h]; rfl
theorem FM (l : List UInt8) (a b : Nat) : (mk l).extract a b = mk ((l.drop a).take (b - a)) := by
 apply ByteArray.ext
 simp [mk,ByteArray.data_extract,List.extract_eq_take_drop]
theorem Ir (l : List UInt8) : gU (mk l) = l.map eU := by simp [gU,UC]
theorem BU {R : Type} (l : List UInt8) (K : ByteArray -> Option R) : gy (l.map eU) K = K (mk l) := by
 have hm : ∀ (f : D -> Option UInt8),(∀ x : UInt8,f (eU x) = some x) -> ∀ l : List UInt8,(l.map eU).mapM f = some l := by
  intro f hf l
  induction l with
  | nil => rfl
  | cons x l ih => rw [List.map_cons,List.mapM_cons,hf,ih]; rfl
 unfold gy
 rw [hm _ (fun x => by simp [])]; rfl
theorem XT {R : Type} (n : Int) (K : ByteArray -> Option R) : gy [.int .u8 n] K = K (mk [UInt8.ofNat n.toNat]) := rfl
theorem KE {n : Int} (h0 : 0 <= n) (h1 : n < 256) : IntKind.wrap .u8 n = n := by
 simp [IntKind.wrap,IntKind.bits,IntKind.signed]; omega

def Iw (n : Nat) : List UInt8 := if n < 10 then [UInt8.ofNat (48 + n)] else Iw (n / 10) ++ [UInt8.ofNat (48 + n % 10)]
termination_by n
def IV (n : Int) : List UInt8 := if n < 0 then 45 :: Iw n.natAbs else Iw n.natAbs
theorem AC {n : Nat} (h : n < 10) : Iw n = [UInt8.ofNat (48 + n)] := by rw [Iw,if_pos h]
theorem JE {n : Nat} (h : ¬ n < 10) : Iw n = Iw (n / 10) ++ [UInt8.ofNat (48 + n % 10)] := by rw [Iw,if_neg h]
theorem Vq : ∀ (k n : Nat),n < 10 ^ (k + 1) -> (Iw n).length <= k + 1
 | 0,n,h => by rw [AC (by simpa using h)]; simp
 | k + 1,n,h => by
  by_cases h10 : n < 10
  ·rw [AC h10]; simp
  ·rw [JE h10]
   have := Vq k (n / 10) (by rw [Nat.pow_succ] at h; omega)
   simp; omega
theorem aan (n : Nat) : 0 < (Iw n).length := by
 by_cases h10 : n < 10
 ·rw [AC h10]; simp
 ·rw [JE h10]; simp
end
end Go.Eng
/-! the functions as the interpreter has them: loop heads -/
namespace Go.Eng
noncomputable section
open Go.Proofs Go.Proofs.Tryz
set_option maxRecDepth 100000
def cf0:Cfg:={ ext:=fun _=>none,own:=fun f=>match f with | 13=>false | 23=>false | 27=>false | 30=>false | 43=>false | 44=>false | 51=>false | 52=>false | 112=>false | _=>true,mode:=fun f i=>match f,i with | 40,0=>.mut | 41,0=>.mut | 49,0=>.mut | 108,0=>.mut | 109,0=>.mut | 110,0=>.mut | 169,0=>.mut | 183,0=>.mut | 73,0=>.mv | 162,0=>.mv | 101,1=>.mv | 172,2=>.mv | _,_=>.ro }
abbrev iN:Int->D:=D.int IntKind.i64
abbrev tk1 {R:Type} (x:D) (K:Int->Int->ByteArray->Int->Int->Option R):Option R:=asAgg x fun l=>unc l fun x0 l0=>asI .i64 x0 fun v0=>unc l0 fun x1 l1=>asI .i64 x1 fun v1=>unc l1 fun x2 l2=>asS x2 fun v2=>unc l2 fun x3 l3=>asI .i64 x3 fun v3=>unc l3 fun x4 l4=>asI .i64 x4 fun v4=>unn l4 (K v0 v1 v2 v3 v4)
@[congr] theorem adv {R:Type} {x y:D} (h:x = y) (K:_):tk1 (R:=R) x K = tk1 y K:=by rw [h]
abbrev tk2 {R:Type} (x:D) (K:ByteArray->Int->Int->Option R):Option R:=asAgg x fun l=>unc l fun x0 l0=>asS x0 fun v0=>unc l0 fun x1 l1=>asI .i64 x1 fun v1=>unc l1 fun x2 l2=>asI .i64 x2 fun v2=>unn l2 (K v0 v1 v2)
@[congr] theorem adw {R:Type} {x y:D} (h:x = y) (K:_):tk2 (R:=R) x K = tk2 y K:=by rw [h]
abbrev tk3 {R:Type} (x:D) (K:Int->Int->Int->ByteArray->Option R):Option R:=asAgg x fun l=>unc l fun x0 l0=>asI .i64 x0 fun v0=>unc l0 fun x1 l1=>asI .i64 x1 fun v1=>unc l1 fun x2 l2=>asI .i64 x2 fun v2=>unc l2 fun x3 l3=>asS x3 fun v3=>unn l3 (K v0 v1 v2 v3)
@[congr] theorem adx {R:Type} {x y:D} (h:x = y) (K:_):tk3 (R:=R) x K = tk3 y K:=by rw [h]
abbrev tk4 {R:Type} (x:D) (K:List D->List D->List D->Int->Option R):Option R:=nC x fun l=>unc l fun x0 l0=>jl (5,0) x0 fun v0=>unc l0 fun x1 l1=>jl (4,0) x1 fun v1=>unc l1 fun x2 l2=>jl (3,0) x2 fun v2=>unc l2 fun x3 l3=>asI .i64 x3 fun v3=>unn l3 (K v0 v1 v2 v3)
@[congr] theorem ady {R:Type} {x y:D} (h:x = y) (K:_):tk4 (R:=R) x K = tk4 y K:=by rw [h]
abbrev tk5 {R:Type} (x:D) (K:List D->Bool->Option R):Option R:=iV x fun l=>unc l fun x0 l0=>jl (1,0) x0 fun v0=>unc l0 fun x1 l1=>asB x1 fun v1=>unn l1 (K v0 v1)
@[congr] theorem adz {R:Type} {x y:D} (h:x = y) (K:_):tk5 (R:=R) x K = tk5 y K:=by rw [h]
abbrev tk6 {R:Type} (x:D) (K:List D->Int->Bool->Option R):Option R:=nC x fun l=>unc l fun x0 l0=>jl (1,0) x0 fun v0=>unc l0 fun x1 l1=>asI .i64 x1 fun v1=>unc l1 fun x2 l2=>asB x2 fun v2=>unn l2 (K v0 v1 v2)
@[congr] theorem adA {R:Type} {x y:D} (h:x = y) (K:_):tk6 (R:=R) x K = tk6 y K:=by rw [h]
abbrev tk7 {R:Type} (x:D) (K:Int->Bool->Option R):Option R:=iV x fun l=>unc l fun x0 l0=>asI .i64 x0 fun v0=>unc l0 fun x1 l1=>asB x1 fun v1=>unn l1 (K v0 v1)
@[congr] theorem adB {R:Type} {x y:D} (h:x = y) (K:_):tk7 (R:=R) x K = tk7 y K:=by rw [h]
abbrev tk8 {R:Type} (x:D) (K:List D->Int->Int->Int->Int->Int->Int->Int->Option R):Option R:=nC x fun l=>unc l fun x0 l0=>jl (5,0) x0 fun v0=>unc l0 fun x1 l1=>asI .i64 x1 fun v1=>unc l1 fun x2 l2=>asI .i64 x2 fun v2=>unc l2 fun x3 l3=>asI .i64 x3 fun v3=>unc l3 fun x4 l4=>asI .i64 x4 fun v4=>unc l4 fun x5 l5=>asI .i64 x5 fun v5=>unc l5 fun x6 l6=>asI .i64 x6 fun v6=>unc l6 fun x7 l7=>asI .i64 x7 fun v7=>unn l7 (K v0 v1 v2 v3 v4 v5 v6 v7)
@[congr] theorem adC {R:Type} {x y:D} (h:x = y) (K:_):tk8 (R:=R) x K = tk8 y K:=by rw [h]
abbrev tk9 {R:Type} (x:D) (K:ByteArray->Bool->Option R):Option R:=iV x fun l=>unc l fun x0 l0=>asS x0 fun v0=>unc l0 fun x1 l1=>asB x1 fun v1=>unn l1 (K v0 v1)
@[congr] theorem adE {R:Type} {x y:D} (h:x = y) (K:_):tk9 (R:=R) x K = tk9 y K:=by rw [h]
abbrev abA {R:Type} (x:D) (K:Int->Int->Option R):Option R:=iV x fun l=>unc l fun x0 l0=>asI .i64 x0 fun v0=>unc l0 fun x1 l1=>asI .i64 x1 fun v1=>unn l1 (K v0 v1)
@[congr] theorem adi {R:Type} {x y:D} (h:x = y) (K:_):abA (R:=R) x K = abA y K:=by rw [h]
abbrev ab1 {R:Type} (x:D) (K:Int->List D->Bool->Option R):Option R:=iV x fun l=>unc l fun x0 l0=>asI .i64 x0 fun v0=>unc l0 fun x1 l1=>jl (1,0) x1 fun v1=>unc l1 fun x2 l2=>asB x2 fun v2=>unn l2 (K v0 v1 v2)
@[congr] theorem adj {R:Type} {x y:D} (h:x = y) (K:_):ab1 (R:=R) x K = ab1 y K:=by rw [h]
abbrev ab2 {R:Type} (x:D) (K:Int->Int->Bool->Option R):Option R:=iV x fun l=>unc l fun x0 l0=>asI .i64 x0 fun v0=>unc l0 fun x1 l1=>asI .i64 x1 fun v1=>unc l1 fun x2 l2=>asB x2 fun v2=>unn l2 (K v0 v1 v2)
@[congr] theorem adk {R:Type} {x y:D} (h:x = y) (K:_):ab2 (R:=R) x K = ab2 y K:=by rw [h]
abbrev ab3 {R:Type} (x:D) (K:ByteArray->Int->Bool->Option R):Option R:=iV x fun l=>unc l fun x0 l0=>asS x0 fun v0=>unc l0 fun x1 l1=>asI .i64 x1 fun v1=>unc l1 fun x2 l2=>asB x2 fun v2=>unn l2 (K v0 v1 v2)
@[congr] theorem adl {R:Type} {x y:D} (h:x = y) (K:_):ab3 (R:=R) x K = ab3 y K:=by rw [h]
abbrev uu : A := .undef
abbrev V:=Vn Tryz.prog cf0
abbrev ck1 {R:Type} (f:Nat) (ds:List D) (K:Int->List D->List D->List D->Int->Option R):Option R:=jb V f ds fun v0 v1=>asI .i64 v0 fun v2=>unc v1 fun v3 v4=>tk4 v3 fun v8 v11 v14 v17=>(unn v4 (K v2 v8 v11 v14 v17))
abbrev ck2 {R:Type} (f:Nat) (ds:List D) (K:List D->List D->List D->Int->Option R):Option R:=jb V f ds fun v0 v1=>iV v0 fun v2=>unn v2 (unc v1 fun v3 v4=>tk4 v3 fun v8 v11 v14 v17=>(unn v4 (K v8 v11 v14 v17)))
abbrev ck3 {R:Type} (f:Nat) (ds:List D) (K:List D->Bool->Option R):Option R:=jb V f ds fun v0 v1=>tk5 v0 fun v5 v8=>(unn v1 (K v5 v8))
abbrev ck4 {R:Type} (f:Nat) (ds:List D) (K:List D->List D->List D->List D->Int->Option R):Option R:=jb V f ds fun v0 v1=>jl (1,0) v0 fun v2=>unc v1 fun v3 v4=>tk4 v3 fun v8 v11 v14 v17=>(unn v4 (K v2 v8 v11 v14 v17))
abbrev ck5 {R:Type} (f:Nat) (ds:List D) (K:List D->Int->Int->Int->Int->Int->Int->Int->Option R):Option R:=jb V f ds fun v0 v1=>asAgg v0 fun v2=>unc v2 fun v3 v4=>jl (5,0) v3 fun v5=>unc v4 fun v6 v7=>asI .i64 v6 fun v8=>unc v7 fun v9 v10=>asI .i64 v9 fun v11=>unc v10 fun v12 v13=>asI .i64 v12 fun v14=>unc v13 fun v15 v16=>asI .i64 v15 fun v17=>unc v16 fun v18 v19=>asI .i64 v18 fun v20=>unc v19 fun v21 v22=>asI .i64 v21 fun v23=>unc v22 fun v24 v25=>asI .i64 v24 fun v26=>unn v25 (unn v1 (K v5 v8 v11 v14 v17 v20 v23 v26))
abbrev ck6 {R:Type} (f:Nat) (ds:List D) (K:Bool->Option R):Option R:=jb V f ds fun v0 v1=>asB v0 fun v2=>unn v1 (K v2)
abbrev ck7 {R:Type} (f:Nat) (ds:List D) (K:Int->List D->Int->Bool->Option R):Option R:=jb V f ds fun v0 v1=>asI .i64 v0 fun v2=>unc v1 fun v3 v4=>tk6 v3 fun v8 v11 v14=>(unn v4 (K v2 v8 v11 v14))
abbrev ck8 {R:Type} (f:Nat) (ds:List D) (K:Int->List D->Int->Int->Option R):Option R:=jb V f ds fun v0 v1=>asI .i64 v0 fun v2=>unc v1 fun v3 v4=>nC v3 fun v5=>unc v5 fun v6 v7=>kq (1,0) v6 fun v8=>unc v7 fun v9 v10=>asI .i64 v9 fun v11=>unc v10 fun v12 v13=>asI .i64 v12 fun v14=>unn v13 (unn v4 (K v2 v8 v11 v14))
abbrev ck9 {R:Type} (f:Nat) (ds:List D) (K:List D->Option R):Option R:=jb V f ds fun v0 v1=>asAgg v0 fun v2=>unc v2 fun v3 v4=>jl (5,0) v3 fun v5=>unn v4 (unn v1 (K v5))
abbrev zP {R:Type} (f:Nat) (ds:List D) (K:Int->List D->Option R):Option R:=jb V f ds fun v0 v1=>asI .i64 v0 fun v2=>unc v1 fun v3 v4=>nC v3 fun v5=>unc v5 fun v6 v7=>jl (5,0) v6 fun v8=>unn v7 (unn v4 (K v2 v8))
abbrev Ve {R:Type} (f:Nat) (ds:List D) (K:Int->Bool->List D->Int->Int->Int->Int->Int->Int->Int->Option R):Option R:=jb V f ds fun v0 v1=>tk7 v0 fun v5 v8=>(unc v1 fun v9 v10=>tk8 v9 fun v14 v17 v20 v23 v26 v29 v32 v35=>(unn v10 (K v5 v8 v14 v17 v20 v23 v26 v29 v32 v35)))
abbrev Lu {R:Type} (f:Nat) (ds:List D) (K:Int->List D->Int->Int->Int->Int->Int->Int->Int->Option R):Option R:=jb V f ds fun v0 v1=>asI .i64 v0 fun v2=>unc v1 fun v3 v4=>tk8 v3 fun v8 v11 v14 v17 v20 v23 v26 v29=>(unn v4 (K v2 v8 v11 v14 v17 v20 v23 v26 v29))
abbrev Iv {R:Type} (f:Nat) (ds:List D) (K:Int->Option R):Option R:=jb V f ds fun v0 v1=>asI .i64 v0 fun v2=>unn v1 (K v2)
abbrev abg {R:Type} (f:Nat) (ds:List D) (K:Int->Int->ByteArray->Int->Int->Int->Option R):Option R:=jb V f ds fun v0 v1=>iV v0 fun v2=>unc v2 fun v3 v4=>tk1 v3 fun v8 v11 v14 v17 v20=>(unc v4 fun v21 v22=>asI .i64 v21 fun v23=>unn v22 (unn v1 (K v8 v11 v14 v17 v20 v23)))
abbrev PE {R:Type} (f:Nat) (ds:List D) (K:Int->Int->ByteArray->Int->Int->Option R):Option R:=jb V f ds fun v0 v1=>tk1 v0 fun v5 v8 v11 v14 v17=>(unn v1 (K v5 v8 v11 v14 v17))
abbrev zA {R:Type} (f:Nat) (ds:List D) (K:List D->Option R):Option R:=jb V f ds fun v0 v1=>jl (1,0) v0 fun v2=>unn v1 (K v2)
abbrev PF {R:Type} (f:Nat) (ds:List D) (K:ByteArray->Bool->Option R):Option R:=jb V f ds fun v0 v1=>iV v0 fun v2=>unc v2 fun v3 v4=>asS v3 fun v5=>unc v4 fun v6 v7=>asB v6 fun v8=>unn v7 (unn v1 (K v5 v8))
abbrev Xq {R:Type} (f:Nat) (ds:List D) (K:List D->List D->Option R):Option R:=jb V f ds fun v0 v1=>jl (1,0) v0 fun v2=>unc v1 fun v3 v4=>nC v3 fun v5=>unc v5 fun v6 v7=>jl (5,0) v6 fun v8=>unn v7 (unn v4 (K v2 v8))
abbrev JB {R:Type} (f:Nat) (ds:List D) (K:List D->Int->Int->Int->Int->Int->Int->Int->Bool->Option R):Option R:=jb V f ds fun v0 v1=>iV v0 fun v2=>unc v2 fun v3 v4=>asAgg v3 fun v5=>unc v5 fun v6 v7=>jl (5,0) v6 fun v8=>unc v7 fun v9 v10=>asI .i64 v9 fun v11=>unc v10 fun v12 v13=>asI .i64 v12 fun v14=>unc v13 fun v15 v16=>asI .i64 v15 fun v17=>unc v16 fun v18 v19=>asI .i64 v18 fun v20=>unc v19 fun v21 v22=>asI .i64 v21 fun v23=>unc v22 fun v24 v25=>asI .i64 v24 fun v26=>unc v25 fun v27 v28=>asI .i64 v27 fun v29=>unn v28 (unc v4 fun v30 v31=>asB v30 fun v32=>unn v31 (unn v1 (K v8 v11 v14 v17 v20 v23 v26 v29 v32)))
abbrev OZ {R:Type} (f:Nat) (ds:List D) (K:List D->Int->Int->Int->Int->Int->Int->Int->Option R):Option R:=jb V f ds fun v0 v1=>iV v0 fun v2=>unn v2 (unc v1 fun v3 v4=>tk8 v3 fun v8 v11 v14 v17 v20 v23 v26 v29=>(unn v4 (K v8 v11 v14 v17 v20 v23 v26 v29)))
abbrev PG {R:Type} (f:Nat) (ds:List D) (K:Int->Int->ByteArray->Int->Int->Bool->Option R):Option R:=jb V f ds fun v0 v1=>iV v0 fun v2=>unc v2 fun v3 v4=>tk1 v3 fun v8 v11 v14 v17 v20=>(unc v4 fun v21 v22=>asB v21 fun v23=>unn v22 (unn v1 (K v8 v11 v14 v17 v20 v23)))
abbrev Vf {R:Type} (f:Nat) (ds:List D) (K:ByteArray->Option R):Option R:=jb V f ds fun v0 v1=>asS v0 fun v2=>unn v1 (K v2)
abbrev Zi {R:Type} (f:Nat) (ds:List D) (K:List D->List D->Int->Bool->Option R):Option R:=jb V f ds fun v0 v1=>asAgg v0 fun v2=>unc v2 fun v3 v4=>jl (5,0) v3 fun v5=>unn v4 (unc v1 fun v6 v7=>tk6 v6 fun v11 v14 v17=>(unn v7 (K v5 v11 v14 v17)))
abbrev aad {R:Type} (f:Nat) (ds:List D) (K:ByteArray->Bool->List D->List D->List D->Int->Option R):Option R:=jb V f ds fun v0 v1=>tk9 v0 fun v5 v8=>(unc v1 fun v9 v10=>tk4 v9 fun v14 v17 v20 v23=>(unn v10 (K v5 v8 v14 v17 v20 v23)))
abbrev Zj {R:Type} (f:Nat) (ds:List D) (K:Int->Int->Option R):Option R:=jb V f ds fun v0 v1=>abA v0 fun v5 v8=>(unn v1 (K v5 v8))
abbrev aae {R:Type} (f:Nat) (ds:List D) (K:Int->List D->Bool->Option R):Option R:=jb V f ds fun v0 v1=>ab1 v0 fun v5 v8 v11=>(unn v1 (K v5 v8 v11))
abbrev aaf {R:Type} (f:Nat) (ds:List D) (K:List D->List D->Int->Int->Option R):Option R:=jb V f ds fun v0 v1=>iV v0 fun v2=>unc v2 fun v3 v4=>asAgg v3 fun v5=>unc v5 fun v6 v7=>jl (5,0) v6 fun v8=>unn v7 (unc v4 fun v9 v10=>jl (1,0) v9 fun v11=>unc v10 fun v12 v13=>asI .i64 v12 fun v14=>unc v13 fun v15 v16=>asI .i64 v15 fun v17=>unn v16 (unn v1 (K v8 v11 v14 v17)))
abbrev aag {R:Type} (f:Nat) (ds:List D) (K:List D->List D->List D->Int->Int->Option R):Option R:=jb V f ds fun v0 v1=>iV v0 fun v2=>unc v2 fun v3 v4=>asAgg v3 fun v5=>unc v5 fun v6 v7=>jl (5,0) v6 fun v8=>unc v7 fun v9 v10=>jl (4,0) v9 fun v11=>unc v10 fun v12 v13=>jl (3,0) v12 fun v14=>unn v13 (unc v4 fun v15 v16=>asI .i64 v15 fun v17=>unc v16 fun v18 v19=>asI .i64 v18 fun v20=>unn v19 (unn v1 (K v8 v11 v14 v17 v20)))
abbrev Xr {R:Type} (f:Nat) (ds:List D) (K:Int->Bool->Option R):Option R:=jb V f ds fun v0 v1=>tk7 v0 fun v5 v8=>(unn v1 (K v5 v8))
abbrev abh {R:Type} (f:Nat) (ds:List D) (K:Int->Int->List D->Option R):Option R:=jb V f ds fun v0 v1=>abA v0 fun v5 v8=>(unc v1 fun v9 v10=>nC v9 fun v11=>unc v11 fun v12 v13=>jl (5,0) v12 fun v14=>unn v13 (unn v10 (K v5 v8 v14)))
abbrev abT {R:Type} (f:Nat) (ds:List D) (K:List D->List D->List D->List D->Int->Int->Int->Int->Int->Int->Int->Option R):Option R:=jb V f ds fun v0 v1=>iV v0 fun v2=>unc v2 fun v3 v4=>asAgg v3 fun v5=>unc v5 fun v6 v7=>mc (5,0) v6 fun v8=>unc v7 fun v9 v10=>mc (4,0) v9 fun v11=>unc v10 fun v12 v13=>mc (3,0) v12 fun v14=>unn v13 (unc v4 fun v15 v16=>asAgg v15 fun v17=>unc v17 fun v18 v19=>mc (5,0) v18 fun v20=>unc v19 fun v21 v22=>asI .i64 v21 fun v23=>unc v22 fun v24 v25=>asI .i64 v24 fun v26=>unc v25 fun v27 v28=>asI .i64 v27 fun v29=>unc v28 fun v30 v31=>asI .i64 v30 fun v32=>unc v31 fun v33 v34=>asI .i64 v33 fun v35=>unc v34 fun v36 v37=>asI .i64 v36 fun v38=>unc v37 fun v39 v40=>asI .i64 v39 fun v41=>unn v40 (unn v16 (unn v1 (K v8 v11 v14 v20 v23 v26 v29 v32 v35 v38 v41))))
abbrev abi {R:Type} (f:Nat) (ds:List D) (K:List D->List D->List D->ByteArray->Option R):Option R:=jb V f ds fun v0 v1=>iV v0 fun v2=>unc v2 fun v3 v4=>asAgg v3 fun v5=>unc v5 fun v6 v7=>mc (5,0) v6 fun v8=>unc v7 fun v9 v10=>mc (4,0) v9 fun v11=>unc v10 fun v12 v13=>mc (3,0) v12 fun v14=>unn v13 (unc v4 fun v15 v16=>asS v15 fun v17=>unn v16 (unn v1 (K v8 v11 v14 v17)))
abbrev aah {R:Type} (f:Nat) (ds:List D) (K:ByteArray->List D->Int->Bool->Option R):Option R:=jb V f ds fun v0 v1=>asS v0 fun v2=>unc v1 fun v3 v4=>tk6 v3 fun v8 v11 v14=>(unn v4 (K v2 v8 v11 v14))
abbrev Vg {R:Type} (f:Nat) (ds:List D) (K:Int->Int->ByteArray->Int->Int->List D->Int->Int->Option R):Option R:=jb V f ds fun v0 v1=>asAgg v0 fun v2=>unc v2 fun v3 v4=>asI .i64 v3 fun v5=>unc v4 fun v6 v7=>asI .i64 v6 fun v8=>unc v7 fun v9 v10=>asS v9 fun v11=>unc v10 fun v12 v13=>asI .i64 v12 fun v14=>unc v13 fun v15 v16=>asI .i64 v15 fun v17=>unn v16 (unc v1 fun v18 v19=>nC v18 fun v20=>unc v20 fun v21 v22=>kq (1,0) v21 fun v23=>unc v22 fun v24 v25=>asI .i64 v24 fun v26=>unc v25 fun v27 v28=>asI .i64 v27 fun v29=>unn v28 (unn v19 (K v5 v8 v11 v14 v17 v23 v26 v29)))
abbrev abU {R:Type} (f:Nat) (ds:List D) (K:List D->Option R):Option R:=jb V f ds fun v0 v1=>jl (5,0) v0 fun v2=>unn v1 (K v2)
abbrev aai {R:Type} (f:Nat) (ds:List D) (K:List D->List D->List D->List D->Int->Int->Int->Int->Int->Int->Int->List D->Int->Int->Option R):Option R:=jb V f ds fun v0 v1=>iV v0 fun v2=>unc v2 fun v3 v4=>asAgg v3 fun v5=>unc v5 fun v6 v7=>mc (5,0) v6 fun v8=>unc v7 fun v9 v10=>mc (4,0) v9 fun v11=>unc v10 fun v12 v13=>mc (3,0) v12 fun v14=>unn v13 (unc v4 fun v15 v16=>asAgg v15 fun v17=>unc v17 fun v18 v19=>mc (5,0) v18 fun v20=>unc v19 fun v21 v22=>asI .i64 v21 fun v23=>unc v22 fun v24 v25=>asI .i64 v24 fun v26=>unc v25 fun v27 v28=>asI .i64 v27 fun v29=>unc v28 fun v30 v31=>asI .i64 v30 fun v32=>unc v31 fun v33 v34=>asI .i64 v33 fun v35=>unc v34 fun v36 v37=>asI .i64 v36 fun v38=>unc v37 fun v39 v40=>asI .i64 v39 fun v41=>unn v40 (unn v16 (unc v1 fun v42 v43=>nC v42 fun v44=>unc v44 fun v45 v46=>kq (1,0) v45 fun v47=>unc v46 fun v48 v49=>asI .i64 v48 fun v50=>unc v49 fun v51 v52=>asI .i64 v51 fun v53=>unn v52 (unn v43 (K v8 v11 v14 v20 v23 v26 v29 v32 v35 v38 v41 v47 v50 v53)))))
abbrev aaj {R:Type} (f:Nat) (ds:List D) (K:List D->List D->List D->List D->Int->Int->Option R):Option R:=jb V f ds fun v0 v1=>asAgg v0 fun v2=>unc v2 fun v3 v4=>jl (5,0) v3 fun v5=>unc v4 fun v6 v7=>jl (4,0) v6 fun v8=>unc v7 fun v9 v10=>jl (3,0) v9 fun v11=>unn v10 (unc v1 fun v12 v13=>nC v12 fun v14=>unc v14 fun v15 v16=>kq (1,0) v15 fun v17=>unc v16 fun v18 v19=>asI .i64 v18 fun v20=>unc v19 fun v21 v22=>asI .i64 v21 fun v23=>unn v22 (unn v13 (K v5 v8 v11 v17 v20 v23)))
abbrev aak {R:Type} (f:Nat) (ds:List D) (K:List D->List D->Int->Int->Option R):Option R:=jb V f ds fun v0 v1=>asAgg v0 fun v2=>unc v2 fun v3 v4=>jl (5,0) v3 fun v5=>unn v4 (unc v1 fun v6 v7=>nC v6 fun v8=>unc v8 fun v9 v10=>kq (1,0) v9 fun v11=>unc v10 fun v12 v13=>asI .i64 v12 fun v14=>unc v13 fun v15 v16=>asI .i64 v15 fun v17=>unn v16 (unn v7 (K v5 v11 v14 v17)))
abbrev S9 {R:Type} (f:Nat) (ds:List D) (K:Bool->List D->Int->Int->Option R):Option R:=jb V f ds fun v0 v1=>asB v0 fun v2=>unc v1 fun v3 v4=>nC v3 fun v5=>unc v5 fun v6 v7=>kq (1,0) v6 fun v8=>unc v7 fun v9 v10=>asI .i64 v9 fun v11=>unc v10 fun v12 v13=>asI .i64 v12 fun v14=>unn v13 (unn v4 (K v2 v8 v11 v14))
abbrev KI {R:Type} (f:Nat) (ds:List D) (K:ByteArray->List D->Int->Int->Option R):Option R:=jb V f ds fun v0 v1=>asS v0 fun v2=>unc v1 fun v3 v4=>nC v3 fun v5=>unc v5 fun v6 v7=>kq (1,0) v6 fun v8=>unc v7 fun v9 v10=>asI .i64 v9 fun v11=>unc v10 fun v12 v13=>asI .i64 v12 fun v14=>unn v13 (unn v4 (K v2 v8 v11 v14))
abbrev abj {R:Type} (f:Nat) (ds:List D) (K:Int->Int->ByteArray->Int->Int->List D->Int->Bool->Option R):Option R:=jb V f ds fun v0 v1=>tk1 v0 fun v5 v8 v11 v14 v17=>(unc v1 fun v18 v19=>tk6 v18 fun v23 v26 v29=>(unn v19 (K v5 v8 v11 v14 v17 v23 v26 v29)))
abbrev Vh {R:Type} (f:Nat) (ds:List D) (K:List D->List D->Option R):Option R:=jb V f ds fun v0 v1=>iV v0 fun v2=>unc v2 fun v3 v4=>asAgg v3 fun v5=>unc v5 fun v6 v7=>jl (5,0) v6 fun v8=>unn v7 (unc v4 fun v9 v10=>jl (1,0) v9 fun v11=>unn v10 (unn v1 (K v8 v11)))
abbrev Zk {R:Type} (f:Nat) (ds:List D) (K:Int->Int->Bool->Option R):Option R:=jb V f ds fun v0 v1=>ab2 v0 fun v5 v8 v11=>(unn v1 (K v5 v8 v11))
abbrev abk {R:Type} (f:Nat) (ds:List D) (K:List D->Int->Int->Option R):Option R:=jb V f ds fun v0 v1=>nC v0 fun v2=>unc v2 fun v3 v4=>kq (1,0) v3 fun v5=>unc v4 fun v6 v7=>asI .i64 v6 fun v8=>unc v7 fun v9 v10=>asI .i64 v9 fun v11=>unn v10 (unn v1 (K v5 v8 v11))
abbrev Tc {R:Type} (f:Nat) (ds:List D) (K:ByteArray->Int->Bool->Option R):Option R:=jb V f ds fun v0 v1=>ab3 v0 fun v5 v8 v11=>(unn v1 (K v5 v8 v11))
abbrev Vi {R:Type} (f:Nat) (ds:List D) (K:List D->Int->Int->Int->Int->Int->Int->Int->List D->Int->Int->Option R):Option R:=jb V f ds fun v0 v1=>asAgg v0 fun v2=>unc v2 fun v3 v4=>jl (5,0) v3 fun v5=>unc v4 fun v6 v7=>asI .i64 v6 fun v8=>unc v7 fun v9 v10=>asI .i64 v9 fun v11=>unc v10 fun v12 v13=>asI .i64 v12 fun v14=>unc v13 fun v15 v16=>asI .i64 v15 fun v17=>unc v16 fun v18 v19=>asI .i64 v18 fun v20=>unc v19 fun v21 v22=>asI .i64 v21 fun v23=>unc v22 fun v24 v25=>asI .i64 v24 fun v26=>unn v25 (unc v1 fun v27 v28=>nC v27 fun v29=>unc v29 fun v30 v31=>kq (1,0) v30 fun v32=>unc v31 fun v33 v34=>asI .i64 v33 fun v35=>unc v34 fun v36 v37=>asI .i64 v36 fun v38=>unn v37 (unn v28 (K v5 v8 v11 v14 v17 v20 v23 v26 v32 v35 v38)))
section
variable {R:Type} {f:Nat} {ds es:List D}
@[congr] theorem adm (h:ds = es) (K:_):ck1 (R:=R) f ds K = ck1 f es K:=by rw [h]
@[congr] theorem adn (h:ds = es) (K:_):ck2 (R:=R) f ds K = ck2 f es K:=by rw [h]
@[congr] theorem ado (h:ds = es) (K:_):ck3 (R:=R) f ds K = ck3 f es K:=by rw [h]
@[congr] theorem adp (h:ds = es) (K:_):ck4 (R:=R) f ds K = ck4 f es K:=by rw [h]
@[congr] theorem adq (h:ds = es) (K:_):ck5 (R:=R) f ds K = ck5 f es K:=by rw [h]
@[congr] theorem adr (h:ds = es) (K:_):ck6 (R:=R) f ds K = ck6 f es K:=by rw [h]
@[congr] theorem ads (h:ds = es) (K:_):ck7 (R:=R) f ds K = ck7 f es K:=by rw [h]
@[congr] theorem adt (h:ds = es) (K:_):ck8 (R:=R) f ds K = ck8 f es K:=by rw [h]
@[congr] theorem adu (h:ds = es) (K:_):ck9 (R:=R) f ds K = ck9 f es K:=by rw [h]
@[congr] theorem acv (h:ds = es) (K:_):zP (R:=R) f ds K = zP f es K:=by rw [h]
@[congr] theorem acw (h:ds = es) (K:_):Ve (R:=R) f ds K = Ve f es K:=by rw [h]
@[congr] theorem acx (h:ds = es) (K:_):Lu (R:=R) f ds K = Lu f es K:=by rw [h]
@[congr] theorem acy (h:ds = es) (K:_):Iv (R:=R) f ds K = Iv f es K:=by rw [h]
@[congr] theorem acz (h:ds = es) (K:_):abg (R:=R) f ds K = abg f es K:=by rw [h]
@[congr] theorem acA (h:ds = es) (K:_):PE (R:=R) f ds K = PE f es K:=by rw [h]
@[congr] theorem acB (h:ds = es) (K:_):zA (R:=R) f ds K = zA f es K:=by rw [h]
@[congr] theorem acD (h:ds = es) (K:_):PF (R:=R) f ds K = PF f es K:=by rw [h]
@[congr] theorem acE (h:ds = es) (K:_):Xq (R:=R) f ds K = Xq f es K:=by rw [h]
@[congr] theorem acF (h:ds = es) (K:_):JB (R:=R) f ds K = JB f es K:=by rw [h]
@[congr] theorem acG (h:ds = es) (K:_):OZ (R:=R) f ds K = OZ f es K:=by rw [h]
@[congr] theorem acH (h:ds = es) (K:_):PG (R:=R) f ds K = PG f es K:=by rw [h]
@[congr] theorem acI (h:ds = es) (K:_):Vf (R:=R) f ds K = Vf f es K:=by rw [h]
@[congr] theorem acJ (h:ds = es) (K:_):Zi (R:=R) f ds K = Zi f es K:=by rw [h]
@[congr] theorem acK (h:ds = es) (K:_):aad (R:=R) f ds K = aad f es K:=by rw [h]
@[congr] theorem acL (h:ds = es) (K:_):Zj (R:=R) f ds K = Zj f es K:=by rw [h]
@[congr] theorem acM (h:ds = es) (K:_):aae (R:=R) f ds K = aae f es K:=by rw [h]
@[congr] theorem acN (h:ds = es) (K:_):aaf (R:=R) f ds K = aaf f es K:=by rw [h]
@[congr] theorem acO (h:ds = es) (K:_):aag (R:=R) f ds K = aag f es K:=by rw [h]
@[congr] theorem acP (h:ds = es) (K:_):Xr (R:=R) f ds K = Xr f es K:=by rw [h]
@[congr] theorem acQ (h:ds = es) (K:_):abh (R:=R) f ds K = abh f es K:=by rw [h]
@[congr] theorem acR (h:ds = es) (K:_):abT (R:=R) f ds K = abT f es K:=by rw [h]
@[congr] theorem acS (h:ds = es) (K:_):abi (R:=R) f ds K = abi f es K:=by rw [h]
@[congr] theorem acT (h:ds = es) (K:_):aah (R:=R) f ds K = aah f es K:=by rw [h]
@[congr] theorem acU (h:ds = es) (K:_):Vg (R:=R) f ds K = Vg f es K:=by rw [h]
@[congr] theorem acV (h:ds = es) (K:_):abU (R:=R) f ds K = abU f es K:=by rw [h]
@[congr] theorem acW (h:ds = es) (K:_):aai (R:=R) f ds K = aai f es K:=by rw [h]
@[congr] theorem acX (h:ds = es) (K:_):aaj (R:=R) f ds K = aaj f es K:=by rw [h]
@[congr] theorem acY (h:ds = es) (K:_):aak (R:=R) f ds K = aak f es K:=by rw [h]
@[congr] theorem acZ (h:ds = es) (K:_):S9 (R:=R) f ds K = S9 f es K:=by rw [h]
@[congr] theorem ac0 (h:ds = es) (K:_):KI (R:=R) f ds K = KI f es K:=by rw [h]
@[congr] theorem ac1 (h:ds = es) (K:_):abj (R:=R) f ds K = abj f es K:=by rw [h]
@[congr] theorem ac2 (h:ds = es) (K:_):Vh (R:=R) f ds K = Vh f es K:=by rw [h]
@[congr] theorem ac3 (h:ds = es) (K:_):Zk (R:=R) f ds K = Zk f es K:=by rw [h]
@[congr] theorem ac4 (h:ds = es) (K:_):abk (R:=R) f ds K = abk f es K:=by rw [h]
@[congr] theorem ac5 (h:ds = es) (K:_):Tc (R:=R) f ds K = Tc f es K:=by rw [h]
@[congr] theorem ac6 (h:ds = es) (K:_):Vi (R:=R) f ds K = Vi f es K:=by rw [h]
end
abbrev R:=Rn Tryz.prog cf0
def AJ (p0 p1 p2 p3 p4 p5 p6 p7 p8:Int) (p9 p10 p11:List D):Option Ret:=R 19 Tryz.f19 [] (yv Tryz.f19 6) ⟨[uu,uu,uu,.ref 0 0 0,uu,uu,.asl 1 none,uu,uu,uu,uu,uu,uu,uu,uu,uu,uu,uu,uu,uu,uu,uu,uu,uu,uu,uu,uu,uu,uu,uu,.asl 2 none,.d (iN p0),.d (iN p1),uu,uu,uu,uu,uu,uu,uu,uu,uu,uu,uu,uu,uu,uu],[(0,some (.var [.asl 3 none,.d (iN p2),.d (iN p3),.d (iN p4),.d (iN p5),.d (iN p6),.d (iN p7),.d (iN p8)])),(1,some (.arr (1,0) p9)),(2,some (.arr (1,0) p10)),(3,some (.arr (5,0) p11))],4,[]⟩
def AK (p0 p1 p2 p3 p4 p5 p6 p7:Int) (p8 p9 p10:List D):Option Ret:=R 20 Tryz.f20 [] (yv Tryz.f20 7) ⟨[uu,uu,uu,uu,uu,uu,.ref 0 0 0,.asl 1 none,.asl 2 none,.d (iN p0),uu,uu,uu,uu,uu,uu,uu,uu,uu,uu,uu,uu,uu,uu,uu,uu,uu,uu,uu,uu,uu,uu,uu,uu,uu,uu,uu,uu,uu,uu,uu,uu,uu,uu,uu,uu,uu,uu,uu,uu,uu],[(0,some (.var [.asl 3 none,.d (iN p1),.d (iN p2),.d (iN p3),.d (iN p4),.d (iN p5),.d (iN p6),.d (iN p7)])),(1,some (.arr (1,0) p8)),(2,some (.arr (1,0) p9)),(3,some (.arr (5,0) p10))],4,[]⟩
def DR (p0:List D) (p1 p2:Int):Option Ret:=R 51 Tryz.f51 [] (yv Tryz.f51 3) ⟨[.d (.rs (1,0) p0),uu,uu,.d (iN p1),.d (iN p2),uu,uu,uu,uu,uu,uu,uu,uu,uu,uu,uu,uu,uu,uu,uu,uu,uu,uu,uu,uu,uu,uu,uu,uu,uu,uu,uu],[],0,[]⟩
def Da (p0 p1:Int) (p2 p3 p4:List D):Option Ret:=R 54 Tryz.f54 [] (yv Tryz.f54 4) ⟨[uu,.ref 0 0 0,uu,uu,uu,uu,uu,uu,uu,uu,uu,uu,uu,uu,uu,uu,uu,uu,uu,uu,uu,uu,uu,uu,.d (iN p0),.d (iN p1),uu,uu,uu,uu,uu,uu,uu,uu,uu,uu,uu,uu,uu,uu,uu,uu,uu,uu,uu,uu,uu,uu,uu,uu,uu,uu,uu,uu,uu,uu,uu,uu,uu,uu,uu,uu,uu,uu,uu,uu,uu,uu,uu,uu],[(0,some (.var [.d (.rs (5,0) p2),.d (.rs (4,0) p3),.d (.rs (3,0) p4)]))],1,[]⟩
def CM (p0:List D) (p1 p2:Int) (p3 p4 p5:List D):Option Ret:=R 54 Tryz.f54 [] (yv Tryz.f54 10) ⟨[uu,.ref 0 0 0,uu,uu,uu,uu,uu,uu,uu,uu,uu,uu,uu,uu,uu,uu,uu,uu,uu,uu,uu,uu,uu,uu,uu,uu,uu,uu,uu,uu,uu,uu,uu,uu,.d (.rs (3,0) p0),.d (iN p1),.d (iN p2),uu,uu,uu,uu,uu,uu,uu,uu,uu,uu,uu,uu,uu,uu,uu,uu,uu,uu,uu,uu,uu,uu,uu,uu,uu,uu,uu,uu,uu,uu,uu,uu,uu],[(0,some (.var [.d (.rs (5,0) p3),.d (.rs (4,0) p4),.d (.rs (3,0) p5)]))],1,[]⟩
def Dd (p0:List D) (p1 p2:Int) (p3:List D):Option Ret:=R 55 Tryz.f55 [] (yv Tryz.f55 2) ⟨[uu,.ref 0 0 0,uu,uu,uu,uu,.d (.rs (5,0) p0),.d (iN p1),.d (iN p2),uu,uu,uu,uu,uu,uu,uu,uu,uu,uu,uu,uu,uu],[(0,some (.var [.d (.rs (5,0) p3)]))],1,[]⟩
def Dh (p0:Int) (p1 p2 p3:List D):Option Ret:=R 59 Tryz.f59 [] (yv Tryz.f59 4) ⟨[uu,.ref 0 0 0,uu,.d (iN p0),uu,uu,uu,uu,uu,uu,uu,uu,uu,uu,uu,uu,uu,uu,uu,uu,uu,uu,uu,uu,uu,uu,uu,uu,uu,uu,uu,uu,uu,uu,uu,uu,uu,uu,uu,uu,uu,uu,uu,uu,uu,uu,uu,uu,uu,uu,uu,uu,uu,uu,uu,uu,uu,uu,uu,uu,uu,uu,uu,uu,uu,uu,uu,uu,uu,uu,uu,uu,uu],[(0,some (.var [.d (.rs (5,0) p1),.d (.rs (4,0) p2),.d (.rs (3,0) p3)]))],1,[]⟩
def Di (p0:Int) (p1 p2 p3:List D):Option Ret:=R 59 Tryz.f59 [] (yv Tryz.f59 9) ⟨[uu,.ref 0 0 0,uu,uu,.d (iN p0),uu,uu,uu,uu,uu,uu,uu,uu,uu,uu,uu,uu,uu,uu,uu,uu,uu,uu,uu,uu,uu,uu,uu,uu,uu,uu,uu,uu,uu,uu,uu,uu,uu,uu,uu,uu,uu,uu,uu,uu,uu,uu,uu,uu,uu,uu,uu,uu,uu,uu,uu,uu,uu,uu,uu,uu,uu,uu,uu,uu,uu,uu,uu,uu,uu,uu,uu,uu],[(0,some (.var [.d (.rs (5,0) p1),.d (.rs (4,0) p2),.d (.rs (3,0) p3)]))],1,[]⟩
def Dn (p0:Int) (p1:List D):Option Ret:=R 60 Tryz.f60 [] (yv Tryz.f60 2) ⟨[uu,.ref 0 0 0,uu,.d (iN p0),uu,uu,uu,uu,uu,uu,uu,uu,uu,uu,uu,uu,uu,uu,uu,uu,uu,uu,uu],[(0,some (.var [.d (.rs (5,0) p1)]))],1,[]⟩
def Fh (p0:List D) (p1 p2:Int) (p3 p4 p5:List D):Option Ret:=R 66 Tryz.f66 [] (yv Tryz.f66 5) ⟨[uu,uu,uu,uu,.ref 0 0 0,uu,.ref 1 0 0,.asl 2 none,.asl 3 none,uu,uu,uu,uu,uu,uu,uu,.d (.rs (1,0) p0),.d (iN p1),.d (iN p2),uu,uu,uu,uu,uu,uu,uu,uu,uu,uu,uu,uu,uu],[(0,some (.var [.d .nl])),(1,some (.var [.asl 4 none])),(2,some (.arr (1,0) p3)),(3,some (.arr (1,0) p4)),(4,some (.arr (5,0) p5))],5,[]⟩
def Dg (p0:Int) (p1:List D):Option Ret:=R 67 Tryz.f67 [] (yv Tryz.f67 4) ⟨[.d (iN p0),uu,uu,.asl 0 none,uu,uu,uu,uu,uu,uu,uu,uu,uu,uu,uu,uu,uu,uu,uu,uu,uu,uu,uu],[(0,some (.arr (1,0) p1))],1,[]⟩
def yU (p0:List D) (p1 p2:Int) (p3:List D):Option Ret:=R 68 Tryz.f68 [] (yv Tryz.f68 3) ⟨[uu,uu,uu,.asl 0 none,uu,uu,uu,uu,uu,uu,uu,.d (.rs (5,0) p0),.d (iN p1),.d (iN p2),uu,uu,uu,uu,uu,uu,uu,uu,uu,uu,uu,uu,uu,uu,uu,uu,uu,uu,uu,uu,uu,uu,uu,uu,uu,uu,uu,uu,uu,uu,uu,uu,uu,uu,uu,uu,uu,uu,uu,uu,uu,uu,uu,uu,uu,uu,uu,uu,uu,uu,uu,uu,uu,uu,uu,uu,uu,uu,uu,uu,uu,uu,uu,uu,uu,uu,uu],[(0,some (.arr (1,0) p3))],1,[]⟩
def Dq (p0:Int) (p1:List D):Option Ret:=R 69 Tryz.f69 [] (yv Tryz.f69 4) ⟨[.d (iN p0),uu,uu,.asl 0 none,uu,uu,uu,uu,uu,uu,uu,uu,uu,uu,uu,uu,uu,uu,uu,uu,uu,uu,uu,uu],[(0,some (.arr (1,0) p1))],1,[]⟩
def yW (p0:Int) (p1 p2:List D):Option Ret:=R 70 Tryz.f70 [] (yv Tryz.f70 3) ⟨[uu,.ref 0 0 0,uu,.asl 1 none,.d (iN p0),uu,uu,uu,uu,uu,uu,uu,uu,uu,uu,uu,uu,uu,uu,uu,uu,uu,uu,uu,uu,uu,uu,uu,uu,uu,uu,uu,uu,uu,uu,uu,uu,uu,uu,uu,uu,uu,uu,uu,uu,uu,uu,uu,uu,uu,uu,uu,uu,uu,uu,uu,uu,uu,uu,uu,uu,uu,uu,uu,uu,uu,uu,uu,uu,uu,uu,uu,uu,uu,uu,uu,uu,uu,uu,uu,uu,uu,uu],[(0,some (.var [.d (.rs (5,0) p1)])),(1,some (.arr (1,0) p2))],2,[]⟩
def BI (p0 p1 p2:Int) (p3:Bool) (p4:List D):Option Ret:=R 72 Tryz.f72 [((Go.Func.params Tryz.f72).toList.getD 0 0)] (yv Tryz.f72 4) ⟨[.ref 0 0 0,uu,.ref 1 0 0,.ref 2 0 0,.d (iN p0),.d (iN p1),uu,uu,uu,uu,uu,uu,uu,uu,uu,uu,uu,uu,uu,uu,uu,uu,uu,uu,uu,uu,uu,uu,uu,uu,uu,uu,uu,uu],[(0,some (.var [.asl 3 none,.d (iN p2),.d (.bool p3)])),(1,some (.var [.d .nl])),(2,some (.var [.d .nl])),(3,some (.arr (1,0) p4))],4,[.ref 0 0 0]⟩
def zL (p0 p1 p2:Int) (p3:Bool) (p4 p5:List D):Option Ret:=R 72 Tryz.f72 [((Go.Func.params Tryz.f72).toList.getD 0 0)] (yv Tryz.f72 4) ⟨[.ref 0 0 0,uu,.ref 1 0 0,.ref 2 0 0,.d (iN p0),.d (iN p1),uu,uu,uu,uu,uu,uu,uu,uu,uu,uu,uu,uu,uu,uu,uu,uu,uu,uu,uu,uu,uu,uu,uu,uu,uu,uu,uu,uu],[(0,some (.var [.asl 3 none,.d (iN p2),.d (.bool p3)])),(1,some (.var [.d .nl])),(2,some (.var [.asl 4 none])),(3,some (.arr (1,0) p4)),(4,some (.arr (5,0) p5))],5,[.ref 0 0 0]⟩
def Bq (p0:List D) (p1:Int) (p2:List D):Option Ret:=R 84 Tryz.f84 [] (yv Tryz.f84 2) ⟨[uu,.d (.rs (1,0) p0),.ref 0 0 0,uu,uu,.d (iN p1),uu,uu,uu,uu,uu,uu,uu,uu,uu,uu,uu,uu,uu,uu,uu],[(0,some (.var [.d (.rs (5,0) p2)]))],1,[]⟩
def Dv (p0:List D) (p1:Int) (p2 p3 p4:List D):Option Ret:=R 86 Tryz.f86 [] (yv Tryz.f86 5) ⟨[uu,.d (.rs (1,0) p0),uu,uu,.ref 0 0 0,uu,.ref 1 0 0,.asl 2 none,.asl 3 none,.d (iN p1),uu,uu,uu,uu,uu,uu,uu,uu,uu,uu,uu,uu,uu,uu,uu,uu,uu,uu,uu,uu,uu,uu,uu,uu,uu],[(0,some (.var [.d .nl])),(1,some (.var [.asl 4 none])),(2,some (.arr (1,0) p2)),(3,some (.arr (1,0) p3)),(4,some (.arr (5,0) p4))],5,[]⟩
def Ah (p0:Int) (p1:List D) (p2 p3:Int) (p4:List D):Option Ret:=R 90 Tryz.f90 [87] (yv Tryz.f90 8) ⟨[uu,uu,.ref 0 0 0,.ref 1 0 0,uu,.d (iN p0),uu,uu,uu,uu,uu,uu,uu,uu,uu,uu,uu,uu,uu,uu,uu,uu,uu,uu,uu,uu,uu,uu,uu,uu,uu,uu,uu,uu,uu,uu,uu,uu,uu,uu,uu,uu,uu,uu,uu,uu,uu,uu,uu,uu,uu,uu],[(0,some (.var [.d .nl])),(1,some (.var [.asl 3 none])),(2,some (.var [.d (.rs (1,0) p1),.d (iN p2),.d (iN p3)])),(3,some (.arr (5,0) p4))],4,[.ref 2 0 0]⟩
def AQ (p0 p1 p2:Int) (p3:Bool) (p4:List D):Option Ret:=R 115 Tryz.f115 [((Go.Func.params Tryz.f115).toList.getD 0 0)] (yv Tryz.f115 6) ⟨[.ref 0 0 0,uu,.ref 1 0 0,.ref 2 0 0,.d (iN p0),.d (iN p1),uu,uu,uu,uu,uu,uu,uu,uu,uu,uu,uu,uu,uu,uu,uu,uu,uu,uu,uu,uu,uu,uu,uu,uu,uu,uu,uu,uu,uu,uu,uu,uu,uu,uu,uu,uu,uu,uu,uu,uu,uu,uu,uu,uu,uu,uu,uu,uu,uu,uu,uu,uu,uu,uu,uu,uu,uu,uu,uu,uu,uu,uu,uu,uu,uu,uu,uu,uu,uu,uu,uu,uu,uu,uu,uu,uu,uu,uu,uu,uu,uu,uu,uu,uu,uu,uu,uu,uu,uu,uu,uu,uu,uu,uu,uu,uu,uu,uu,uu,uu,uu,uu,uu,uu,uu,uu,uu,uu,uu,uu,uu,uu,uu,uu,uu,uu,uu,uu,uu,uu,uu,uu,uu],[(0,some (.var [.asl 3 none,.d (iN p2),.d (.bool p3)])),(1,some (.var [.d .nl])),(2,some (.var [.d .nl])),(3,some (.arr (1,0) p4))],4,[.ref 0 0 0]⟩
def yP (p0 p1 p2:Int) (p3:Bool) (p4 p5:List D):Option Ret:=R 115 Tryz.f115 [((Go.Func.params Tryz.f115).toList.getD 0 0)] (yv Tryz.f115 6) ⟨[.ref 0 0 0,uu,.ref 1 0 0,.ref 2 0 0,.d (iN p0),.d (iN p1),uu,uu,uu,uu,uu,uu,uu,uu,uu,uu,uu,uu,uu,uu,uu,uu,uu,uu,uu,uu,uu,uu,uu,uu,uu,uu,uu,uu,uu,uu,uu,uu,uu,uu,uu,uu,uu,uu,uu,uu,uu,uu,uu,uu,uu,uu,uu,uu,uu,uu,uu,uu,uu,uu,uu,uu,uu,uu,uu,uu,uu,uu,uu,uu,uu,uu,uu,uu,uu,uu,uu,uu,uu,uu,uu,uu,uu,uu,uu,uu,uu,uu,uu,uu,uu,uu,uu,uu,uu,uu,uu,uu,uu,uu,uu,uu,uu,uu,uu,uu,uu,uu,uu,uu,uu,uu,uu,uu,uu,uu,uu,uu,uu,uu,uu,uu,uu,uu,uu,uu,uu,uu,uu],[(0,some (.var [.asl 3 none,.d (iN p2),.d (.bool p3)])),(1,some (.var [.d .nl])),(2,some (.var [.asl 4 none])),(3,some (.arr (1,0) p4)),(4,some (.arr (5,0) p5))],5,[.ref 0 0 0]⟩
def BH (p0:ByteArray) (p1 p2:Int):Option Ret:=R 124 Tryz.f124 [] (yv Tryz.f124 4) ⟨[.d (.str p0),uu,uu,uu,uu,uu,uu,uu,uu,.d (iN p1),.d (iN p2),uu,uu,uu,uu,uu,uu,uu,uu],[],0,[]⟩
def BJ (p0:ByteArray) (p1:Int):Option Ret:=R 128 Tryz.f128 [] (yv Tryz.f128 2) ⟨[.d (.str p0),uu,uu,.d (iN p1),uu,uu,uu,uu,uu,uu,uu,uu,uu,uu,uu,uu,uu,uu],[],0,[]⟩
def DQ (p0:ByteArray) (p1:Int) (p2 p3 p4:List D):Option Ret:=R 129 Tryz.f129 [] (yv Tryz.f129 2) ⟨[uu,.d (.str p0),.ref 0 0 0,uu,uu,.d (iN p1),uu,uu,uu,uu,uu,uu,uu,uu,uu,uu,uu,uu,uu,uu,uu,uu],[(0,some (.var [.d (.rs (5,0) p2),.d (.rs (4,0) p3),.d (.rs (3,0) p4)]))],1,[]⟩
def zf (p0:List D) (p1 p2:Int) (p3 p4 p5:List D):Option Ret:=R 137 Tryz.f137 [((Go.Func.params Tryz.f137).toList.getD 0 0)] (yv Tryz.f137 4) ⟨[.ref 0 0 0,uu,uu,uu,uu,uu,uu,.asl 1 none,.asl 2 none,uu,uu,uu,uu,uu,uu,uu,uu,uu,uu,.d (.rs (5,0) p0),.d (iN p1),.d (iN p2),uu,uu,uu,uu,uu,uu,uu,uu,uu,uu,uu,uu,uu,uu,uu,uu,uu,uu,uu,uu,uu,uu,uu,uu,uu,uu,uu,uu,uu,uu,uu,uu,uu,uu,uu,uu,uu,uu,uu,uu,uu,uu,uu,uu,uu],[(0,some (.var [.asl 3 none])),(1,some (.arr (1,0) p3)),(2,some (.arr (1,0) p4)),(3,some (.arr (5,0) p5))],4,[.ref 0 0 0]⟩
def Db (p0:List D) (p1 p2 p3:Int):Option Ret:=R 140 Tryz.f140 [] (yv Tryz.f140 5) ⟨[.d (.rs (1,0) p0),.d (iN p1),uu,uu,uu,uu,uu,.d (iN p2),.d (iN p3),uu,uu,uu,uu,uu,uu,uu,uu,uu,uu,uu,uu,uu,uu,uu,uu,uu,uu,uu,uu,uu,uu,uu,uu,uu,uu,uu,uu,uu,uu,uu,uu,uu,uu,uu,uu,uu,uu,uu,uu,uu,uu,uu,uu,uu,uu],[],0,[]⟩
def z7 (p0:Int) (p1:List D) (p2 p3:Int):Option Ret:=R 142 Tryz.f142 [87] (yv Tryz.f142 2) ⟨[.ref 0 0 0,uu,.ref 1 0 0,.d (iN p0),uu,uu,uu,uu,uu,uu,uu,uu,uu,uu,uu,uu,uu,uu,uu,uu,uu,uu,uu,uu,uu,uu,uu,uu,uu,uu,uu,uu,uu,uu,uu,uu,uu,uu,uu,uu,uu,uu,uu,uu,uu,uu,uu,uu,uu,uu,uu,uu,uu,uu,uu,uu,uu,uu,uu,uu],[(0,some (.var [.d (.rs (1,0) p1),.d (iN p2),.d (iN p3)])),(1,some (.var [.d .nl,.d .nl,.d .nl]))],2,[.ref 0 0 0]⟩
def zM (p0:List D) (p1:Int) (p2 p3 p4:List D):Option Ret:=R 148 Tryz.f148 [((Go.Func.params Tryz.f148).toList.getD 0 0)] (yv Tryz.f148 3) ⟨[.ref 0 0 0,uu,.d (.rs (1,0) p0),uu,.ref 1 0 0,uu,uu,.asl 2 none,.d (iN p1),uu,uu,uu,uu,uu,uu,uu,uu,uu,uu,uu,uu,uu,uu,uu,uu,uu,uu,uu,uu,uu,uu,uu,uu,uu,uu,uu,uu,uu,uu,uu,uu,uu,uu,uu,uu,uu,uu,uu,uu,uu,uu,uu,uu,uu,uu,uu,uu,uu,uu,uu,uu,uu,uu],[(0,some (.var [.asl 3 none])),(1,some (.var [.d (.rs (5,0) p2)])),(2,some (.arr (1,0) p3)),(3,some (.arr (5,0) p4))],4,[.ref 0 0 0]⟩
def Bm (p0:List D) (p1:Int) (p2 p3:List D):Option Ret:=R 149 Tryz.f149 [] (yv Tryz.f149 3) ⟨[uu,.d (.rs (1,0) p0),.ref 0 0 0,uu,uu,.asl 1 none,.d (iN p1),uu,uu,uu,uu,uu,uu,uu,uu,uu,uu,uu,uu,uu,uu,uu,uu,uu,uu,uu,uu,uu,uu,uu,uu,uu,uu,uu,uu,uu,uu,uu,uu,uu,uu,uu,uu,uu,uu,uu,uu,uu,uu,uu,uu,uu,uu,uu,uu,uu,uu,uu,uu,uu,uu,uu,uu],[(0,some (.var [.d (.rs (5,0) p2)])),(1,some (.arr (1,0) p3))],2,[]⟩
def zG (p0:Int) (p1 p2:List D):Option Ret:=R 149 Tryz.f149 [] (yv Tryz.f149 7) ⟨[uu,uu,.ref 0 0 0,uu,uu,.asl 1 none,uu,.d (iN p0),uu,uu,uu,uu,uu,uu,uu,uu,uu,uu,uu,uu,uu,uu,uu,uu,uu,uu,uu,uu,uu,uu,uu,uu,uu,uu,uu,uu,uu,uu,uu,uu,uu,uu,uu,uu,uu,uu,uu,uu,uu,uu,uu,uu,uu,uu,uu,uu,uu,uu,uu,uu,uu,uu,uu],[(0,some (.var [.d (.rs (5,0) p1)])),(1,some (.arr (1,0) p2))],2,[]⟩
def EW (p0 p1:Int) (p2:List D) (p3 p4:Int):Option Ret:=R 154 Tryz.f154 [87] (yv Tryz.f154 4) ⟨[.ref 0 0 0,uu,.ref 1 0 0,.ref 2 0 0,.d (iN p0),.d (iN p1),uu,uu,uu,uu,uu,uu,uu,uu,uu,uu,uu,uu,uu],[(0,some (.var [.d (.rs (1,0) p2),.d (iN p3),.d (iN p4)])),(1,some (.var [.d .nl])),(2,some (.var [.d .nl]))],3,[.ref 0 0 0]⟩
def Am (p0 p1:Int) (p2:List D) (p3 p4:Int) (p5:List D):Option Ret:=R 154 Tryz.f154 [87] (yv Tryz.f154 4) ⟨[.ref 0 0 0,uu,.ref 1 0 0,.ref 2 0 0,.d (iN p0),.d (iN p1),uu,uu,uu,uu,uu,uu,uu,uu,uu,uu,uu,uu,uu],[(0,some (.var [.d (.rs (1,0) p2),.d (iN p3),.d (iN p4)])),(1,some (.var [.d .nl])),(2,some (.var [.asl 3 none])),(3,some (.arr (5,0) p5))],4,[.ref 0 0 0]⟩
def Cz (p0 p1:Int) (p2:List D) (p3 p4:Int) (p5 p6 p7:List D) (p8 p9 p10 p11 p12 p13 p14 p15 p16 p17 p18 p19 p20 p21:Int) (p22:List D):Option Ret:=R 172 Tryz.f172 [87] (yv Tryz.f172 2) ⟨[.ref 0 0 0,uu,uu,.d (iN p0),uu,.ref 1 0 0,.ref 2 0 0,uu,.ref 3 0 0,.d (iN p1),uu,uu,uu,uu,uu,uu,uu,uu,uu,uu,uu,uu,uu,uu,uu,uu,uu,uu,uu],[(0,some (.var [.d (.rs (1,0) p2),.d (iN p3),.d (iN p4)])),(1,some (.var [.d (.rs (5,0) p5),.d (.rs (4,0) p6),.d (.rs (3,0) p7)])),(2,some (.var [.asl 4 none,.d (iN p8),.d (iN p9),.d (iN p10),.d (iN p11),.d (iN p12),.d (iN p13),.d (iN p14)])),(3,some (.var [.d .nl,.d (iN p15),.d (iN p16),.d (iN p17),.d (iN p18),.d (iN p19),.d (iN p20),.d (iN p21)])),(4,some (.arr (5,0) p22))],5,[.ref 0 0 0]⟩
def Dk (p0:List D) (p1 p2 p3 p4:Int):Option Ret:=R 173 Tryz.f173 [] (yv Tryz.f173 6) ⟨[.d (.rs (1,0) p0),.d (iN p1),uu,uu,uu,uu,uu,.d (iN p2),.d (iN p3),.d (iN p4),uu,uu,uu,uu,uu,uu,uu,uu,uu,uu,uu,uu,uu,uu,uu,uu,uu,uu,uu,uu,uu,uu,uu,uu,uu,uu,uu,uu,uu,uu,uu,uu,uu,uu,uu,uu,uu,uu,uu,uu,uu,uu,uu,uu,uu,uu,uu,uu,uu],[],0,[]⟩
def AZ (p0:List D) (p1:ByteArray) (p2 p3:Int):Option Ret:=R 178 Tryz.f178 [] (yv Tryz.f178 2) ⟨[.d (.rs (3,0) p0),.fn 179 [.rp (1,1) [.str p1] 0 0],uu,uu,uu,uu,uu,.d (iN p2),.d (iN p3),uu,uu,uu,uu,uu,uu,uu,uu,uu,uu],[],0,[]⟩
def Ax (p0 p1:List D) (p2 p3:Int):Option Ret:=R 188 Tryz.f188 [] (yv Tryz.f188 2) ⟨[.d (.rs (1,0) p0),.fn 136 [.rp (1,1) [.rs (5,0) p1] 0 0],uu,uu,uu,uu,uu,.d (iN p2),.d (iN p3),uu,uu,uu,uu,uu,uu,uu,uu,uu,uu],[],0,[]⟩
def Cw (p0:List D) (p1 p2:Int) (p3 p4:List D):Option Ret:=R 189 Tryz.f189 [] (yv Tryz.f189 3) ⟨[uu,uu,.ref 0 0 0,uu,uu,.asl 1 none,uu,uu,uu,uu,uu,uu,uu,uu,.d (.rs (1,0) p0),.d (iN p1),.d (iN p2),uu,uu,uu,uu,uu,uu,uu,uu,uu,uu,uu,uu,uu,uu,uu,uu,uu,uu,uu,uu,uu,uu,uu,uu,uu,uu,uu,uu,uu,uu,uu,uu,uu,uu,uu,uu,uu,uu,uu,uu,uu,uu,uu,uu,uu],[(0,some (.var [.d (.rs (5,0) p3)])),(1,some (.arr (1,0) p4))],2,[]⟩
def zX (p0:Int) (p1 p2:List D):Option Ret:=R 189 Tryz.f189 [] (yv Tryz.f189 8) ⟨[uu,uu,.ref 0 0 0,uu,uu,.asl 1 none,uu,uu,.d (iN p0),uu,uu,uu,uu,uu,uu,uu,uu,uu,uu,uu,uu,uu,uu,uu,uu,uu,uu,uu,uu,uu,uu,uu,uu,uu,uu,uu,uu,uu,uu,uu,uu,uu,uu,uu,uu,uu,uu,uu,uu,uu,uu,uu,uu,uu,uu,uu,uu,uu,uu,uu,uu,uu],[(0,some (.var [.d (.rs (5,0) p1)])),(1,some (.arr (1,0) p2))],2,[]⟩
def zg (p0:ByteArray) (p1:Int) (p2 p3 p4 p5:List D):Option Ret:=R 191 Tryz.f191 [] (yv Tryz.f191 9) ⟨[uu,.d (.str p0),.ref 0 0 0,uu,.ref 1 0 0,uu,uu,uu,.asl 2 none,.ref 3 0 0,.asl 4 none,.d (iN p1),uu,uu,uu,uu,uu,uu,uu,uu,uu,uu,uu,uu,uu,uu,uu,uu,uu,uu,uu,uu,uu,uu,uu,uu,uu,uu,uu,uu,uu,uu,uu,uu,uu,uu,uu,uu,uu,uu,uu,uu,uu,uu,uu,uu,uu,uu,uu,uu,uu,uu,uu,uu,uu,uu,uu,uu,uu,uu,uu,uu,uu,uu,uu,uu,uu,uu,uu,uu,uu,uu,uu,uu,uu,uu,uu,uu,uu,uu,uu,uu,uu,uu,uu,uu,uu,uu,uu,uu,uu,uu,uu,uu,uu,uu,uu,uu,uu,uu,uu,uu,uu,uu,uu,uu,uu,uu,uu,uu,uu,uu,uu,uu,uu,uu,uu,uu,uu,uu,uu,uu,uu,uu,uu,uu,uu,uu,uu,uu,uu,uu,uu,uu,uu,uu,uu,uu,uu,uu,uu,uu,uu,uu,uu,uu,uu,uu,uu,uu,uu,uu,uu,uu,uu,uu,uu,uu,uu,uu],[(0,some (.var [.d (.rs (5,0) p2)])),(1,some (.var [.d .nl])),(2,some (.arr (1,0) p3)),(3,some (.var [.asl 5 none])),(4,some (.arr (2,2) p4)),(5,some (.arr (5,0) p5))],6,[]⟩
def za (p0:ByteArray) (p1:Nat) (p2:Int) (p3 p4 p5 p6:List D):Option Ret:=R 191 Tryz.f191 [] (yv Tryz.f191 9) ⟨[uu,.d (.str p0),.ref 0 0 0,uu,.ref 1 0 0,uu,uu,uu,.asl 2 none,.ref 3 0 0,.asl 4 (some (0,p1)),.d (iN p2),uu,uu,uu,uu,uu,uu,uu,uu,uu,uu,uu,uu,uu,uu,uu,uu,uu,uu,uu,uu,uu,uu,uu,uu,uu,uu,uu,uu,uu,uu,uu,uu,uu,uu,uu,uu,uu,uu,uu,uu,uu,uu,uu,uu,uu,uu,uu,uu,uu,uu,uu,uu,uu,uu,uu,uu,uu,uu,uu,uu,uu,uu,uu,uu,uu,uu,uu,uu,uu,uu,uu,uu,uu,uu,uu,uu,uu,uu,uu,uu,uu,uu,uu,uu,uu,uu,uu,uu,uu,uu,uu,uu,uu,uu,uu,uu,uu,uu,uu,uu,uu,uu,uu,uu,uu,uu,uu,uu,uu,uu,uu,uu,uu,uu,uu,uu,uu,uu,uu,uu,uu,uu,uu,uu,uu,uu,uu,uu,uu,uu,uu,uu,uu,uu,uu,uu,uu,uu,uu,uu,uu,uu,uu,uu,uu,uu,uu,uu,uu,uu,uu,uu,uu,uu,uu,uu,uu,uu],[(0,some (.var [.d (.rs (5,0) p3)])),(1,some (.var [.d .nl])),(2,some (.arr (1,0) p4)),(3,some (.var [.asl 5 none])),(4,some (.arr (2,2) p5)),(5,some (.arr (5,0) p6))],6,[]⟩
def AA (p0:ByteArray) (p1 p2 p3:Int) (p4 p5 p6 p7:List D):Option Ret:=R 191 Tryz.f191 [] (yv Tryz.f191 27) ⟨[uu,.d (.str p0),.ref 0 0 0,uu,.ref 1 0 0,uu,uu,uu,.asl 2 none,.ref 3 0 0,.asl 4 none,.d (iN p1),.d (iN p2),uu,uu,.d (iN p3),uu,uu,uu,uu,uu,uu,uu,uu,uu,uu,uu,uu,uu,uu,uu,uu,uu,uu,uu,uu,uu,uu,uu,uu,uu,uu,uu,uu,uu,uu,uu,uu,uu,uu,uu,uu,uu,uu,uu,uu,uu,uu,uu,uu,uu,uu,uu,uu,uu,uu,uu,uu,uu,uu,uu,uu,uu,uu,uu,uu,uu,uu,uu,uu,uu,uu,uu,uu,uu,uu,uu,uu,uu,uu,uu,uu,uu,uu,uu,uu,uu,uu,uu,uu,uu,uu,uu,uu,uu,uu,uu,uu,uu,uu,uu,uu,uu,uu,uu,uu,uu,uu,uu,uu,uu,uu,uu,uu,uu,uu,uu,uu,uu,uu,uu,uu,uu,uu,uu,uu,uu,uu,uu,uu,uu,uu,uu,uu,uu,uu,uu,uu,uu,uu,uu,uu,uu,uu,uu,uu,uu,uu,uu,uu,uu,uu,uu,uu,uu,uu,uu,uu,uu,uu],[(0,some (.var [.d (.rs (5,0) p4)])),(1,some (.var [.d .nl])),(2,some (.arr (1,0) p5)),(3,some (.var [.asl 5 none])),(4,some (.arr (2,2) p6)),(5,some (.arr (5,0) p7))],6,[]⟩
def z5 (p0:ByteArray) (p1:Nat) (p2 p3 p4:Int) (p5 p6 p7 p8:List D):Option Ret:=R 191 Tryz.f191 [] (yv Tryz.f191 27) ⟨[uu,.d (.str p0),.ref 0 0 0,uu,.ref 1 0 0,uu,uu,uu,.asl 2 none,.ref 3 0 0,.asl 4 (some (0,p1)),.d (iN p2),.d (iN p3),uu,uu,.d (iN p4),uu,uu,uu,uu,uu,uu,uu,uu,uu,uu,uu,uu,uu,uu,uu,uu,uu,uu,uu,uu,uu,uu,uu,uu,uu,uu,uu,uu,uu,uu,uu,uu,uu,uu,uu,uu,uu,uu,uu,uu,uu,uu,uu,uu,uu,uu,uu,uu,uu,uu,uu,uu,uu,uu,uu,uu,uu,uu,uu,uu,uu,uu,uu,uu,uu,uu,uu,uu,uu,uu,uu,uu,uu,uu,uu,uu,uu,uu,uu,uu,uu,uu,uu,uu,uu,uu,uu,uu,uu,uu,uu,uu,uu,uu,uu,uu,uu,uu,uu,uu,uu,uu,uu,uu,uu,uu,uu,uu,uu,uu,uu,uu,uu,uu,uu,uu,uu,uu,uu,uu,uu,uu,uu,uu,uu,uu,uu,uu,uu,uu,uu,uu,uu,uu,uu,uu,uu,uu,uu,uu,uu,uu,uu,uu,uu,uu,uu,uu,uu,uu,uu,uu,uu,uu],[(0,some (.var [.d (.rs (5,0) p5)])),(1,some (.var [.d .nl])),(2,some (.arr (1,0) p6)),(3,some (.var [.asl 5 none])),(4,some (.arr (2,2) p7)),(5,some (.arr (5,0) p8))],6,[]⟩
def CN (p0:List D) (p1:Int) (p2:List D):Option Ret:=R 193 Tryz.f193 [] (yv Tryz.f193 4) ⟨[uu,.d (.rs (1,0) p0),.ref 0 0 0,uu,.ref 1 0 0,uu,uu,.d (iN p1),uu,uu,uu,uu,uu,uu,uu,uu,uu,uu,uu,uu,uu,uu,uu,uu,uu,uu,uu,uu,uu,uu,uu,uu,uu,uu,uu,uu,uu,uu,uu,uu,uu,uu,uu,uu,uu,uu,uu,uu,uu,uu,uu,uu,uu,uu,uu,uu,uu,uu,uu,uu,uu,uu,uu,uu,uu,uu,uu,uu,uu,uu,uu,uu,uu,uu,uu,uu,uu,uu,uu,uu,uu,uu],[(0,some (.var [.d (.rs (5,0) p2)])),(1,some (.var [.d .nl,.d .nl,.d .nl]))],2,[]⟩
def DH (p0:List D) (p1 p2:Int) (p3:List D):Option Ret:=R 193 Tryz.f193 [] (yv Tryz.f193 10) ⟨[uu,.d (.rs (1,0) p0),uu,uu,.ref 0 0 0,uu,uu,uu,.ref 1 0 0,.d (iN p1),uu,uu,uu,uu,uu,uu,uu,uu,uu,uu,uu,uu,uu,uu,uu,uu,uu,uu,uu,uu,uu,uu,uu,uu,uu,uu,uu,uu,uu,uu,uu,uu,uu,uu,uu,uu,uu,uu,uu,uu,uu,uu,uu,uu,uu,uu,uu,uu,uu,uu,uu,uu,uu,uu,uu,uu,uu,uu,uu,uu,uu,uu,uu,uu,uu,uu,uu,uu,uu,uu,uu,uu],[(0,some (.var [.d .nl,.d .nl,.d .nl])),(1,some (.var [.asl 2 none,.d .nl,.d .nl,.d (iN p2)])),(2,some (.arr (5,0) p3))],3,[]⟩
def Ba (p0:List D) (p1 p2:Int) (p3 p4 p5:List D):Option Ret:=R 193 Tryz.f193 [] (yv Tryz.f193 10) ⟨[uu,.d (.rs (1,0) p0),uu,uu,.ref 0 0 0,uu,uu,uu,.ref 1 0 0,.d (iN p1),uu,uu,uu,uu,uu,uu,uu,uu,uu,uu,uu,uu,uu,uu,uu,uu,uu,uu,uu,uu,uu,uu,uu,uu,uu,uu,uu,uu,uu,uu,uu,uu,uu,uu,uu,uu,uu,uu,uu,uu,uu,uu,uu,uu,uu,uu,uu,uu,uu,uu,uu,uu,uu,uu,uu,uu,uu,uu,uu,uu,uu,uu,uu,uu,uu,uu,uu,uu,uu,uu,uu,uu],[(0,some (.var [.d .nl,.d .nl,.d .nl])),(1,some (.var [.asl 2 none,.asl 3 none,.asl 4 none,.d (iN p2)])),(2,some (.arr (5,0) p3)),(3,some (.arr (4,0) p4)),(4,some (.arr (3,0) p5))],5,[]⟩
def Ch (p0:Int) (p1:ByteArray):Option Ret:=R 202 Tryz.f202 [] (yv Tryz.f202 6) ⟨[.d (iN p0),uu,uu,.d (.str p1),uu,uu,uu,uu,uu,uu,uu,uu,uu,uu,uu,uu,uu,uu,uu,uu,uu,uu,uu,uu,uu],[],0,[]⟩
def Dr (p0:List D) (p1 p2:Int) (p3:List D):Option Ret:=R 210 Tryz.f210 [((Go.Func.params Tryz.f210).toList.getD 0 0)] (yv Tryz.f210 3) ⟨[.ref 0 0 0,.d (.rs (1,0) p0),uu,uu,uu,.d (iN p1),.d (iN p2),uu,uu,uu,uu,uu,uu,uu,uu,uu,uu,uu,uu,uu,uu,uu,uu,uu,uu,uu],[(0,some (.var [.asl 1 none])),(1,some (.arr (5,0) p3))],2,[.ref 0 0 0]⟩
def DU (p0 p1:Int) (p2:List D):Option Ret:=R 216 Tryz.f216 [] (yv Tryz.f216 1) ⟨[uu,.d (iN p0),.d (iN p1),.ref 0 0 0,uu,uu,uu,uu,uu,uu,uu,uu,uu,uu,uu,uu,uu,uu,uu,uu,uu,uu,uu,uu,uu,uu,uu,uu,uu,uu,uu,uu,uu,uu,uu,uu,uu,uu,uu,uu],[(0,some (.var [.d (.rs (5,0) p2)]))],1,[]⟩
def Du (p0 p1 p2 p3 p4 p5 p6 p7 p8:Int) (p9 p10 p11 p12 p13:List D):Option Ret:=R 219 Tryz.f219 [((Go.Func.params Tryz.f219).toList.getD 1 0)] (yv Tryz.f219 3) ⟨[uu,.ref 0 0 0,uu,.d (iN p0),.ref 1 0 0,uu,uu,uu,uu,.asl 2 none,.d (iN p1),uu,uu,uu,uu,uu,uu,uu,uu,uu,uu,uu,uu,uu,uu,uu,uu,uu,uu,uu,uu,uu,uu,uu,uu,uu,uu,uu,uu,uu,uu,uu,uu,uu,uu,uu,uu,uu,uu,uu,uu,uu,uu,uu],[(0,some (.var [.asl 3 none,.d (iN p2),.d (iN p3),.d (iN p4),.d (iN p5),.d (iN p6),.d (iN p7),.d (iN p8)])),(1,some (.var [.d (.rs (5,0) p9),.d (.rs (4,0) p10),.d (.rs (3,0) p11)])),(2,some (.arr (1,0) p12)),(3,some (.arr (5,0) p13))],4,[.ref 0 0 0]⟩
def zQ (p0:List D) (p1 p2 p3:Int):Option Ret:=R 221 Tryz.f221 [] (yv Tryz.f221 2) ⟨[.d (.rs (1,0) p0),.d (.int .u8 p1),uu,uu,uu,uu,uu,.d (iN p2),.d (iN p3),uu,uu,uu,uu,uu,uu,uu,uu,uu,uu],[],0,[]⟩
def z9 (p0 p1:ByteArray) (p2 p3:Int):Option Ret:=R 227 Tryz.f227 [] (yv Tryz.f227 8) ⟨[.d (.str p0),uu,uu,uu,.d (.str p1),.d (iN p2),.d (iN p3),uu,uu,uu,uu,uu,uu,uu,uu,uu,uu,uu,uu,uu,uu,uu,uu,uu,uu,uu,uu,uu,uu,uu,uu,uu,uu,uu,uu,uu,uu,uu,uu,uu,uu,uu,uu,uu,uu,uu,uu,uu,uu,uu,uu,uu,uu,uu,uu,uu,uu,uu,uu,uu,uu],[],0,[]⟩
def Cg (p0:Int) (p1 p2:List D):Option Ret:=R 228 Tryz.f228 [] (yv Tryz.f228 2) ⟨[uu,.d (iN p0),.ref 0 0 0,uu,uu,uu,.asl 1 none,uu,uu,uu,uu,uu,uu,uu,uu,uu,uu,uu,uu,uu,uu,uu,uu,uu,uu,uu,uu,uu,uu,uu,uu,uu,uu,uu,uu,uu,uu,uu,uu],[(0,some (.var [.d (.rs (5,0) p1)])),(1,some (.arr (1,0) p2))],2,[]⟩
def AM (p0:ByteArray) (p1 p2:List D) (p3 p4:Int) (p5 p6 p7:List D):Option Ret:=R 229 Tryz.f229 [((Go.Func.params Tryz.f229).toList.getD 0 0)] (yv Tryz.f229 1) ⟨[.ref 0 0 0,.d (.str p0),.d (.rs (1,0) p1),.d (.rs (1,0) p2),uu,uu,uu,uu,.d (iN p3),uu,uu,uu,uu,uu,uu,uu,uu,uu,uu,uu,uu,uu,uu,uu,uu,uu,uu,uu,uu,uu,uu,uu,uu,uu,uu,uu,uu,uu,uu,uu,uu,uu,uu,uu,uu,uu,uu,uu,uu,uu,uu,uu,uu,uu,uu,uu,uu,uu,uu,uu,uu,uu,uu,uu],[(0,some (.var [.asl 1 none,.asl 2 none,.asl 3 none,.d (iN p4)])),(1,some (.arr (5,0) p5)),(2,some (.arr (4,0) p6)),(3,some (.arr (3,0) p7))],4,[.ref 0 0 0]⟩
def z6 (p0:List D) (p1 p2:Int) (p3 p4 p5 p6:List D):Option Ret:=R 231 Tryz.f231 [((Go.Func.params Tryz.f231).toList.getD 0 0)] (yv Tryz.f231 5) ⟨[.ref 0 0 0,.d (.rs (1,0) p0),uu,uu,uu,.asl 1 none,.d (iN p1),uu,uu,uu,uu,uu,uu,uu,uu,uu,uu,uu,uu,uu,uu,uu,uu,uu,uu,uu,uu,uu,uu,uu,uu,uu,uu,uu,uu,uu,uu,uu,uu,uu,uu,uu,uu,uu,uu,uu,uu,uu,uu,uu,uu,uu,uu,uu,uu,uu,uu,uu,uu,uu,uu,uu,uu,uu,uu,uu,uu,uu,uu,uu,uu,uu,uu,uu,uu,uu,uu,uu,uu,uu],[(0,some (.var [.asl 2 none,.asl 3 none,.asl 4 none,.d (iN p2)])),(1,some (.arr (1,0) p3)),(2,some (.arr (5,0) p4)),(3,some (.arr (4,0) p5)),(4,some (.arr (3,0) p6))],5,[.ref 0 0 0]⟩
def zR (p0 p1:Int) (p2 p3 p4 p5:List D):Option Ret:=R 231 Tryz.f231 [((Go.Func.params Tryz.f231).toList.getD 0 0)] (yv Tryz.f231 12) ⟨[.ref 0 0 0,uu,uu,uu,uu,.asl 1 none,uu,uu,uu,.d (iN p0),uu,uu,uu,uu,uu,uu,uu,uu,uu,uu,uu,uu,uu,uu,uu,uu,uu,uu,uu,uu,uu,uu,uu,uu,uu,uu,uu,uu,uu,uu,uu,uu,uu,uu,uu,uu,uu,uu,uu,uu,uu,uu,uu,uu,uu,uu,uu,uu,uu,uu,uu,uu,uu,uu,uu,uu,uu,uu,uu,uu,uu,uu,uu,uu,uu,uu,uu,uu,uu,uu],[(0,some (.var [.asl 2 none,.asl 3 none,.asl 4 none,.d (iN p1)])),(1,some (.arr (1,0) p2)),(2,some (.arr (5,0) p3)),(3,some (.arr (4,0) p4)),(4,some (.arr (3,0) p5))],5,[.ref 0 0 0]⟩
def AP (p0 p1 p2:Int) (p3 p4 p5 p6:List D):Option Ret:=R 231 Tryz.f231 [((Go.Func.params Tryz.f231).toList.getD 0 0)] (yv Tryz.f231 15) ⟨[.ref 0 0 0,uu,uu,uu,uu,.asl 1 none,uu,uu,uu,.d (iN p0),.d (iN p1),uu,uu,uu,uu,uu,uu,uu,uu,uu,uu,uu,uu,uu,uu,uu,uu,uu,uu,uu,uu,uu,uu,uu,uu,uu,uu,uu,uu,uu,uu,uu,uu,uu,uu,uu,uu,uu,uu,uu,uu,uu,uu,uu,uu,uu,uu,uu,uu,uu,uu,uu,uu,uu,uu,uu,uu,uu,uu,uu,uu,uu,uu,uu,uu,uu,uu,uu,uu,uu],[(0,some (.var [.asl 2 none,.asl 3 none,.asl 4 none,.d (iN p2)])),(1,some (.arr (1,0) p3)),(2,some (.arr (5,0) p4)),(3,some (.arr (4,0) p5)),(4,some (.arr (3,0) p6))],5,[.ref 0 0 0]⟩
def Dp (p0:ByteArray) (p1:Int) (p2:List D):Option Ret:=R 232 Tryz.f232 [] (yv Tryz.f232 3) ⟨[.d (.str p0),uu,uu,.asl 0 none,.d (iN p1),uu,uu,uu,uu,uu,uu,uu,uu,uu,uu,uu,uu],[(0,some (.arr (1,0) p2))],1,[]⟩
def BM (p0 p1:List D) (p2 p3:Int) (p4 p5 p6:List D):Option Ret:=R 236 Tryz.f236 [((Go.Func.params Tryz.f236).toList.getD 0 0)] (yv Tryz.f236 1) ⟨[.ref 0 0 0,.d (.rs (1,0) p0),.d (.rs (1,1) p1),uu,uu,uu,.d (iN p2),uu,uu,uu,uu,uu,uu,uu,uu,uu,uu,uu,uu,uu,uu,uu,uu,uu,uu,uu,uu,uu,uu,uu,uu,uu],[(0,some (.var [.asl 1 none,.asl 2 none,.asl 3 none,.d (iN p3)])),(1,some (.arr (5,0) p4)),(2,some (.arr (4,0) p5)),(3,some (.arr (3,0) p6))],4,[.ref 0 0 0]⟩
def Aq (p0:List D) (p1 p2:Int) (p3 p4 p5 p6:List D):Option Ret:=R 244 Tryz.f244 [((Go.Func.params Tryz.f244).toList.getD 0 0)] (yv Tryz.f244 25) ⟨[.ref 0 0 0,uu,.d (.rs (1,1) p0),uu,uu,uu,uu,uu,uu,.asl 1 none,uu,uu,.d (iN p1),uu,uu,uu,uu,uu,uu,uu,uu,uu,uu,uu,uu,uu,uu,uu,uu,uu,uu,uu,uu,uu,uu,uu,uu,uu,uu,uu,uu,uu,uu,uu,uu,uu,uu,uu,uu,uu,uu,uu,uu,uu,uu,uu,uu,uu,uu,uu,uu,uu,uu,uu,uu,uu,uu,uu,uu,uu,uu,uu,uu,uu,uu,uu,uu,uu,uu,uu,uu,uu,uu,uu,uu,uu,uu,uu,uu,uu,uu,uu,uu,uu,uu,uu,uu,uu,uu,uu,uu,uu,uu,uu,uu,uu,uu,uu,uu,uu,uu,uu,uu,uu,uu,uu,uu,uu,uu,uu,uu,uu,uu,uu,uu,uu,uu,uu,uu,uu,uu,uu],[(0,some (.var [.asl 2 none,.asl 3 none,.asl 4 none,.d (iN p2)])),(1,some (.arr (1,0) p3)),(2,some (.arr (5,0) p4)),(3,some (.arr (4,0) p5)),(4,some (.arr (3,0) p6))],5,[.ref 0 0 0]⟩
def Cy (p0:List D) (p1:ByteArray) (p2:Int):Option Ret:=R 248 Tryz.f248 [] (yv Tryz.f248 2) ⟨[.d (.rs (1,1) p0),.d (.str p1),uu,uu,uu,uu,.d (iN p2),uu,uu,uu,uu,uu,uu,uu,uu,uu,uu,uu,uu,uu,uu,uu,uu,uu,uu,uu,uu,uu,uu,uu,uu,uu,uu,uu],[],0,[]⟩
def DT (p0:List D) (p1:ByteArray) (p2 p3:Int):Option Ret:=R 248 Tryz.f248 [] (yv Tryz.f248 5) ⟨[.d (.rs (1,1) p0),.d (.str p1),uu,uu,uu,uu,.d (iN p2),.d (iN p3),uu,uu,uu,uu,uu,uu,uu,uu,uu,uu,uu,uu,uu,uu,uu,uu,uu,uu,uu,uu,uu,uu,uu,uu,uu,uu],[],0,[]⟩
def z3 (p0:Int) (p1 p2 p3:List D):Option Ret:=R 252 Tryz.f252 [] (yv Tryz.f252 4) ⟨[uu,.ref 0 0 0,uu,.asl 1 none,.asl 2 none,.d (iN p0),uu,uu,uu,uu,uu,uu,uu,uu,uu,uu,uu,uu,uu,uu,uu,uu,uu,uu,uu,uu,uu,uu,uu,uu,uu,uu,uu,uu,uu,uu,uu,uu,uu,uu,uu,uu,uu,uu,uu,uu,uu,uu,uu,uu,uu,uu,uu,uu,uu,uu,uu,uu,uu,uu,uu,uu,uu,uu,uu,uu,uu,uu,uu,uu],[(0,some (.var [.d (.rs (5,0) p1)])),(1,some (.arr (1,0) p2)),(2,some (.arr (5,0) p3))],3,[]⟩
def zl (p0 p1 p2:Int) (p3 p4 p5:List D) (p6 p7:Int) (p8:ByteArray) (p9 p10:Int):Option Ret:=R 252 Tryz.f252 [] (yv Tryz.f252 16) ⟨[uu,.ref 0 0 0,uu,.asl 1 none,.asl 2 none,.d (iN p0),.ref 3 0 0,.d (iN p1),.d (iN p2),uu,uu,uu,uu,uu,uu,uu,uu,uu,uu,uu,uu,uu,uu,uu,uu,uu,uu,uu,uu,uu,uu,uu,uu,uu,uu,uu,uu,uu,uu,uu,uu,uu,uu,uu,uu,uu,uu,uu,uu,uu,uu,uu,uu,uu,uu,uu,uu,uu,uu,uu,uu,uu,uu,uu,uu,uu,uu,uu,uu,uu],[(0,some (.var [.d (.rs (5,0) p3)])),(1,some (.arr (1,0) p4)),(2,some (.arr (5,0) p5)),(3,some (.var [.d (iN p6),.d (iN p7),.d (.str p8),.d (iN p9),.d (iN p10)]))],4,[]⟩
end
end Go.Eng
/-! the functions as the interpreter has them -/
namespace Go.Eng
open Go.Proofs Go.Proofs.Tryz
set_option maxRecDepth 100000
theorem Ua (p l d:List D) (h:Int) (s:ByteArray) (x e:List D):V 249 [.op [.os (5,0) p,.os (4,0) l,.os (3,0) d,iN h],.str s,.rs (1,0) x,.rs (1,1) e] =
 shd (grd (
 cW x.length (some (1)) none) (ck2 236 [.op [.os (5,0) p,.os (4,0) l,.os (3,0) d,iN h],(.rs (1,0) (wu x (1))),.rs (1,1) e] fun a b c f=>(((some ((.tup []),[.op [.os (5,0) a,.os (4,0) b,.os (3,0) c,iN f]])))))) fun T4:Option Ret=>shd (br (kc s { data:=#[108,101,116] })
 (
 br (decide (ni x.length >= 4))
 (grd (cW x.length (some (1)) (some (2))) (ck4 231 [.op [.os (5,0) p,.os (4,0) l,.os (3,0) d,iN h],(.rs (1,0) (wu (wt x (2)) (1)))] fun a b c f g=>((grd (cW x.length (some (3)) none) (ck2 254 [.op [.os (5,0) b,.os (4,0) c,.os (3,0) f,iN g],.rs (1,0) a,(.rs (1,0) (wu x (3))),.rs (1,1) e] fun i j k m=>(((grd (decide (0 <= 2) && decide (2 < ni x.length)) (cT x 2 fun n=>
 asI .i64 n fun o=>ck2 244 [.op [.os (5,0) i,.os (4,0) j,.os (3,0) k,iN m],iN o,.rs (1,1) e] fun q r t u=>(((ck1 237 [.op [.os (5,0) q,.os (4,0) r,.os (3,0) t,iN u],(.agg [iN (7),iN (0),iN (1),.str ({ data:=#[] })])] fun _ v w y z=>((some ((.tup []),[.op [.os (5,0) v,.os (4,0) w,.os (3,0) y,iN z]])))))))))))))))
 (some ((.tup []),[.op [.os (5,0) p,.os (4,0) l,.os (3,0) d,iN (1)]])))
 (some ((.tup []),[.op [.os (5,0) p,.os (4,0) l,.os (3,0) d,iN (1)]]))) fun T3:Option Ret=>shd (grd (decide (0 <= 1) && decide (1 < ni x.length)) (cT x 1 fun a=>
 asI .i64 a fun b=>ck2 244 [.op [.os (5,0) p,.os (4,0) l,.os (3,0) d,iN h],iN b,.rs (1,1) e] fun c f g i=>(((ck1 237 [.op [.os (5,0) c,.os (4,0) f,.os (3,0) g,iN i],(.agg [iN (4),iN (0),iN (0),.str ({ data:=#[] })])] fun j k m n o=>((grd (decide (0 <= 2) && decide (2 < ni x.length)) (cT x 2 fun q=>
 asI .i64 q fun r=>ck2 244 [.op [.os (5,0) k,.os (4,0) m,.os (3,0) n,iN o],iN r,.rs (1,1) e] fun t u v w=>(((ck1 237 [.op [.os (5,0) t,.os (4,0) u,.os (3,0) v,iN w],(.agg [iN (5),iN (0),iN (0),.str ({ data:=#[] })])] fun y z A B C=>((ck2 253 [.op [.os (5,0) z,.os (4,0) A,.os (3,0) B,iN C],iN j] fun E F G H=>(((grd (decide (0 <= 3) && decide (3 < ni x.length)) (cT x 3 fun I=>
 asI .i64 I fun J=>ck2 244 [.op [.os (5,0) E,.os (4,0) F,.os (3,0) G,iN H],iN J,.rs (1,1) e] fun K L M N=>(((ck2 253 [.op [.os (5,0) K,.os (4,0) L,.os (3,0) M,iN N],iN y] fun O P Q R=>(((some ((.tup []),[.op [.os (5,0) O,.os (4,0) P,.os (3,0) Q,iN R]])))))))))))))))))))))))) fun T2:Option Ret=>shd (br (kc s { data:=#[102,110] })
 (
 br (decide (ni x.length >= 3))
 (
 grd (decide (0 <= 1) && decide (1 < ni x.length)) (cT x 1 fun a=>
 asI .i64 a fun b=>ck3 228 [.agg [.rs (5,0) p],iN b] fun c f=>((br (!f)
 (some ((.tup []),[.op [.os (5,0) p,.os (4,0) l,.os (3,0) d,iN (1)]]))
 (ck4 231 [.op [.os (5,0) p,.os (4,0) l,.os (3,0) d,iN h],.rs (1,0) c] fun g i j k m=>((grd (cW x.length (some (2)) none) (ck2 254 [.op [.os (5,0) i,.os (4,0) j,.os (3,0) k,iN m],.rs (1,0) g,(.rs (1,0) (wu x (2))),.rs (1,1) e] fun n o q r=>(((some ((.tup []),[.op [.os (5,0) n,.os (4,0) o,.os (3,0) q,iN r]]))))))))))))
 T3)
 T3) fun T1:Option Ret=>
 br (kc s { data:=#[113,117,111,116,101] })
 (
 br (ni x.length == 2)
 (
 grd (decide (0 <= 1) && decide (1 < ni x.length)) (cT x 1 fun a=>
 asI .i64 a fun b=>ck1 237 [.op [.os (5,0) p,.os (4,0) l,.os (3,0) d,iN h],(.agg [iN (1),iN b,iN (0),.str ({ data:=#[] })])] fun _ c f g i=>((some ((.tup []),[.op [.os (5,0) c,.os (4,0) f,.os (3,0) g,iN i]])))))
 (
 br (kc s { data:=#[105,102] })
 (
 br (ni x.length == 4)
 T2
 (
 br (kc s { data:=#[100,111] })
 (
 br (decide (ni x.length >= 2))
 T4
 T1)
 T1))
 (
 br (kc s { data:=#[100,111] })
 (
 br (decide (ni x.length >= 2))
 T4
 T1)
 T1)))
 (
 br (kc s { data:=#[105,102] })
 (
 br (ni x.length == 4)
 T2
 (
 br (kc s { data:=#[100,111] })
 (
 br (decide (ni x.length >= 2))
 T4
 T1)
 T1))
 (
 br (kc s { data:=#[100,111] })
 (
 br (decide (ni x.length >= 2))
 T4
 T1)
 T1)):=by
 exact (yD Tryz.func249 rfl _).trans (by kernel_rfl)
theorem Mu (p:List D) (m1 m2 m3 m4 m5 m6 m7:Int) :V 218 [.op [.os (5,0) p,iN m1,iN m2,iN m3,iN m4,iN m5,iN m6,iN m7]] =
 grd (decide (0 <= m2) && decide (m2 < ni p.length)) (cT p m2.toNat fun a=>
 tk1 a fun b _ _ c d=>(br (b != 5)
 (some ((.tup [iN (0),.bool false]),[.op [.os (5,0) p,iN m1,iN m2,iN m3,iN m4,iN m5,iN m6,iN m7]]))
 (some ((.tup [iN c,.bool true]),[.op [.os (5,0) p,iN m1,iN d,iN m3,iN m4,iN m5,iN m6,iN m7]])))):=by
 exact (yD Tryz.func218 rfl _).trans (by kernel_rfl)
theorem Mg (a0_0:List D) (a0_1 a0_2 a0_3 a0_4 a0_5 a0_6 a0_7:Int):V 63 [.agg [.rs (5,0) a0_0,iN a0_1,iN a0_2,iN a0_3,iN a0_4,iN a0_5,iN a0_6,iN a0_7]] =
 ck9 131 [.agg [.rs (5,0) a0_0]] fun a=>((some ((.agg [.os (5,0) a,iN a0_1,iN a0_2,iN a0_3,iN a0_4,iN a0_5,iN a0_6,iN a0_7]),[]))):=by
 exact (yD Tryz.func63 rfl _).trans (by kernel_rfl)
theorem GZ (p0:List D) (p1 p2:Int) (p3 p4:List D):Cw p0 p1 p2 p3 p4 =
 br (decide (p2 < p1))
 (
 grd (decide (0 <= p2) && decide (p2 < ni p0.length)) (cT p0 p2.toNat fun a=>
 asI .i64 a fun b=>grd (decide (0 <= b) && decide (b < ni p4.length)) (cT p4 b.toNat fun _=>
 nam (List.set p4 b.toNat (D.bool true)) fun c=>
 Cw p0 p1 (w6 (p2 + 1)) p3 c)))
 (zX (w6 (ni p3.length - 1)) p3 p4):=by
 exact (yC _ _ _).trans (by kernel_rfl)
theorem Gr (p0:ByteArray) (p1:Int):BJ p0 p1 =
 br (decide (p1 < ni (ByteArray.size p0)))
 (grd (decide (0 <= p1) && decide (p1 < ni (ByteArray.size p0))) (ck6 180 [.int .u8 (bt p0 p1)] fun a=>(br (!a)
 (some ((.bool false),[]))
 (BJ p0 (w6 (p1 + 1))))))
 (ck6 62 [(iN (ni (ByteArray.size p0))),iN (1),iN (12)] fun a=>(some ((.bool a),[]))):=by
 exact (yC _ _ _).trans (by kernel_rfl)
theorem Ic (p0:ByteArray) (p1:Int) (p2 p3 p4:List D):DQ p0 p1 p2 p3 p4 =
 br (decide (p1 < ni p4.length))
 (
 grd (decide (0 <= p1) && decide (p1 < ni p4.length)) (cT p4 p1.toNat fun a=>
 asAgg a fun b=>cT b 0 fun c=>
 asS c fun d=>br (kc d p0)
 (some ((iN p1),[]))
 (DQ p0 (w6 (p1 + 1)) p2 p3 p4)))
 (some ((iN (-1)),[])):=by
 exact (yC _ _ _).trans (by kernel_rfl)
theorem Lx (b:List D) (i:Int) (k:Bool) :V 72 [.op [.os (1,0) b,iN i,.bool k]] =
 ck7 71 [.op [.os (1,0) b,iN i,.bool k]] fun a c d e=>((BI a (0) d e c)):=by
 exact (yD Tryz.func72 rfl _).trans (by kernel_rfl)
theorem Uc (a0_:Bool):V 251 [.bool a0_] =
 br a0_
 (some ((.agg [iN (2),iN (1),.str ({ data:=#[] }),iN (0),iN (0)]),[]))
 (some ((.agg [iN (2),iN (0),.str ({ data:=#[] }),iN (0),iN (0)]),[])):=by
 exact (yD Tryz.func251 rfl _).trans (by kernel_rfl)
theorem PR (p l d:List D) (h:Int) (s:ByteArray) (n x:List D):V 229 [.op [.os (5,0) p,.os (4,0) l,.os (3,0) d,iN h],.str s,.rs (1,0) n,.rs (1,0) x] =
 AM s n x (0) h p l d:=by
 exact (yD Tryz.func229 rfl _).trans (by kernel_rfl)
theorem XG (a0_ a1_ a2_:Int):V 62 [iN a0_,iN a1_,iN a2_] =
 br (decide (a0_ >= a1_))
 (some ((.bool (decide (a0_ <= a2_))),[]))
 (some ((.bool false),[])):=by
 exact (yD Tryz.func62 rfl _).trans (by kernel_rfl)
theorem Mo (a0_0:List D):V 147 [.agg [.rs (5,0) a0_0]] =
 grd (decide (ni (List.length ([]++a0_0)) <= LIM)) (nam ([]++a0_0) fun a=>
 some ((.agg [.os (5,0) a]),[])):=by
 exact (yD Tryz.func147 rfl _).trans (by kernel_rfl)
theorem Iz (a0_:List D) (a1_:Int):V 221 [.rs (1,0) a0_,.int .u8 a1_] =
 zQ a0_ a1_ (ni a0_.length) (0):=by
 exact (yD Tryz.func221 rfl _).trans (by kernel_rfl)
theorem TG (a0_:Int):V 69 [iN a0_] =
 br (decide (a0_ < 0))
 (some ((.os (1,0) []),[]))
 (Dq a0_ []):=by
 exact (yD Tryz.func69 rfl _).trans (by kernel_rfl)
end Go.Eng
/-! the functions as the interpreter has them -/
namespace Go.Eng
open Go.Proofs Go.Proofs.Tryz
set_option maxRecDepth 100000
theorem Fe (p0 p1 p2:Int) (p3:Bool) (p4 p5:List D):yP p0 p1 p2 p3 p4 p5 =
 br (decide (p1 < p0))
 (
 br p3
 (ck7 114 [(
 .op [.os (1,0) p4,iN p2,.bool p3])] fun a b c d=>((br (a == 2)
 (
 br (a == 2)
 (ck7 114 [(
 .op [.os (1,0) b,iN c,.bool d])] fun e f g h=>((grd (decide (ni (List.length (p5++[D.agg [iN a,iN e,D.str { data:=#[] },iN (0),iN (0)]])) <= LIM)) (nam (p5++[D.agg [iN a,iN e,D.str { data:=#[] },iN (0),iN (0)]]) fun i=>
 yP p0 (w6 (p1 + 1)) g h f i))))
 (
 br (a == 3)
 (ck7 114 [(
 .op [.os (1,0) b,iN c,.bool d])] fun e f g h=>((grd (decide (ni (List.length (p5++[D.agg [iN a,iN (w6 (e - 1000000000)),D.str { data:=#[] },iN (0),iN (0)]])) <= LIM)) (nam (p5++[D.agg [iN a,iN (w6 (e - 1000000000)),D.str { data:=#[] },iN (0),iN (0)]]) fun i=>
 yP p0 (w6 (p1 + 1)) g h f i))))
 (
 br (a == 4)
 (Tc 174 [.rs (1,0) b,iN c] fun e f g=>((br d
 (
 grd (decide (ni (List.length (p5++[D.agg [iN a,iN (0),D.str e,iN (0),iN (0)]])) <= LIM)) (nam (p5++[D.agg [iN a,iN (0),D.str e,iN (0),iN (0)]]) fun h=>
 yP p0 (w6 (p1 + 1)) f g b h))
 (
 grd (decide (ni (List.length (p5++[D.agg [iN a,iN (0),D.str e,iN (0),iN (0)]])) <= LIM)) (nam (p5++[D.agg [iN a,iN (0),D.str e,iN (0),iN (0)]]) fun h=>
 yP p0 (w6 (p1 + 1)) f false b h)))))
 (
 br (a == 5)
 (ck7 114 [.op [.os (1,0) b,iN c,.bool d]] fun e f g h=>((ck7 114 [.op [.os (1,0) f,iN g,.bool h]] fun i j k l=>((grd (decide (ni (List.length (p5++[D.agg [iN a,iN (0),D.str { data:=#[] },iN e,iN i]])) <= LIM)) (nam (p5++[D.agg [iN a,iN (0),D.str { data:=#[] },iN e,iN i]]) fun m=>
 yP p0 (w6 (p1 + 1)) k l j m))))))
 (
 br (a == 6)
 (ck7 114 [.op [.os (1,0) b,iN c,.bool d]] fun e f g h=>((ck7 114 [.op [.os (1,0) f,iN g,.bool h]] fun i j k l=>((grd (decide (ni (List.length (p5++[D.agg [iN a,iN e,D.str { data:=#[] },iN i,iN (0)]])) <= LIM)) (nam (p5++[D.agg [iN a,iN e,D.str { data:=#[] },iN i,iN (0)]]) fun m=>
 yP p0 (w6 (p1 + 1)) k l j m))))))
 (
 br (a == 7)
 (ck7 114 [(
 .op [.os (1,0) b,iN c,.bool d])] fun e f g h=>((grd (decide (ni (List.length (p5++[D.agg [iN a,iN (0),D.str { data:=#[] },iN e,iN (0)]])) <= LIM)) (nam (p5++[D.agg [iN a,iN (0),D.str { data:=#[] },iN e,iN (0)]]) fun i=>
 yP p0 (w6 (p1 + 1)) g h f i))))
 (
 grd (decide (ni (List.length (p5++[D.agg [iN a,iN (0),D.str { data:=#[] },iN (0),iN (0)]])) <= LIM)) (nam (p5++[D.agg [iN a,iN (0),D.str { data:=#[] },iN (0),iN (0)]]) fun e=>
 yP p0 (w6 (p1 + 1)) c d b e))))))))
 (
 br (a == 8)
 (
 br (a == 8)
 (ck7 114 [(
 .op [.os (1,0) b,iN c,.bool d])] fun e f g h=>((grd (decide (ni (List.length (p5++[D.agg [iN a,iN e,D.str { data:=#[] },iN (0),iN (0)]])) <= LIM)) (nam (p5++[D.agg [iN a,iN e,D.str { data:=#[] },iN (0),iN (0)]]) fun i=>
 yP p0 (w6 (p1 + 1)) g h f i))))
 (
 br (a == 3)
 (ck7 114 [(
 .op [.os (1,0) b,iN c,.bool d])] fun e f g h=>((grd (decide (ni (List.length (p5++[D.agg [iN a,iN (w6 (e - 1000000000)),D.str { data:=#[] },iN (0),iN (0)]])) <= LIM)) (nam (p5++[D.agg [iN a,iN (w6 (e - 1000000000)),D.str { data:=#[] },iN (0),iN (0)]]) fun i=>
 yP p0 (w6 (p1 + 1)) g h f i))))
 (
 br (a == 4)
 (Tc 174 [.rs (1,0) b,iN c] fun e f g=>((br d
 (
 grd (decide (ni (List.length (p5++[D.agg [iN a,iN (0),D.str e,iN (0),iN (0)]])) <= LIM)) (nam (p5++[D.agg [iN a,iN (0),D.str e,iN (0),iN (0)]]) fun h=>
 yP p0 (w6 (p1 + 1)) f g b h))
 (
 grd (decide (ni (List.length (p5++[D.agg [iN a,iN (0),D.str e,iN (0),iN (0)]])) <= LIM)) (nam (p5++[D.agg [iN a,iN (0),D.str e,iN (0),iN (0)]]) fun h=>
 yP p0 (w6 (p1 + 1)) f false b h)))))
 (
 br (a == 5)
 (ck7 114 [.op [.os (1,0) b,iN c,.bool d]] fun e f g h=>((ck7 114 [.op [.os (1,0) f,iN g,.bool h]] fun i j k l=>((grd (decide (ni (List.length (p5++[D.agg [iN a,iN (0),D.str { data:=#[] },iN e,iN i]])) <= LIM)) (nam (p5++[D.agg [iN a,iN (0),D.str { data:=#[] },iN e,iN i]]) fun m=>
 yP p0 (w6 (p1 + 1)) k l j m))))))
 (
 br (a == 6)
 (ck7 114 [.op [.os (1,0) b,iN c,.bool d]] fun e f g h=>((ck7 114 [.op [.os (1,0) f,iN g,.bool h]] fun i j k l=>((grd (decide (ni (List.length (p5++[D.agg [iN a,iN e,D.str { data:=#[] },iN i,iN (0)]])) <= LIM)) (nam (p5++[D.agg [iN a,iN e,D.str { data:=#[] },iN i,iN (0)]]) fun m=>
 yP p0 (w6 (p1 + 1)) k l j m))))))
 (
 br (a == 7)
 (ck7 114 [(
 .op [.os (1,0) b,iN c,.bool d])] fun e f g h=>((grd (decide (ni (List.length (p5++[D.agg [iN a,iN (0),D.str { data:=#[] },iN e,iN (0)]])) <= LIM)) (nam (p5++[D.agg [iN a,iN (0),D.str { data:=#[] },iN e,iN (0)]]) fun i=>
 yP p0 (w6 (p1 + 1)) g h f i))))
 (
 grd (decide (ni (List.length (p5++[D.agg [iN a,iN (0),D.str { data:=#[] },iN (0),iN (0)]])) <= LIM)) (nam (p5++[D.agg [iN a,iN (0),D.str { data:=#[] },iN (0),iN (0)]]) fun e=>
 yP p0 (w6 (p1 + 1)) c d b e))))))))
 (
 br (a == 9)
 (ck7 114 [(
 .op [.os (1,0) b,iN c,.bool d])] fun e f g h=>((grd (decide (ni (List.length (p5++[D.agg [iN a,iN e,D.str { data:=#[] },iN (0),iN (0)]])) <= LIM)) (nam (p5++[D.agg [iN a,iN e,D.str { data:=#[] },iN (0),iN (0)]]) fun i=>
 yP p0 (w6 (p1 + 1)) g h f i))))
 (
 br (a == 3)
 (ck7 114 [(
 .op [.os (1,0) b,iN c,.bool d])] fun e f g h=>((grd (decide (ni (List.length (p5++[D.agg [iN a,iN (w6 (e - 1000000000)),D.str { data:=#[] },iN (0),iN (0)]])) <= LIM)) (nam (p5++[D.agg [iN a,iN (w6 (e - 1000000000)),D.str { data:=#[] },iN (0),iN (0)]]) fun i=>
 yP p0 (w6 (p1 + 1)) g h f i))))
 (
 br (a == 4)
 (Tc 174 [.rs (1,0) b,iN c] fun e f g=>((br d
 (
 grd (decide (ni (List.length (p5++[D.agg [iN a,iN (0),D.str e,iN (0),iN (0)]])) <= LIM)) (nam (p5++[D.agg [iN a,iN (0),D.str e,iN (0),iN (0)]]) fun h=>
 yP p0 (w6 (p1 + 1)) f g b h))
 (
 grd (decide (ni (List.length (p5++[D.agg [iN a,iN (0),D.str e,iN (0),iN (0)]])) <= LIM)) (nam (p5++[D.agg [iN a,iN (0),D.str e,iN (0),iN (0)]]) fun h=>
 yP p0 (w6 (p1 + 1)) f false b h)))))
 (
 br (a == 5)
 (ck7 114 [.op [.os (1,0) b,iN c,.bool d]] fun e f g h=>((ck7 114 [.op [.os (1,0) f,iN g,.bool h]] fun i j k l=>((grd (decide (ni (List.length (p5++[D.agg [iN a,iN (0),D.str { data:=#[] },iN e,iN i]])) <= LIM)) (nam (p5++[D.agg [iN a,iN (0),D.str { data:=#[] },iN e,iN i]]) fun m=>
 yP p0 (w6 (p1 + 1)) k l j m))))))
 (
 br (a == 6)
 (ck7 114 [.op [.os (1,0) b,iN c,.bool d]] fun e f g h=>((ck7 114 [.op [.os (1,0) f,iN g,.bool h]] fun i j k l=>((grd (decide (ni (List.length (p5++[D.agg [iN a,iN e,D.str { data:=#[] },iN i,iN (0)]])) <= LIM)) (nam (p5++[D.agg [iN a,iN e,D.str { data:=#[] },iN i,iN (0)]]) fun m=>
 yP p0 (w6 (p1 + 1)) k l j m))))))
 (
 br (a == 7)
 (ck7 114 [(
 .op [.os (1,0) b,iN c,.bool d])] fun e f g h=>((grd (decide (ni (List.length (p5++[D.agg [iN a,iN (0),D.str { data:=#[] },iN e,iN (0)]])) <= LIM)) (nam (p5++[D.agg [iN a,iN (0),D.str { data:=#[] },iN e,iN (0)]]) fun i=>
 yP p0 (w6 (p1 + 1)) g h f i))))
 (
 grd (decide (ni (List.length (p5++[D.agg [iN a,iN (0),D.str { data:=#[] },iN (0),iN (0)]])) <= LIM)) (nam (p5++[D.agg [iN a,iN (0),D.str { data:=#[] },iN (0),iN (0)]]) fun e=>
 yP p0 (w6 (p1 + 1)) c d b e))))))))))))
 (
 br p3
 (
 br (p2 == ni p4.length)
 (ck6 60 [.agg [.rs (5,0) p5]] fun a=>(some ((.agg [.os (5,0) p5]),[.op [.os (1,0) p4,iN p2,.bool a]])))
 (some ((.agg [.os (5,0) p5]),[.op [.os (1,0) p4,iN p2,.bool false]])))
 (some ((.agg [.os (5,0) p5]),[.op [.os (1,0) p4,iN p2,.bool false]]))))
 (
 br p3
 (
 br (p2 == ni p4.length)
 (ck6 60 [.agg [.rs (5,0) p5]] fun a=>(some ((.agg [.os (5,0) p5]),[.op [.os (1,0) p4,iN p2,.bool a]])))
 (some ((.agg [.os (5,0) p5]),[.op [.os (1,0) p4,iN p2,.bool false]])))
 (some ((.agg [.os (5,0) p5]),[.op [.os (1,0) p4,iN p2,.bool false]]))):=by
 exact (yC _ _ _).trans (by kernel_rfl)
theorem TV (a0_0:List D) (a0_1 a0_2:Int):V 74 [.op [.rs (1,0) a0_0,iN a0_1,iN a0_2]] =
 aaj 142 [.op [.rs (1,0) a0_0,iN a0_1,iN a0_2]] fun a b c d e f=>(((ck8 76 [.op [.rs (1,0) d,iN e,iN f],(iN (ni b.length))] fun g h i j=>((ck8 76 [.op [.rs (1,0) h,iN i,iN j],iN (25)] fun k l m n=>((br (k == 0)
 (ck8 76 [.op [.rs (1,0) l,iN m,iN n],iN (11)] fun o p q r=>((grd (decide (0 <= g) && decide (g < ni b.length)) (cT b g.toNat fun s=>
 asAgg s fun t=>nam (List.set b g.toNat (D.agg (List.take 0 t++[iN o]++List.drop 1 t))) fun u=>
 some ((.agg [.os (5,0) a,.os (4,0) u,.os (3,0) c]),[.op [.rs (1,0) p,iN q,iN r]])))))
 (
 br (k == 1)
 (ck8 122 [(
 .op [.rs (1,0) l,iN m,iN n]),(.rs (1,0) [iN (-1),iN (0),iN g,(iN (w6 (g + 1))),(iN (ni b.length)),(iN (w6 (ni b.length + 1)))])] fun o p q r=>((grd (decide (0 <= g) && decide (g < ni b.length)) (cT b g.toNat fun s=>
 asAgg s fun t=>nam (List.set b g.toNat (D.agg (List.take 1 t++[iN o]++List.drop 2 t))) fun u=>
 some ((.agg [.os (5,0) a,.os (4,0) u,.os (3,0) c]),[.op [.rs (1,0) p,iN q,iN r]])))))
 (
 br (k == 2)
 (ck8 76 [.op [.rs (1,0) l,iN m,iN n],iN (7)] fun o p q r=>((grd (decide (0 <= g) && decide (g < ni b.length)) (cT b g.toNat fun s=>
 asAgg s fun t=>nam (List.set b g.toNat (D.agg (List.take 2 t++[iN (w6 (o - 1))]++List.drop 3 t))) fun u=>
 some ((.agg [.os (5,0) a,.os (4,0) u,.os (3,0) c]),[.op [.rs (1,0) p,iN q,iN r]])))))
 (
 br (k == 3)
 (KI 75 [(
 .op [.rs (1,0) l,iN m,iN n]),(.rs (1,0) [.str ({ data:=#[] }),.str ({ data:=#[97] }),.str ({ data:=#[65] })])] fun o p q r=>((grd (decide (0 <= g) && decide (g < ni b.length)) (cT b g.toNat fun s=>
 asAgg s fun t=>nam (List.set b g.toNat (D.agg (List.take 3 t++[D.str o]++List.drop 4 t))) fun u=>
 some ((.agg [.os (5,0) a,.os (4,0) u,.os (3,0) c]),[.op [.rs (1,0) p,iN q,iN r]])))))
 (
 br (k == 4)
 (KI 75 [.op [.rs (1,0) l,iN m,iN n],(.rs (1,0) [.str ({ data:=#[102] }),.str ({ data:=#[109,97,105,110] }),.str ({ data:=#[122,122] }),.str ({ data:=#[65] })])] fun o p q r=>((ck8 76 [.op [.rs (1,0) p,iN q,iN r],iN (60)] fun s t u v=>((ck8 76 [.op [.rs (1,0) t,iN u,iN v],iN (6)] fun w x y z=>((grd (decide (ni (List.length (c++[D.agg [D.str o,iN s,iN w]])) <= LIM)) (nam (c++[D.agg [D.str o,iN s,iN w]]) fun A=>
 some ((.agg [.os (5,0) a,.os (4,0) b,.os (3,0) A]),[.op [.rs (1,0) x,iN y,iN z]])))))))))
 (
 br (k == 5)
 (aak 90 [.op [.rs (1,0) l,iN m,iN n]] fun o p q r=>(((some ((.agg [.os (5,0) o,.os (4,0) b,.os (3,0) c]),[.op [.rs (1,0) p,iN q,iN r]])))))
 (some ((.agg [.os (5,0) a,.os (4,0) b,.os (3,0) c]),[.op [.rs (1,0) l,iN m,iN n]])))))))))))))):=by
 exact (yD Tryz.func74 rfl _).trans (by kernel_rfl)
theorem LQ (p0:ByteArray) (p1:Nat) (p2:Int) (p3 p4 p5 p6:List D):za p0 p1 p2 p3 p4 p5 p6 =
 br (decide (p2 < ni (ByteArray.size p0)))
 (
 grd (decide (0 <= p2) && decide (p2 < ni (ByteArray.size p0))) (br (bt p0 p2 == 32)
 (za p0 p1 (w6 (p2 + 1)) p3 p4 p5 p6)
 (
 br (bt p0 p2 == 40)
 (grd (decide
 (ni
 (List.length
 (part p5 (some (0,p1)) ++
 [D.agg
 [iN p2,
 D.os
 (TypeInfo.size (Tables.types (Program.toTables Tryz.prog))[3],
 match qU Tryz.prog (3) with
 | true=>0
 | false=>1)
 []]])) <=
 LIM)) (nam (part p5 (some (0,p1)) ++
 [D.agg
 [iN p2,
 D.os
 (TypeInfo.size (Tables.types (Program.toTables Tryz.prog))[3],
 match qU Tryz.prog (3) with
 | true=>0
 | false=>1)
 []]]) fun a=>
 zg p0 (w6 (p2 + 1)) p3 p4 a p6))
 (
 br (bt p0 p2 == 41)
 (
 br (w6 (ni p1 - 1) == 0)
 (ck9 147 [.agg [.rs (5,0) p3]] fun a=>((some ((.tup [.agg [.os (5,0) a],.os (1,0) p4,iN (5),iN p2]),[]))))
 (
 grd (decide (0 <= w6 (ni p1 - 1)) && decide (w6 (ni p1 - 1) < ni p1) && decide (0 + p1 <= List.length p5)) (cT p5 (0 + Int.toNat (w6 (ni p1 - 1))) fun a=>
 asAgg a fun b=>cT b 1 fun c=>
 jl (1,0) c fun d=>asAgg a fun e=>zP 210 [.op [.os (5,0) p6],.rs (1,0) d] fun f g=>((grd (gW p1 (List.length (List.set p5 (0 + Int.toNat (w6 (ni p1 - 1))) (D.agg (List.take 1 e++[D.dead]++List.drop 2 e))) - 0) none (some (w6 (ni p1 - 1)))) (grd (decide (0 <= w6 (w6 (ni p1 - 1) - 1)) && decide (w6 (w6 (ni p1 - 1) - 1) < ni (Int.toNat (w6 (ni p1 - 1)))) && decide (0 + Int.toNat (w6 (ni p1 - 1)) <= List.length (List.set p5 (0 + Int.toNat (w6 (ni p1 - 1))) (D.agg (List.take 1 e++[D.dead]++List.drop 2 e))))) (cT (List.set p5 (0 + Int.toNat (w6 (ni p1 - 1))) (D.agg (List.take 1 e++[D.dead]++List.drop 2 e))) (0 + Int.toNat (w6 (w6 (ni p1 - 1) - 1))) fun h=>
 asAgg h fun i=>cT i 1 fun j=>
 jl (1,0) j fun k=>asAgg h fun l=>grd (decide (ni (List.length (k++[iN f])) <= LIM)) (nam (k++[iN f]) fun m=>
 grd (decide (0 <= w6 (w6 (ni p1 - 1) - 1)) && decide (w6 (w6 (ni p1 - 1) - 1) < ni (Int.toNat (w6 (ni p1 - 1)))) && decide (0 + Int.toNat (w6 (ni p1 - 1)) <= List.length (List.set (List.set p5 (0 + Int.toNat (w6 (ni p1 - 1))) (D.agg (List.take 1 e++[D.dead]++List.drop 2 e))) (0 + Int.toNat (w6 (w6 (ni p1 - 1) - 1))) (D.agg (List.take 1 l++[D.dead]++List.drop 2 l))))) (cT (List.set (List.set p5 (0 + Int.toNat (w6 (ni p1 - 1))) (D.agg (List.take 1 e++[D.dead]++List.drop 2 e))) (0 + Int.toNat (w6 (w6 (ni p1 - 1) - 1))) (D.agg (List.take 1 l++[D.dead]++List.drop 2 l))) (0 + Int.toNat (w6 (w6 (ni p1 - 1) - 1))) fun n=>
 asAgg n fun o=>nam (List.set (List.set (List.set p5 (0 + Int.toNat (w6 (ni p1 - 1))) (D.agg (List.take 1 e++[D.dead]++List.drop 2 e))) (0 + Int.toNat (w6 (w6 (ni p1 - 1) - 1))) (D.agg (List.take 1 l++[D.dead]++List.drop 2 l))) (0 + Int.toNat (w6 (w6 (ni p1 - 1) - 1)))
 (D.agg
 (List.take 1 o ++
 [D.os
 (TypeInfo.size (Tables.types (Program.toTables Tryz.prog))[3],
 match qU Tryz.prog (3) with
 | true=>0
 | false=>1)
 m] ++
 List.drop 2 o))) fun p=>
 za p0 (Int.toNat (w6 (ni p1 - 1))) (w6 (p2 + 1)) p3 p4 p g)))))))))
 (ck6 211 [.int .u8 (bt p0 p2)] fun a=>(br a
 (z5 p0 p1 p2 (w6 (ni p1 - 1)) p2 p3 p4 p5 p6)
 (ck9 147 [.agg [.rs (5,0) p3]] fun b=>((some ((.tup [.agg [.os (5,0) b],.os (1,0) p4,iN (2),iN p2]),[]))))))))))
 (
 br (decide (ni p1 > 1))
 (ck9 147 [.agg [.rs (5,0) p3]] fun a=>((grd (decide (0 <= w6 (ni p1 - 1)) && decide (w6 (ni p1 - 1) < ni p1) && decide (0 + p1 <= List.length p5)) (cT p5 (0 + Int.toNat (w6 (ni p1 - 1))) fun b=>
 asAgg b fun c=>cT c 0 fun d=>
 asI .i64 d fun e=>some ((.tup [.agg [.os (5,0) a],.os (1,0) p4,iN (4),iN e]),[])))))
 (ck6 60 [.agg [.rs (5,0) p6]] fun a=>(br (!a)
 (ck9 147 [.agg [.rs (5,0) p3]] fun b=>((some ((.tup [.agg [.os (5,0) b],.os (1,0) p4,iN (6),iN (0)]),[]))))
 (
 grd (decide (0 <= 0) && decide (0 < ni p1) && decide (0 + p1 <= List.length p5)) (cT p5 0 fun b=>
 asAgg b fun c=>cT c 1 fun d=>
 jl (1,0) d fun e=>asAgg b fun f=>grd (decide (ni (List.length ([]++e)) <= LIM)) (nam ([]++e) fun g=>
 some ((.tup [.agg [.os (5,0) p6],.os (1,0) g,iN (0),(iN (ni (ByteArray.size p0)))]),[]))))))):=by
 exact (yC _ _ _).trans (by kernel_rfl)
theorem Q8 (a0_0 a0_1 a0_2:List D) (a1_:Int):V 123 [.agg [.rs (5,0) a0_0,.rs (4,0) a0_1,.rs (3,0) a0_2],iN a1_] =
 grd (decide (0 <= a1_) && decide (a1_ < ni a0_1.length)) (cT a0_1 a1_.toNat fun a=>
 tk3 a fun b c d e=>(br (b == 1)
 (ck6 56 [.agg [.rs (5,0) a0_0],iN c] fun f=>(br f
 (
 br (d == 0)
 (some ((.bool (kc e { data:=#[] })),[]))
 (some ((.bool false),[])))
 (some ((.bool false),[]))))
 (
 br (b == 2)
 (ck6 58 [iN c,iN (0),iN (20)] fun f=>(ck6 58 [iN d,iN (0),iN (3)] fun g=>(br f
 (
 br g
 (some ((.bool (kc e { data:=#[] })),[]))
 (some ((.bool false),[])))
 (some ((.bool false),[])))))
 (
 br (b == 3)
 (ck6 124 [.str e] fun f=>(br (c == 0)
 (
 br (d == 0)
 (some ((.bool f),[]))
 (some ((.bool false),[])))
 (some ((.bool false),[]))))
 (
 br (b == 4)
 (
 br (b == 4)
 (ck6 58 [iN c,(iN (w6 (a1_ + 1))),(iN (ni a0_1.length))] fun f=>(br f
 (
 br (d == 0)
 (some ((.bool (kc e { data:=#[] })),[]))
 (some ((.bool false),[])))
 (some ((.bool false),[]))))
 (
 br (b == 6)
 (ck6 58 [iN c,(iN (w6 (a1_ + 1))),(iN (w6 (ni a0_1.length - 1)))] fun f=>(ck6 58 [iN d,iN (0),iN (4)] fun g=>(br f
 (
 br g
 (some ((.bool (kc e { data:=#[] })),[]))
 (some ((.bool false),[])))
 (some ((.bool false),[])))))
 (
 br (b == 7)
 (ck6 58 [iN d,iN (0),iN (4)] fun f=>(br (c == 0)
 (
 br f
 (some ((.bool (kc e { data:=#[] })),[]))
 (some ((.bool false),[])))
 (some ((.bool false),[]))))
 (
 br (b == 8)
 (
 br (b == 8)
 (
 br (c == 0)
 (
 br (d == 0)
 (some ((.bool (kc e { data:=#[] })),[]))
 (some ((.bool false),[])))
 (some ((.bool false),[])))
 (some ((.bool false),[])))
 (
 br (b == 9)
 (
 br (c == 0)
 (
 br (d == 0)
 (some ((.bool (kc e { data:=#[] })),[]))
 (some ((.bool false),[])))
 (some ((.bool false),[])))
 (some ((.bool false),[])))))))
 (
 br (b == 5)
 (ck6 58 [iN c,(iN (w6 (a1_ + 1))),(iN (ni a0_1.length))] fun f=>(br f
 (
 br (d == 0)
 (some ((.bool (kc e { data:=#[] })),[]))
 (some ((.bool false),[])))
 (some ((.bool false),[]))))
 (
 br (b == 6)
 (ck6 58 [iN c,(iN (w6 (a1_ + 1))),(iN (w6 (ni a0_1.length - 1)))] fun f=>(ck6 58 [iN d,iN (0),iN (4)] fun g=>(br f
 (
 br g
 (some ((.bool (kc e { data:=#[] })),[]))
 (some ((.bool false),[])))
 (some ((.bool false),[])))))
 (
 br (b == 7)
 (ck6 58 [iN d,iN (0),iN (4)] fun f=>(br (c == 0)
 (
 br f
 (some ((.bool (kc e { data:=#[] })),[]))
 (some ((.bool false),[])))
 (some ((.bool false),[]))))
 (
 br (b == 8)
 (
 br (b == 8)
 (
 br (c == 0)
 (
 br (d == 0)
 (some ((.bool (kc e { data:=#[] })),[]))
 (some ((.bool false),[])))
 (some ((.bool false),[])))
 (some ((.bool false),[])))
 (
 br (b == 9)
 (
 br (c == 0)
 (
 br (d == 0)
 (some ((.bool (kc e { data:=#[] })),[]))
 (some ((.bool false),[])))
 (some ((.bool false),[])))
 (some ((.bool false),[])))))))))))):=by
 exact (yD Tryz.func123 rfl _).trans (by kernel_rfl)
theorem Rj (a0_0 a0_1 a0_2:List D) (a1_:Int):V 127 [.agg [.rs (5,0) a0_0,.rs (4,0) a0_1,.rs (3,0) a0_2],iN a1_] =
 grd (decide (0 <= a1_) && decide (a1_ < ni a0_1.length)) (cT a0_1 a1_.toNat fun a=>
 tk3 a fun b c d e=>(br (b == 1)
 (
 br (b == b && (c == c && (d == 0 && (kc e { data:=#[] } && true))))
 (ck6 61 [.agg [.rs (5,0) a0_0],iN c] fun f=>(some ((.bool f),[])))
 (some ((.bool false),[])))
 (
 br (b == 2)
 (
 br (kc e { data:=#[] })
 (ck6 62 [iN c,iN (0),iN (20)] fun f=>(br f
 (ck6 62 [iN d,iN (0),iN (3)] fun g=>(some ((.bool g),[])))
 (some ((.bool false),[]))))
 (some ((.bool false),[])))
 (
 br (b == 3)
 (
 br (b == b && (c == 0 && (d == 0 && (kc e e && true))))
 (ck6 128 [.str e] fun f=>(some ((.bool f),[])))
 (some ((.bool false),[])))
 (
 br (b == 4)
 (
 br (b == 4)
 (
 br (b == b && (c == c && (d == 0 && (kc e { data:=#[] } && true))))
 (
 br (decide (c > a1_))
 (some ((.bool (decide (c <= ni a0_1.length))),[]))
 (some ((.bool false),[])))
 (some ((.bool false),[])))
 (
 br (b == 6)
 (
 br (kc e { data:=#[] })
 (
 br (decide (c > a1_))
 (
 br (decide (c < ni a0_1.length))
 (ck6 62 [iN d,iN (0),iN (4)] fun f=>(some ((.bool f),[])))
 (some ((.bool false),[])))
 (some ((.bool false),[])))
 (some ((.bool false),[])))
 (
 br (b == 7)
 (
 br (b == b && (c == 0 && (d == d && (kc e { data:=#[] } && true))))
 (ck6 62 [iN d,iN (0),iN (4)] fun f=>(some ((.bool f),[])))
 (some ((.bool false),[])))
 (
 br (b == 8)
 (
 br (b == 8)
 (some ((.bool (b == b && (c == 0 && (d == 0 && (kc e { data:=#[] } && true))))),[]))
 (some ((.bool false),[])))
 (
 br (b == 9)
 (some ((.bool (b == b && (c == 0 && (d == 0 && (kc e { data:=#[] } && true))))),[]))
 (some ((.bool false),[])))))))
 (
 br (b == 5)
 (
 br (b == b && (c == c && (d == 0 && (kc e { data:=#[] } && true))))
 (
 br (decide (c > a1_))
 (some ((.bool (decide (c <= ni a0_1.length))),[]))
 (some ((.bool false),[])))
 (some ((.bool false),[])))
 (
 br (b == 6)
 (
 br (kc e { data:=#[] })
 (
 br (decide (c > a1_))
 (
 br (decide (c < ni a0_1.length))
 (ck6 62 [iN d,iN (0),iN (4)] fun f=>(some ((.bool f),[])))
 (some ((.bool false),[])))
 (some ((.bool false),[])))
 (some ((.bool false),[])))
 (
 br (b == 7)
 (
 br (b == b && (c == 0 && (d == d && (kc e { data:=#[] } && true))))
 (ck6 62 [iN d,iN (0),iN (4)] fun f=>(some ((.bool f),[])))
 (some ((.bool false),[])))
 (
 br (b == 8)
 (
 br (b == 8)
 (some ((.bool (b == b && (c == 0 && (d == 0 && (kc e { data:=#[] } && true))))),[]))
 (some ((.bool false),[])))
 (
 br (b == 9)
 (some ((.bool (b == b && (c == 0 && (d == 0 && (kc e { data:=#[] } && true))))),[]))
 (some ((.bool false),[])))))))))))):=by
 exact (yD Tryz.func127 rfl _).trans (by kernel_rfl)
theorem Tp (a0_0 a0_1:Int) (a0_2:ByteArray) (a0_3 a0_4 a1_:Int):V 126 [.agg [iN a0_0,iN a0_1,.str a0_2,iN a0_3,iN a0_4],iN a1_] =
 br (a0_0 == 1)
 (ck6 58 [iN a0_1,iN (0),iN (0)] fun a=>(br a
 (
 br (kc a0_2 { data:=#[] })
 (
 br (a0_3 == 0)
 (some ((.bool (a0_4 == 0)),[]))
 (some ((.bool false),[])))
 (some ((.bool false),[])))
 (some ((.bool false),[]))))
 (
 br (a0_0 == 2)
 (ck6 58 [iN a0_1,iN (0),iN (1)] fun a=>(br a
 (
 br (kc a0_2 { data:=#[] })
 (
 br (a0_3 == 0)
 (some ((.bool (a0_4 == 0)),[]))
 (some ((.bool false),[])))
 (some ((.bool false),[])))
 (some ((.bool false),[]))))
 (
 br (a0_0 == 3)
 (ck6 58 [iN a0_1,iN (-1000000000),iN (1000000000)] fun a=>(br a
 (
 br (kc a0_2 { data:=#[] })
 (
 br (a0_3 == 0)
 (some ((.bool (a0_4 == 0)),[]))
 (some ((.bool false),[])))
 (some ((.bool false),[])))
 (some ((.bool false),[]))))
 (
 br (a0_0 == 4)
 (ck6 124 [.str a0_2] fun a=>(ck6 58 [iN a0_1,iN (0),iN (0)] fun b=>(br b
 (
 br a
 (
 br (a0_3 == 0)
 (some ((.bool (a0_4 == 0)),[]))
 (some ((.bool false),[])))
 (some ((.bool false),[])))
 (some ((.bool false),[])))))
 (
 br (a0_0 == 5)
 (ck6 58 [iN a0_3,iN (0),(iN (w6 (a1_ - 1)))] fun a=>(ck6 58 [iN a0_4,iN (0),(iN (w6 (a1_ - 1)))] fun b=>(ck6 58 [iN a0_1,iN (0),iN (0)] fun c=>(br c
 (
 br (kc a0_2 { data:=#[] })
 (
 br a
 (some ((.bool b),[]))
 (some ((.bool false),[])))
 (some ((.bool false),[])))
 (some ((.bool false),[]))))))
 (
 br (a0_0 == 6)
 (ck6 58 [iN a0_3,iN (0),(iN (w6 (a1_ - 1)))] fun a=>(ck6 58 [iN a0_1,iN (0),iN (1000000000)] fun b=>(br b
 (
 br (kc a0_2 { data:=#[] })
 (
 br a
 (some ((.bool (a0_4 == 0)),[]))
 (some ((.bool false),[])))
 (some ((.bool false),[])))
 (some ((.bool false),[])))))
 (
 br (a0_0 == 7)
 (ck6 58 [iN a0_3,iN (0),(iN (w6 (a1_ - 1)))] fun a=>(ck6 58 [iN a0_1,iN (0),iN (0)] fun b=>(br b
 (
 br (kc a0_2 { data:=#[] })
 (
 br a
 (some ((.bool (a0_4 == 0)),[]))
 (some ((.bool false),[])))
 (some ((.bool false),[])))
 (some ((.bool false),[])))))
 (
 br (a0_0 == 8)
 (ck6 58 [iN a0_1,iN (0),iN (99)] fun a=>(br a
 (
 br (kc a0_2 { data:=#[] })
 (
 br (a0_3 == 0)
 (some ((.bool (a0_4 == 0)),[]))
 (some ((.bool false),[])))
 (some ((.bool false),[])))
 (some ((.bool false),[]))))
 (
 br (a0_0 == 9)
 (ck6 58 [iN a0_1,iN (0),iN (1000000000)] fun a=>(br a
 (
 br (kc a0_2 { data:=#[] })
 (
 br (a0_3 == 0)
 (some ((.bool (a0_4 == 0)),[]))
 (some ((.bool false),[])))
 (some ((.bool false),[])))
 (some ((.bool false),[]))))
 (some ((.bool false),[])))))))))):=by
 exact (yD Tryz.func126 rfl _).trans (by kernel_rfl)
theorem Gy (p0 p1 p2 p3 p4 p5 p6 p7 p8:Int) (p9 p10 p11 p12 p13:List D):Du p0 p1 p2 p3 p4 p5 p6 p7 p8 p9 p10 p11 p12 p13 =
 br (decide (p1 >= 0))
 (Ve 218 [.op [.os (5,0) p13,iN p2,iN p3,iN p4,iN p5,iN p6,iN p7,iN p8]] fun a b c d e f g h i j=>(((br (!b)
 (some ((iN (7)),[.op [.os (5,0) c,iN d,iN e,iN f,iN g,iN h,iN i,iN j]]))
 (
 grd (decide (0 <= p1) && decide (p1 < ni p12.length)) (cT p12 p1.toNat fun _=>
 nam (List.set p12 p1.toNat (iN a)) fun k=>
 Du p0 (w6 (p1 - 1)) d e f g h i j p9 p10 p11 k c))))))
 (Ve 218 [.op [.os (5,0) p13,iN p2,iN p3,iN p4,iN p5,iN p6,iN p7,iN p8]] fun a b c d e f g h i j=>(((br (!b)
 (some ((iN (7)),[.op [.os (5,0) c,iN d,iN e,iN f,iN g,iN h,iN i,iN j]]))
 (
 br (decide (p0 >= ni p10.length))
 (some ((iN (7)),[.op [.os (5,0) c,iN d,iN e,iN f,iN g,iN h,iN i,iN j]]))
 (Lu 233 [.agg [.rs (5,0) p9,.rs (4,0) p10,.rs (3,0) p11],(.op [.os (5,0) c,iN d,iN e,iN f,iN g,iN h,iN i,iN j]),iN a,.rs (1,0) p12,iN p0] fun k l m n o p q r s=>((some ((iN k),[.op [.os (5,0) l,iN m,iN n,iN o,iN p,iN q,iN r,iN s]]))))))))):=by
 exact (yC _ _ _).trans (by kernel_rfl)
theorem Gx (p0 p1:List D) (p2 p3:Int) (p4 p5 p6:List D):BM p0 p1 p2 p3 p4 p5 p6 =
 br (decide (p2 < ni p0.length))
 (
 br (p3 == 0)
 (
 br (decide (p2 > 0))
 (ck1 237 [.op [.os (5,0) p4,.os (4,0) p5,.os (3,0) p6,iN p3],(.agg [iN (9),iN (0),iN (0),.str ({ data:=#[] })])] fun _ a b c d=>((grd (decide (0 <= p2) && decide (p2 < ni p0.length)) (cT p0 p2.toNat fun e=>
 asI .i64 e fun f=>ck2 244 [.op [.os (5,0) a,.os (4,0) b,.os (3,0) c,iN d],iN f,.rs (1,1) p1] fun g h i j=>(((BM p0 p1 (w6 (p2 + 1)) j g h i)))))))
 (
 grd (decide (0 <= p2) && decide (p2 < ni p0.length)) (cT p0 p2.toNat fun a=>
 asI .i64 a fun b=>ck2 244 [.op [.os (5,0) p4,.os (4,0) p5,.os (3,0) p6,iN p3],iN b,.rs (1,1) p1] fun c d e f=>(((BM p0 p1 (w6 (p2 + 1)) f c d e))))))
 (some ((.tup []),[.op [.os (5,0) p4,.os (4,0) p5,.os (3,0) p6,iN p3]])))
 (some ((.tup []),[.op [.os (5,0) p4,.os (4,0) p5,.os (3,0) p6,iN p3]])):=by
 exact (yC _ _ _).trans (by kernel_rfl)
theorem PO (a0_:Int):V 245 [iN a0_] =
 ck6 62 [iN a0_,iN (1),iN (19)] fun a=>(br (!a)
 (some ((iN (-1)),[]))
 (
 grd (decide (0 <= a0_) && decide (a0_ < ni 20)) (cT ([iN (0),iN (2),iN (2),iN (2),iN (2),iN (2),iN (2),iN (1),iN (1),iN (1),iN (1),iN (2),iN (1),iN (1),iN (0),iN (2),iN (0),iN (1),iN (1),iN (1)]) a0_.toNat fun b=>
 asI .i64 b fun c=>some ((iN c),[])))):=by
 exact (yD Tryz.func245 rfl _).trans (by kernel_rfl)
theorem TK (a0_0:List D) (a0_1 a0_2:Int) (a1_:List D):V 75 [.op [.rs (1,0) a0_0,iN a0_1,iN a0_2],.rs (1,0) a1_] =
 ck8 76 [.op [.rs (1,0) a0_0,iN a0_1,iN a0_2],(iN (ni a1_.length))] fun a b c d=>((grd (decide (0 <= a) && decide (a < ni a1_.length)) (cT a1_ a.toNat fun e=>
 asS e fun f=>some ((.str f),[.op [.rs (1,0) b,iN c,iN d]])))):=by
 exact (yD Tryz.func75 rfl _).trans (by kernel_rfl)
theorem Fc (p0 p1 p2:Int) (p3 p4 p5 p6:List D):AP p0 p1 p2 p3 p4 p5 p6 =
 br (decide (p1 < p0))
 (
 grd (decide (0 <= p1) && decide (p1 < ni p3.length)) (cT p3 p1.toNat fun a=>
 asS a fun b=>grd (decide (0 <= p0) && decide (p0 < ni p3.length)) (cT p3 p0.toNat fun c=>
 asS c fun d=>br (kc b d)
 (AP p0 (w6 (p1 + 1)) (2) p3 p4 p5 p6)
 (AP p0 (w6 (p1 + 1)) p2 p3 p4 p5 p6))))
 (zR (w6 (p0 + 1)) p2 p3 p4 p5 p6):=by
 exact (yC _ _ _).trans (by kernel_rfl)
theorem VH (p:List D) (k n:Int) (s:ByteArray) (a b:Int):V 158 [.op [.os (5,0) p],.agg [iN k,iN n,.str s,iN a,iN b]] =
 grd (decide (ni (List.length (p++[D.agg [iN k,iN n,D.str s,iN a,iN b]])) <= LIM)) (nam (p++[D.agg [iN k,iN n,D.str s,iN a,iN b]]) fun c=>
 some ((iN (w6 (ni c.length - 1))),[.op [.os (5,0) c]])):=by
 exact (yD Tryz.func158 rfl _).trans (by kernel_rfl)
theorem Uo (b:List D) (i:Int) (k:Bool):V 115 [.op [.os (1,0) b,iN i,.bool k]] =
 ck7 114 [.op [.os (1,0) b,iN i,.bool k]] fun a c d e=>((br (decide (a > 3000))
 (AQ a (0) d false c)
 (AQ a (0) d e c))):=by
 exact (yD Tryz.func115 rfl _).trans (by kernel_rfl)
theorem Tg (a0_0 a0_1 a0_2:List D):V 54 [.agg [.rs (5,0) a0_0,.rs (4,0) a0_1,.rs (3,0) a0_2]] =
 ck6 55 [.agg [.rs (5,0) a0_0]] fun a=>(br (!a)
 (some ((.bool false),[]))
 (
 br (decide (ni a0_1.length > 400))
 (some ((.bool false),[]))
 (
 br (decide (ni a0_2.length > 20))
 (some ((.bool false),[]))
 (Da (ni a0_1.length) (0) a0_0 a0_1 a0_2)))):=by
 exact (yD Tryz.func54 rfl _).trans (by kernel_rfl)
theorem Gi (p0 p1:Int) (p2 p3 p4:List D):Da p0 p1 p2 p3 p4 =
 br (decide (p1 < p0))
 (ck6 123 [.agg [.rs (5,0) p2,.rs (4,0) p3,.rs (3,0) p4],iN p1] fun a=>(br (!a)
 (some ((.bool false),[]))
 (Da p0 (w6 (p1 + 1)) p2 p3 p4)))
 (CM p4 (ni p4.length) (0) p2 p3 p4):=by
 exact (yC _ _ _).trans (by kernel_rfl)
theorem Rk (p l d:List D) (h:Int) (x:List D):V 231 [.op [.os (5,0) p,.os (4,0) l,.os (3,0) d,iN h],.rs (1,0) x] =
 br (decide (ni x.length > 4))
 (z6 x (0) (1) [] p l d)
 (z6 x (0) h [] p l d):=by
 exact (yD Tryz.func231 rfl _).trans (by kernel_rfl)
theorem Jv (l p:List D):V 135 [.rs (1,0) l,.fn 136 [.bp [.rs (5,0) p]]] =
 Iv 188 [.rs (1,0) l,(.fn 136 [(.bp [.rs (5,0) p])])] fun a=>(some ((.bool (decide (a >= 0))),[])):=by
 exact (yD Tryz.func135 rfl _).trans (by kernel_rfl)
theorem Rx (a0_0:List D):V 70 [.agg [.rs (5,0) a0_0]] =
 zA 69 [(iN (ni a0_0.length))] fun a=>(yW (0) a0_0 a):=by
 exact (yD Tryz.func70 rfl _).trans (by kernel_rfl)
end Go.Eng
/-! the functions as the interpreter has them -/
namespace Go.Eng
open Go.Proofs Go.Proofs.Tryz
set_option maxRecDepth 100000
theorem XI (p:List D) (n:Int) (l:List D):V 246 [.op [.os (5,0) p],iN n,.rs (1,0) l] =
 grd (decide (0 <= 0) && decide (0 < ni l.length)) (cT l 0 fun a=>
 asI .i64 a fun b=>grd (decide (0 <= b) && decide (b < ni p.length)) (cT p b.toNat fun c=>
 tk1 c fun d e f g h=>(br (decide (n <= 5))
 (
 grd (decide (0 <= 1) && decide (1 < ni l.length)) (cT l 1 fun i=>
 asI .i64 i fun j=>grd (decide (0 <= j) && decide (j < ni p.length)) (cT p j.toNat fun k=>
 tk1 k fun m o q r s=>(abg 250 [iN n,.agg [iN d,iN e,.str f,iN g,iN h],.agg [iN m,iN o,.str q,iN r,iN s]] fun t u v w x y=>(((br (y != 0)
 (some ((.tup [iN (-1),iN y]),[.op [.os (5,0) p]]))
 (zP 158 [.op [.os (5,0) p],.agg [iN t,iN u,.str v,iN w,iN x]] fun z A=>((some ((.tup [iN z,iN y]),[.op [.os (5,0) A]])))))))))))
 (
 br (n == 6)
 (
 grd (decide (0 <= 0) && decide (0 < ni l.length)) (cT l 0 fun i=>
 asI .i64 i fun j=>grd (decide (0 <= 1) && decide (1 < ni l.length)) (cT l 1 fun k=>
 asI .i64 k fun m=>zP 158 [.op [.os (5,0) p],(.agg [iN (5),iN (0),.str ({ data:=#[] }),iN j,iN m])] fun o q=>((some ((.tup [iN o,iN (0)]),[.op [.os (5,0) q]]))))))
 (
 br (decide (n <= 8))
 (
 br (d != 5)
 (some ((.tup [iN (-1),iN (3)]),[.op [.os (5,0) p]]))
 (
 br (n == 7)
 (some ((.tup [iN g,iN (0)]),[.op [.os (5,0) p]]))
 (some ((.tup [iN h,iN (0)]),[.op [.os (5,0) p]]))))
 (
 br (n == 9)
 (PE 251 [.bool (d == 1)] fun i j k m o=>((zP 158 [.op [.os (5,0) p],.agg [iN i,iN j,.str k,iN m,iN o]] fun q r=>((some ((.tup [iN q,iN (0)]),[.op [.os (5,0) r]]))))))
 (
 br (n == 10)
 (PE 251 [.bool (d == 5)] fun i j k m o=>((zP 158 [.op [.os (5,0) p],.agg [iN i,iN j,.str k,iN m,iN o]] fun q r=>((some ((.tup [iN q,iN (0)]),[.op [.os (5,0) r]]))))))
 (
 br (n == 11)
 (zA 252 [.agg [.rs (5,0) p]] fun i=>(grd (decide (0 <= 0) && decide (0 < ni l.length)) (cT l 0 fun j=>
 asI .i64 j fun k=>grd (decide (0 <= k) && decide (k < ni i.length)) (cT i k.toNat fun m=>
 asI .i64 m fun o=>grd (decide (0 <= 1) && decide (1 < ni l.length)) (cT l 1 fun q=>
 asI .i64 q fun r=>grd (decide (0 <= r) && decide (r < ni i.length)) (cT i r.toNat fun s=>
 asI .i64 s fun t=>PE 251 [.bool (o == t)] fun u v w x y=>((zP 158 [.op [.os (5,0) p],.agg [iN u,iN v,.str w,iN x,iN y]] fun z A=>((some ((.tup [iN z,iN (0)]),[.op [.os (5,0) A]])))))))))))
 (
 br (d == 2)
 (PE 251 [.bool (e == 0)] fun i j k m o=>((zP 158 [.op [.os (5,0) p],.agg [iN i,iN j,.str k,iN m,iN o]] fun q r=>((some ((.tup [iN q,iN (0)]),[.op [.os (5,0) r]]))))))
 (PE 251 [.bool false] fun i j k m o=>((zP 158 [.op [.os (5,0) p],.agg [iN i,iN j,.str k,iN m,iN o]] fun q r=>((some ((.tup [iN q,iN (0)]),[.op [.os (5,0) r]]))))))))))))))):=by
 exact (yD Tryz.func246 rfl _).trans (by kernel_rfl)
theorem OX (p0:ByteArray) (p1:Int) (p2 p3 p4 p5:List D):zg p0 p1 p2 p3 p4 p5 =
 br (decide (p1 < ni (ByteArray.size p0)))
 (
 grd (decide (0 <= p1) && decide (p1 < ni (ByteArray.size p0))) (br (bt p0 p1 == 32)
 (zg p0 (w6 (p1 + 1)) p2 p3 p4 p5)
 (
 br (bt p0 p1 == 40)
 (grd (decide
 (ni
 (List.length
 (p4 ++
 [D.agg
 [iN p1,
 D.os
 (TypeInfo.size (Tables.types (Program.toTables Tryz.prog))[3],
 match qU Tryz.prog (3) with
 | true=>0
 | false=>1)
 []]])) <=
 LIM)) (nam (p4 ++
 [D.agg
 [iN p1,
 D.os
 (TypeInfo.size (Tables.types (Program.toTables Tryz.prog))[3],
 match qU Tryz.prog (3) with
 | true=>0
 | false=>1)
 []]]) fun a=>
 zg p0 (w6 (p1 + 1)) p2 p3 a p5))
 (
 br (bt p0 p1 == 41)
 (
 br (w6 (ni p4.length - 1) == 0)
 (ck9 147 [.agg [.rs (5,0) p2]] fun a=>((some ((.tup [.agg [.os (5,0) a],.os (1,0) p3,iN (5),iN p1]),[]))))
 (
 grd (decide (0 <= w6 (ni p4.length - 1)) && decide (w6 (ni p4.length - 1) < ni p4.length)) (cT p4 (Int.toNat (w6 (ni p4.length - 1))) fun a=>
 asAgg a fun b=>cT b 1 fun c=>
 jl (1,0) c fun d=>asAgg a fun e=>zP 210 [.op [.os (5,0) p5],.rs (1,0) d] fun f g=>((grd (cW (List.length (List.set p4 (Int.toNat (w6 (ni p4.length - 1))) (D.agg (List.take 1 e++[D.dead]++List.drop 2 e)))) none (some (w6 (ni p4.length - 1)))) (grd (decide (0 <= w6 (w6 (ni p4.length - 1) - 1)) && decide (w6 (w6 (ni p4.length - 1) - 1) < ni (Int.toNat (w6 (ni p4.length - 1)))) && decide (0 + Int.toNat (w6 (ni p4.length - 1)) <= List.length (List.set p4 (Int.toNat (w6 (ni p4.length - 1))) (D.agg (List.take 1 e++[D.dead]++List.drop 2 e))))) (cT (List.set p4 (Int.toNat (w6 (ni p4.length - 1))) (D.agg (List.take 1 e++[D.dead]++List.drop 2 e))) (0 + Int.toNat (w6 (w6 (ni p4.length - 1) - 1))) fun h=>
 asAgg h fun i=>cT i 1 fun j=>
 jl (1,0) j fun k=>asAgg h fun l=>grd (decide (ni (List.length (k++[iN f])) <= LIM)) (nam (k++[iN f]) fun m=>
 grd (decide (0 <= w6 (w6 (ni p4.length - 1) - 1)) && decide (w6 (w6 (ni p4.length - 1) - 1) < ni (Int.toNat (w6 (ni p4.length - 1)))) && decide (0 + Int.toNat (w6 (ni p4.length - 1)) <= List.length (List.set (List.set p4 (Int.toNat (w6 (ni p4.length - 1))) (D.agg (List.take 1 e++[D.dead]++List.drop 2 e))) (0 + Int.toNat (w6 (w6 (ni p4.length - 1) - 1))) (D.agg (List.take 1 l++[D.dead]++List.drop 2 l))))) (cT (List.set (List.set p4 (Int.toNat (w6 (ni p4.length - 1))) (D.agg (List.take 1 e++[D.dead]++List.drop 2 e))) (0 + Int.toNat (w6 (w6 (ni p4.length - 1) - 1))) (D.agg (List.take 1 l++[D.dead]++List.drop 2 l))) (0 + Int.toNat (w6 (w6 (ni p4.length - 1) - 1))) fun n=>
 asAgg n fun o=>nam (List.set (List.set (List.set p4 (Int.toNat (w6 (ni p4.length - 1))) (D.agg (List.take 1 e++[D.dead]++List.drop 2 e))) (0 + Int.toNat (w6 (w6 (ni p4.length - 1) - 1))) (D.agg (List.take 1 l++[D.dead]++List.drop 2 l))) (0 + Int.toNat (w6 (w6 (ni p4.length - 1) - 1)))
 (D.agg
 (List.take 1 o ++
 [D.os
 (TypeInfo.size (Tables.types (Program.toTables Tryz.prog))[3],
 match qU Tryz.prog (3) with
 | true=>0
 | false=>1)
 m] ++
 List.drop 2 o))) fun p=>
 za p0 (Int.toNat (w6 (ni p4.length - 1))) (w6 (p1 + 1)) p2 p3 p g)))))))))
 (ck6 211 [.int .u8 (bt p0 p1)] fun a=>(br a
 (AA p0 p1 (w6 (ni p4.length - 1)) p1 p2 p3 p4 p5)
 (ck9 147 [.agg [.rs (5,0) p2]] fun b=>((some ((.tup [.agg [.os (5,0) b],.os (1,0) p3,iN (2),iN p1]),[]))))))))))
 (
 br (decide (ni p4.length > 1))
 (ck9 147 [.agg [.rs (5,0) p2]] fun a=>((grd (decide (0 <= w6 (ni p4.length - 1)) && decide (w6 (ni p4.length - 1) < ni p4.length)) (cT p4 (Int.toNat (w6 (ni p4.length - 1))) fun b=>
 asAgg b fun c=>cT c 0 fun d=>
 asI .i64 d fun e=>some ((.tup [.agg [.os (5,0) a],.os (1,0) p3,iN (4),iN e]),[])))))
 (ck6 60 [.agg [.rs (5,0) p5]] fun a=>(br (!a)
 (ck9 147 [.agg [.rs (5,0) p2]] fun b=>((some ((.tup [.agg [.os (5,0) b],.os (1,0) p3,iN (6),iN (0)]),[]))))
 (
 grd (decide (0 <= 0) && decide (0 < ni p4.length)) (cT p4 0 fun b=>
 asAgg b fun c=>cT c 1 fun d=>
 jl (1,0) d fun e=>asAgg b fun f=>grd (decide (ni (List.length ([]++e)) <= LIM)) (nam ([]++e) fun g=>
 some ((.tup [.agg [.os (5,0) p5],.os (1,0) g,iN (0),(iN (ni (ByteArray.size p0)))]),[]))))))):=by
 exact (yC _ _ _).trans (by kernel_rfl)
theorem Rl :V 213 [] =
 some ((.os (1,0) [.str ({ data:=#[40,100,101,102,105,110,101,32,40,102,32,110,41,32,40,105,102,32,40,60,32,110,32,50,41,32,110,32,40,43,32,40,102,32,40,45,32,110,32,49,41,41,32,40,102,32,40,45,32,110,32,50,41,41,41,41,41,32,40,102,32,54,41] }),(.str ({ data:=List.toArray (List.append [40,100,101,102,105,110,101,32,40,117,112,32,110,41,32,40,105,102,32,40,60,32,110,32,51,41,32,40,100,111,32,40] [112,114,105,110,116,32,110,41,32,40,117,112,32,40,43,32,110,32,49,41,41,41,32,110,41,41,32,40,117,112,32,48,41]) })),.str ({ data:=#[40,108,101,116,32,120,32,53,32,40,108,101,116,32,102,32,40,102,110,32,40,121,41,32,40,43,32,120,32,121,41,41,32,40,112,114,105,110,116,32,40,102,32,52,41,41,41,41] }),.str ({ data:=#[40,112,114,105,110,116,32,40,99,97,108,108,99,99,32,40,102,110,32,40,107,41,32,40,100,111,32,40,107,32,55,41,32,56,41,41,41,41] }),(.str ({ data:=List.toArray (List.append [40,100,101,102,105,110,101,32,40,109,97,112,32,102,32,108,41,32,40,105,102,32,40,110,117,108,108,63,32,108,41,32,40,41,32,40,99,111,110,115,32,40,102,32,40,99,97,114,32,108,41,41,32,40,109,97,112,32,102] [32,40,99,100,114,32,108,41,41,41,41,41,32,40,112,114,105,110,116,32,40,109,97,112,32,40,102,110,32,40,120,41,32,40,42,32,120,32,120,41,41,32,40,113,117,111,116,101,32,40,49,32,50,32,51,41,41,41,41]) })),.str ({ data:=#[40,100,111,32,40,115,112,97,119,110,32,40,102,110,32,40,41,32,40,100,111,32,40,112,114,105,110,116,32,49,41,32,40,112,114,105,110,116,32,50,41,41,41,41,32,40,112,114,105,110,116,32,51,41,41] }),(.str ({ data:=List.toArray (List.append [40,108,101,116,32,112,32,40,115,112,97,119,110,32,40,102,110,32,40,41,32,40,112,114,105,110,116,32,40,114,101,99,118,41] [41,41,41,32,40,100,111,32,40,115,101,110,100,32,112,32,40,113,117,111,116,101,32,40,97,32,98,41,41,41,32,48,41,41]) })),(.str ({ data:=List.toArray (List.append [40,108,101,116,32,112,32,40,115,112,97,119,110,32,40,102,110,32,40,41,32,40,108,101,116,32,102,32,40,114,101,99,118,41,32,40,112,114,105,110,116,32,40,102] [32,53,41,41,41,41,41,32,40,108,101,116,32,122,32,57,32,40,115,101,110,100,32,112,32,40,102,110,32,40,120,41,32,40,43,32,120,32,122,41,41,41,41,41]) })),.str ({ data:=#[40,100,111,32,40,112,114,105,110,116,32,49,41,32,40,103,111,32,49,41,32,40,112,114,105,110,116,32,50,41,32,40,103,111,32,48,41,32,40,112,114,105,110,116,32,51,41,41] }),(.str ({ data:=List.toArray (List.append [40,108,101,116,32,109,101,32,40,115,101,108,102,41,32,40,100,111,32,40,115,112,97,119,110,32,40,102,110,32,40,41,32,40,100,111,32,40] [103,111,32,49,41,32,40,115,101,110,100,32,109,101,32,52,50,41,41,41,41,32,40,112,114,105,110,116,32,40,114,101,99,118,41,41,41,41]) })),(.str ({ data:=List.toArray (List.append [40,100,101,102,105,110,101,32,40,108,111,111,112,32,110,41,32,40,105,102,32,40,61,32,110,32,48,41,32,40,112,114,105,110,116,32,40] [113,117,111,116,101,32,101,110,100,41,41,32,40,108,111,111,112,32,40,45,32,110,32,49,41,41,41,41,32,40,108,111,111,112,32,57,41]) })),.str ({ data:=#[40,112,114,105,110,116,32,40,99,97,114,32,40,113,117,111,116,101,32,40,41,41,41,41] }),.str ({ data:=#[40,112,114,105,110,116,32,40,102,32,49,41,41] }),.str ({ data:=#[40,43,32,49,32,35,116,41] }),.str ({ data:=#[40,112,114,105,110,116,32,40,99,111,110,115,32,49,32,40,99,111,110,115,32,50,32,40,41,41,41,41] }),(.str ({ data:=List.toArray (List.append (List.append [40,100,101,102,105,110,101,32,40,112,105,110,103,32,112,32,110,41,32,40,105,102,32,40,60,32,110,32,49,41,32,48,32,40,100,111,32,40,115,101,110,100,32,112,32] [110,41,32,40,112,114,105,110,116,32,40,114,101,99,118,41,41,32,40,112,105,110,103,32,112,32,40,45,32,110,32,49,41,41,41,41,41,32,40,108,101,116,32,109,101,32]) (List.append [40,115,101,108,102,41,32,40,112,105,110,103,32,40,115,112,97,119,110,32,40,102,110,32,40,41,32,40,100,111,32,40,103,111,32,49,41,32,40,115,101,110,100,32,109,101] [32,40,43,32,49,48,32,40,114,101,99,118,41,41,41,32,40,115,101,110,100,32,109,101,32,40,43,32,49,48,32,40,114,101,99,118,41,41,41,41,41,41,32,50,41,41])) })),(.str ({ data:=List.toArray (List.append [40,108,101,116,32,107,32,40,99,97,108,108,99,99,32,40,102,110,32,40,99,41,32,99,41,41,32,40,105,102,32,40,112,97,105,114,63] [32,107,41,32,40,112,114,105,110,116,32,40,99,97,114,32,107,41,41,32,40,107,32,40,113,117,111,116,101,32,40,53,41,41,41,41,41]) })),(.str ({ data:=List.toArray (List.append [40,108,101,116,32,112,32,40,115,112,97,119,110,32,40,102,110,32,40,41,32,40,100,111,32,40,103,111,32,49,41,32,40,108,101,116,32,107,32,40,114,101,99,118,41,32,40,107,32,56] [41,41,41,41,41,32,40,112,114,105,110,116,32,40,99,97,108,108,99,99,32,40,102,110,32,40,107,41,32,40,100,111,32,40,115,101,110,100,32,112,32,107,41,32,51,41,41,41,41,41]) }))]),[]):=by
 exact (yD Tryz.func213 rfl _).trans (by kernel_rfl)
theorem Rh (a0_0:List D) (a0_1 a0_2 a1_0 a1_1:Int) (a1_2:ByteArray) (a1_3 a1_4:Int):V 156 [.op [.rs (1,0) a0_0,iN a0_1,iN a0_2],.agg [iN a1_0,iN a1_1,.str a1_2,iN a1_3,iN a1_4]] =
 ck8 76 [.op [.rs (1,0) a0_0,iN a0_1,iN a0_2],iN (8)] fun a b c d=>((br (a == 0)
 (ck8 76 [.op [.rs (1,0) b,iN c,iN d],iN (11)] fun e f g h=>((some ((.agg [iN e,iN a1_1,.str a1_2,iN a1_3,iN a1_4]),[.op [.rs (1,0) f,iN g,iN h]]))))
 (
 br (a == 1)
 (ck8 76 [.op [.rs (1,0) b,iN c,iN d],iN (20)] fun e f g h=>((some ((.agg [iN a1_0,iN a1_1,.str a1_2,(iN (w6 (e - 1))),iN a1_4]),[.op [.rs (1,0) f,iN g,iN h]]))))
 (
 br (a == 2)
 (ck8 76 [.op [.rs (1,0) b,iN c,iN d],iN (20)] fun e f g h=>((some ((.agg [iN a1_0,iN a1_1,.str a1_2,iN a1_3,(iN (w6 (e - 1)))]),[.op [.rs (1,0) f,iN g,iN h]]))))
 (
 br (a == 3)
 (ck8 122 [.op [.rs (1,0) b,iN c,iN d],(.rs (1,0) [iN (-1),iN (2),iN (99),iN (100),iN (1000000000),iN (1000000001),iN (-1000000000),iN (-1000000001)])] fun e f g h=>((some ((.agg [iN a1_0,iN e,.str a1_2,iN a1_3,iN a1_4]),[.op [.rs (1,0) f,iN g,iN h]]))))
 (
 br (a == 4)
 (KI 75 [.op [.rs (1,0) b,iN c,iN d],(.rs (1,0) [.str ({ data:=#[] }),.str ({ data:=#[97] }),.str ({ data:=#[65,98] }),.str ({ data:=#[97,98,99,100,101,102,103,104,105,106,107,108] }),.str ({ data:=#[97,98,99,100,101,102,103,104,105,106,107,108,109] }),.str ({ data:=#[97,49] })])] fun e f g h=>((some ((.agg [iN a1_0,iN a1_1,.str e,iN a1_3,iN a1_4]),[.op [.rs (1,0) f,iN g,iN h]]))))
 (some ((.agg [iN a1_0,iN a1_1,.str a1_2,iN a1_3,iN a1_4]),[.op [.rs (1,0) b,iN c,iN d]])))))))):=by
 exact (yD Tryz.func156 rfl _).trans (by kernel_rfl)
theorem PT (a0_ a1_0 a1_1:Int) (a1_2:ByteArray) (a1_3 a1_4 a2_0 a2_1:Int) (a2_2:ByteArray) (a2_3 a2_4:Int):V 250 [iN a0_,.agg [iN a1_0,iN a1_1,.str a1_2,iN a1_3,iN a1_4],.agg [iN a2_0,iN a2_1,.str a2_2,iN a2_3,iN a2_4]] =
 br (a1_0 != 3)
 (some ((.tup [.agg [iN (0),iN (0),.str ({ data:=#[] }),iN (0),iN (0)],iN (3)]),[]))
 (
 br (a2_0 != 3)
 (some ((.tup [.agg [iN (0),iN (0),.str ({ data:=#[] }),iN (0),iN (0)],iN (3)]),[]))
 (
 br (a0_ == 2)
 (ck6 62 [(iN (w6 (a1_1 - a2_1))),iN (-1000000000),iN (1000000000)] fun a=>(br (!a)
 (some ((.tup [.agg [iN (0),iN (0),.str ({ data:=#[] }),iN (0),iN (0)],iN (4)]),[]))
 (some ((.tup [(.agg [iN (3),(iN (w6 (a1_1 - a2_1))),.str ({ data:=#[] }),iN (0),iN (0)]),iN (0)]),[]))))
 (
 br (a0_ == 3)
 (ck6 62 [(iN (w6 (a1_1 * a2_1))),iN (-1000000000),iN (1000000000)] fun a=>(br (!a)
 (some ((.tup [.agg [iN (0),iN (0),.str ({ data:=#[] }),iN (0),iN (0)],iN (4)]),[]))
 (some ((.tup [(.agg [iN (3),(iN (w6 (a1_1 * a2_1))),.str ({ data:=#[] }),iN (0),iN (0)]),iN (0)]),[]))))
 (
 br (a0_ == 4)
 (PE 251 [(.bool (decide (a1_1 < a2_1)))] fun a b c d e=>((some ((.tup [.agg [iN a,iN b,.str c,iN d,iN e],iN (0)]),[]))))
 (
 br (a0_ == 5)
 (PE 251 [.bool (a1_1 == a2_1)] fun a b c d e=>((some ((.tup [.agg [iN a,iN b,.str c,iN d,iN e],iN (0)]),[]))))
 (ck6 62 [(iN (w6 (a1_1 + a2_1))),iN (-1000000000),iN (1000000000)] fun a=>(br (!a)
 (some ((.tup [.agg [iN (0),iN (0),.str ({ data:=#[] }),iN (0),iN (0)],iN (4)]),[]))
 (some ((.tup [(.agg [iN (3),(iN (w6 (a1_1 + a2_1))),.str ({ data:=#[] }),iN (0),iN (0)]),iN (0)]),[]))))))))):=by
 exact (yD Tryz.func250 rfl _).trans (by kernel_rfl)
theorem PP (a0_0:List D) (a0_1 a0_2:Int) (a1_0:List D):V 91 [.op [.rs (1,0) a0_0,iN a0_1,iN a0_2],.agg [.rs (5,0) a1_0]] =
 br (ni a1_0.length == 0)
 (ck8 122 [.op [.rs (1,0) a0_0,iN a0_1,iN a0_2],(.rs (1,0) [iN (-1),iN (0),(iN (ni a1_0.length))])] fun a b c d=>((some ((iN a),[.op [.rs (1,0) b,iN c,iN d]]))))
 (S9 155 [.op [.rs (1,0) a0_0,iN a0_1,iN a0_2],iN (20)] fun a b c d=>((br a
 (ck8 122 [.op [.rs (1,0) b,iN c,iN d],(.rs (1,0) [iN (-1),iN (0),(iN (ni a1_0.length))])] fun e f g h=>((some ((iN e),[.op [.rs (1,0) f,iN g,iN h]]))))
 (Iv 116 [(iN (ni a1_0.length)),iN (9)] fun e=>(ck8 76 [.op [.rs (1,0) b,iN c,iN d],iN e] fun f g h i=>((some ((iN (w6 (w6 (ni a1_0.length - 1) - f))),[.op [.rs (1,0) g,iN h,iN i]])))))))):=by
 exact (yD Tryz.func91 rfl _).trans (by kernel_rfl)
theorem Jx (a0_:List D):V 44 [.rs (1,0) a0_] =
 abk 51 [.rs (1,0) a0_] fun a b c=>((aai 112 [.op [.rs (1,0) a,iN b,iN c]] fun d e f g h i j k l m n o p q=>(((((PF 20 [.agg [.rs (5,0) d,.rs (4,0) e,.rs (3,0) f],(.agg [.rs (5,0) g,iN h,iN i,iN j,iN k,iN l,iN m,iN n])] fun r _=>((KI 113 [.op [.rs (1,0) o,iN p,iN q],.str r] fun s _ _ _=>((some ((.tup [.agg [.rs (5,0) d,.rs (4,0) e,.rs (3,0) f],.str s]),[])))))))))))):=by
 exact (yD Tryz.func44 rfl _).trans (by kernel_rfl)
theorem DG (p0 p1 p2:Int) (p3 p4 p5:List D) (p6 p7:Int) (p8:ByteArray) (p9 p10:Int):zl p0 p1 p2 p3 p4 p5 p6 p7 p8 p9 p10 =
 br (decide (p2 < p0))
 (
 grd (decide (0 <= p2) && decide (p2 < ni p5.length)) (cT p5 p2.toNat fun a=>
 tk1 a fun b c d e f=>(br (b == p6 && (c == p7 && (kc d p8 && (e == p9 && (f == p10 && true)))))
 (
 grd (decide (ni (List.length (p5++[D.agg [iN p6,iN p7,D.str p8,iN p9,iN p10]])) <= LIM)) (nam (p5++[D.agg [iN p6,iN p7,D.str p8,iN p9,iN p10]]) fun g=>
 grd (decide (ni (List.length (p4++[iN p2])) <= LIM)) (nam (p4++[iN p2]) fun h=>
 z3 (w6 (p0 + 1)) p3 h g)))
 (zl p0 p1 (w6 (p2 + 1)) p3 p4 p5 p6 p7 p8 p9 p10))))
 (
 grd (decide (ni (List.length (p5++[D.agg [iN p6,iN p7,D.str p8,iN p9,iN p10]])) <= LIM)) (nam (p5++[D.agg [iN p6,iN p7,D.str p8,iN p9,iN p10]]) fun a=>
 grd (decide (ni (List.length (p4++[iN p1])) <= LIM)) (nam (p4++[iN p1]) fun b=>
 z3 (w6 (p0 + 1)) p3 b a))):=by
 exact (yC _ _ _).trans (by kernel_rfl)
theorem Mj (a0_0 a0_1 a0_2 a1_0:List D) (a1_1 a1_2 a1_3 a1_4 a1_5 a1_6 a1_7:Int):V 20 [.agg [.rs (5,0) a0_0,.rs (4,0) a0_1,.rs (3,0) a0_2],.agg [.rs (5,0) a1_0,iN a1_1,iN a1_2,iN a1_3,iN a1_4,iN a1_5,iN a1_6,iN a1_7]] =
 ck6 15 [.agg [.rs (5,0) a0_0,.rs (4,0) a0_1,.rs (3,0) a0_2],(.agg [.rs (5,0) a1_0,iN a1_1,iN a1_2,iN a1_3,iN a1_4,iN a1_5,iN a1_6,iN a1_7])] fun a=>(br (!a)
 (some ((.tup [.str ({ data:=#[] }),.bool false]),[]))
 (ck5 28 [.agg [.rs (5,0) a1_0,iN a1_1,iN a1_2,iN a1_3,iN a1_4,iN a1_5,iN a1_6,iN a1_7]] fun b c d e f g h i=>((AK (0) c d e f g h i [] ([iN c,iN g,iN h,iN d,iN e,iN f,iN i]) b)))):=by
 exact (yD Tryz.func20 rfl _).trans (by kernel_rfl)
theorem KM (a0_0:List D) (a0_1 a0_2:Int):V 192 [.op [.rs (1,0) a0_0,iN a0_1,iN a0_2]] =
 S9 155 [(
 .op [.rs (1,0) a0_0,iN a0_1,iN a0_2]),iN (4)] fun a b c d=>((br (!a)
 (zA 213 [] fun e=>(KI 75 [.op [.rs (1,0) b,iN c,iN d],.rs (1,0) e] fun f g h i=>((some ((.str f),[.op [.rs (1,0) g,iN h,iN i]])))))
 (KI 214 [.op [.rs (1,0) b,iN c,iN d],iN (3)] fun e f g h=>((some ((.str e),[.op [.rs (1,0) f,iN g,iN h]])))))):=by
 exact (yD Tryz.func192 rfl _).trans (by kernel_rfl)
theorem Dc (p0 p1 p2 p3 p4 p5 p6 p7 p8:Int) (p9 p10 p11:List D):AJ p0 p1 p2 p3 p4 p5 p6 p7 p8 p9 p10 p11 =
 br (decide (p1 < p0))
 (
 grd (decide (0 <= p1) && decide (p1 < ni p10.length)) (cT p10 p1.toNat fun a=>
 asI .i64 a fun b=>zA 67 [iN b] fun c=>(grd (decide (ni (List.length (p9++c)) <= LIM)) (nam (p9++c) fun d=>
 AJ p0 (w6 (p1 + 1)) p2 p3 p4 p5 p6 p7 p8 d p10 p11))))
 (zA 68 [.agg [.rs (5,0) p11]] fun a=>(grd (decide (ni (List.length (p9++a)) <= LIM)) (nam (p9++a) fun b=>
 gy b fun c=>some ((.tup [.str c,.bool true]),[])))):=by
 exact (yC _ _ _).trans (by kernel_rfl)
theorem O9 (a0_0:List D) (a0_1 a0_2:Int) (a1_:List D):V 122 [.op [.rs (1,0) a0_0,iN a0_1,iN a0_2],.rs (1,0) a1_] =
 ck8 76 [.op [.rs (1,0) a0_0,iN a0_1,iN a0_2],(iN (ni a1_.length))] fun a b c d=>((grd (decide (0 <= a) && decide (a < ni a1_.length)) (cT a1_ a.toNat fun e=>
 asI .i64 e fun f=>some ((iN f),[.op [.rs (1,0) b,iN c,iN d]])))):=by
 exact (yD Tryz.func122 rfl _).trans (by kernel_rfl)
theorem DF (p0:List D) (p1:ByteArray) (p2 p3:Int):AZ p0 p1 p2 p3 =
 br (decide (p3 < p2))
 (
 grd (decide (0 <= p3) && decide (p3 < ni p0.length)) (cT p0 p3.toNat fun a=>
 tk2 a fun b c d=>(ck6 179 [.agg [.str b,iN c,iN d],(.bp [.str p1])] fun e=>(br e
 (some ((iN p3),[]))
 (AZ p0 p1 p2 (w6 (p3 + 1)))))))
 (some ((iN (-1)),[])):=by
 exact (yC _ _ _).trans (by kernel_rfl)
theorem Uf (cp cl cd p:List D) (m1 m2 m3 m4 m5 m6 m7 k nx:Int):V 219 [.agg [.rs (5,0) cp,.rs (4,0) cl,.rs (3,0) cd],.op [.os (5,0) p,iN m1,iN m2,iN m3,iN m4,iN m5,iN m6,iN m7],iN k,iN nx] =
 grd (decide (0 <= k) && decide (k <= LIM)) (Du nx (w6 (k - 1)) m1 m2 m3 m4 m5 m6 m7 cp cl cd (List.replicate k.toNat (iN (0))) p):=by
 exact (yD Tryz.func219 rfl _).trans (by kernel_rfl)
theorem Mi (b:List D) (i:Int) (k:Bool) :V 190 [.op [.os (1,0) b,iN i,.bool k]] =
 Tc 209 [.rs (1,0) b,iN i] fun a c d=>((br (!d)
 (some ((.str ({ data:=#[] })),[.op [.os (1,0) b,iN i,.bool false]]))
 (some ((.str a),[.op [.os (1,0) b,iN c,.bool k]])))):=by
 exact (yD Tryz.func190 rfl _).trans (by kernel_rfl)
theorem Un (a0_0 a1_:List D):V 86 [.agg [.rs (5,0) a0_0],.rs (1,0) a1_] =
 zA 149 [.agg [.rs (5,0) a0_0],.rs (1,0) a1_] fun a=>(Xq 148 [.op [.os (5,0) []],(.agg [.rs (5,0) a0_0]),.rs (1,0) a] fun b c=>((Dv a1_ (0) b [] c))):=by
 exact (yD Tryz.func86 rfl _).trans (by kernel_rfl)
theorem Gn (p0:Int) (p1 p2 p3:List D):Dh p0 p1 p2 p3 =
 br (decide (p0 < ni p2.length))
 (ck6 127 [.agg [.rs (5,0) p1,.rs (4,0) p2,.rs (3,0) p3],iN p0] fun a=>(br (!a)
 (some ((.bool false),[]))
 (Dh (w6 (p0 + 1)) p1 p2 p3)))
 (Di (0) p1 p2 p3):=by
 exact (yC _ _ _).trans (by kernel_rfl)
theorem Rb (a0_0 a1_:List D):V 193 [.agg [.rs (5,0) a0_0],.rs (1,0) a1_] =
 ck6 60 [.agg [.rs (5,0) a0_0]] fun a=>(br (!a)
 (some ((.tup [.agg [.os (5,0) [],.os (4,0) [],.os (3,0) []],iN (3),iN (0)]),[]))
 (CN a1_ (0) a0_0)):=by
 exact (yD Tryz.func193 rfl _).trans (by kernel_rfl)
theorem NN (a0_:Int):V 211 [.int .u8 a0_] =
 ck6 180 [.int .u8 a0_] fun a=>(br a
 (some ((.bool true),[]))
 (ck6 226 [.int .u8 a0_] fun b=>(br b
 (some ((.bool true),[]))
 (some ((.bool (a0_ == 35)),[]))))):=by
 exact (yD Tryz.func211 rfl _).trans (by kernel_rfl)
theorem Re (a0_:ByteArray):V 139 [.str a0_] =
 zA 69 [(iN (ni (ByteArray.size a0_)))] fun a=>(grd (decide (ni (List.length (a++gU a0_)) <= LIM)) (nam (a++gU a0_) fun b=>
 some ((.os (1,0) b),[]))):=by
 exact (yD Tryz.func139 rfl _).trans (by kernel_rfl)
theorem FK (a0_:List D) (a1_:Int):V 203 [.rs (1,0) a0_,.int .u8 a1_] =
 Iv 221 [.rs (1,0) a0_,.int .u8 a1_] fun a=>(some ((.bool (decide (a >= 0))),[])):=by
 exact (yD Tryz.func203 rfl _).trans (by kernel_rfl)
theorem Mr (a0_0:List D) (a0_1 a0_2:Int):V 142 [.op [.rs (1,0) a0_0,iN a0_1,iN a0_2]] =
 z7 (0) a0_0 a0_1 a0_2:=by
 exact (yD Tryz.func142 rfl _).trans (by kernel_rfl)
theorem TE (a0_:ByteArray):V 232 [.str a0_] =
 zA 239 [] fun a=>(Dp a0_ (1) a):=by
 exact (yD Tryz.func232 rfl _).trans (by kernel_rfl)
theorem Tk (a0_0:List D):V 55 [.agg [.rs (5,0) a0_0]] =
 Dd a0_0 (ni a0_0.length) (0) a0_0:=by
 exact (yD Tryz.func55 rfl _).trans (by kernel_rfl)
theorem Zo (a0_:List D):V 12 [.rs (1,0) a0_] =
 some ((.bool (decide (ni a0_.length > 1048576))),[]):=by
 exact (yD Tryz.func12 rfl _).trans (by kernel_rfl)

end Go.Eng
/-! the functions as the interpreter has them -/
namespace Go.Eng
open Go.Proofs Go.Proofs.Tryz
set_option maxRecDepth 100000
theorem NU (a0_0:List D) (a0_1 a0_2:Int):V 112 [.op [.rs (1,0) a0_0,iN a0_1,iN a0_2]] =
 aaj 142 [.op [.rs (1,0) a0_0,iN a0_1,iN a0_2]] fun a b c d e f=>(((Iv 129 [.agg [.rs (5,0) a,.rs (4,0) b,.rs (3,0) c],.str ({ data:=#[109,97,105,110] })] fun g=>(br (decide (g < 0))
 (
 br (decide (ni c.length > 0))
 (
 grd (decide (0 <= 0) && decide (0 < ni c.length)) (cT c 0 fun h=>
 asAgg h fun i=>cT i 0 fun j=>
 asS j fun k=>JB 78 [.agg [.rs (5,0) a,.rs (4,0) b,.rs (3,0) c],.str k] fun l m n o p q r s t=>(((br (!t)
 (JB 171 [.agg [.rs (5,0) a,.rs (4,0) b,.rs (3,0) c],(.agg [(.rs (5,0) [.agg [iN (1),iN (0),.str ({ data:=#[] }),iN (0),iN (0)],(.agg [iN (6),iN (0),.str ({ data:=#[] }),iN (0),iN (0)])])]),iN (1)] fun u v w x y z A B _=>(((ck8 76 [.op [.rs (1,0) d,iN e,iN f],iN (60)] fun C E F G=>((Vi 172 [.op [.rs (1,0) E,iN F,iN G],(.agg [.rs (5,0) a,.rs (4,0) b,.rs (3,0) c]),(.agg [.os (5,0) u,iN v,iN w,iN x,iN y,iN z,iN A,iN B]),iN C] fun H I J K L M N O P Q R=>(((some ((.tup [.agg [.rs (5,0) a,.rs (4,0) b,.rs (3,0) c],(.agg [.os (5,0) H,iN I,iN J,iN K,iN L,iN M,iN N,iN O])]),[.op [.rs (1,0) P,iN Q,iN R]]))))))))))
 (ck8 76 [.op [.rs (1,0) d,iN e,iN f],iN (60)] fun u v w x=>((Vi 172 [.op [.rs (1,0) v,iN w,iN x],(.agg [.rs (5,0) a,.rs (4,0) b,.rs (3,0) c]),(.agg [.os (5,0) l,iN m,iN n,iN o,iN p,iN q,iN r,iN s]),iN u] fun y z A B C E F G H I J=>(((some ((.tup [.agg [.rs (5,0) a,.rs (4,0) b,.rs (3,0) c],(.agg [.os (5,0) y,iN z,iN A,iN B,iN C,iN E,iN F,iN G])]),[.op [.rs (1,0) H,iN I,iN J]]))))))))))))
 (JB 78 [(.agg [(.rs (
 5,0) a),.rs (4,0) b,.rs (3,0) c]),.str ({ data:=#[109,97,105,110] })] fun h i j k l m n o p=>(((br (!p)
 (JB 171 [.agg [.rs (5,0) a,.rs (4,0) b,.rs (3,0) c],(.agg [(.rs (5,0) [.agg [iN (1),iN (0),.str ({ data:=#[] }),iN (0),iN (0)],(.agg [iN (6),iN (0),.str ({ data:=#[] }),iN (0),iN (0)])])]),iN (1)] fun q r s t u v w x _=>(((ck8 76 [.op [.rs (1,0) d,iN e,iN f],iN (60)] fun y z A B=>((Vi 172 [.op [.rs (1,0) z,iN A,iN B],(.agg [.rs (5,0) a,.rs (4,0) b,.rs (3,0) c]),(.agg [.os (5,0) q,iN r,iN s,iN t,iN u,iN v,iN w,iN x]),iN y] fun C E F G H I J K L M N=>(((some ((.tup [.agg [.rs (5,0) a,.rs (4,0) b,.rs (3,0) c],(.agg [.os (5,0) C,iN E,iN F,iN G,iN H,iN I,iN J,iN K])]),[.op [.rs (1,0) L,iN M,iN N]]))))))))))
 (ck8 76 [.op [.rs (1,0) d,iN e,iN f],iN (60)] fun q r s t=>((Vi 172 [.op [.rs (1,0) r,iN s,iN t],(.agg [.rs (5,0) a,.rs (4,0) b,.rs (3,0) c]),(.agg [.os (5,0) h,iN i,iN j,iN k,iN l,iN m,iN n,iN o]),iN q] fun u v w x y z A B C E F=>(((some ((.tup [.agg [.rs (5,0) a,.rs (4,0) b,.rs (3,0) c],(.agg [.os (5,0) u,iN v,iN w,iN x,iN y,iN z,iN A,iN B])]),[.op [.rs (1,0) C,iN E,iN F]]))))))))))))
 (JB 78 [(.agg [(.rs (
 5,0) a),.rs (4,0) b,.rs (3,0) c]),.str ({ data:=#[109,97,105,110] })] fun h i j k l m n o p=>(((br (!p)
 (JB 171 [.agg [.rs (5,0) a,.rs (4,0) b,.rs (3,0) c],(.agg [(.rs (5,0) [.agg [iN (1),iN (0),.str ({ data:=#[] }),iN (0),iN (0)],(.agg [iN (6),iN (0),.str ({ data:=#[] }),iN (0),iN (0)])])]),iN (1)] fun q r s t u v w x _=>(((ck8 76 [.op [.rs (1,0) d,iN e,iN f],iN (60)] fun y z A B=>((Vi 172 [.op [.rs (1,0) z,iN A,iN B],(.agg [.rs (5,0) a,.rs (4,0) b,.rs (3,0) c]),(.agg [.os (5,0) q,iN r,iN s,iN t,iN u,iN v,iN w,iN x]),iN y] fun C E F G H I J K L M N=>(((some ((.tup [.agg [.rs (5,0) a,.rs (4,0) b,.rs (3,0) c],(.agg [.os (5,0) C,iN E,iN F,iN G,iN H,iN I,iN J,iN K])]),[.op [.rs (1,0) L,iN M,iN N]]))))))))))
 (ck8 76 [.op [.rs (1,0) d,iN e,iN f],iN (60)] fun q r s t=>((Vi 172 [.op [.rs (1,0) r,iN s,iN t],(.agg [.rs (5,0) a,.rs (4,0) b,.rs (3,0) c]),(.agg [.os (5,0) h,iN i,iN j,iN k,iN l,iN m,iN n,iN o]),iN q] fun u v w x y z A B C E F=>(((some ((.tup [.agg [.rs (5,0) a,.rs (4,0) b,.rs (3,0) c],(.agg [.os (5,0) u,iN v,iN w,iN x,iN y,iN z,iN A,iN B])]),[.op [.rs (1,0) C,iN E,iN F]]))))))))))))))):=by
 exact (yD Tryz.func112 rfl _).trans (by kernel_rfl)
theorem FG (p0:Int) (p1 p2:List D):yW p0 p1 p2 =
 br (decide (p0 < ni p1.length))
 (
 grd (decide (0 <= p0) && decide (p0 < ni p1.length)) (cT p1 p0.toNat fun a=>
 tk1 a fun b c d e f=>(zA 69 [iN b] fun g=>(grd (decide (ni (List.length (p2++g)) <= LIM)) (nam (p2++g) fun h=>
 br (b == 2)
 (
 br (b == 2)
 (zA 69 [iN c] fun i=>(grd (decide (ni (List.length (h++i)) <= LIM)) (nam (h++i) fun j=>
 yW (w6 (p0 + 1)) p1 j)))
 (
 br (b == 3)
 (zA 69 [(iN (w6 (c + 1000000000)))] fun i=>(grd (decide (ni (List.length (h++i)) <= LIM)) (nam (h++i) fun j=>
 yW (w6 (p0 + 1)) p1 j)))
 (
 br (b == 4)
 (zA 139 [.str d] fun i=>(grd (decide (ni (List.length (h++i)) <= LIM)) (nam (h++i) fun j=>
 yW (w6 (p0 + 1)) p1 j)))
 (
 br (b == 5)
 (zA 69 [iN e] fun i=>(grd (decide (ni (List.length (h++i)) <= LIM)) (nam (h++i) fun j=>
 zA 69 [iN f] fun k=>(grd (decide (ni (List.length (j++k)) <= LIM)) (nam (j++k) fun l=>
 yW (w6 (p0 + 1)) p1 l)))))
 (
 br (b == 6)
 (zA 69 [iN c] fun i=>(grd (decide (ni (List.length (h++i)) <= LIM)) (nam (h++i) fun j=>
 zA 69 [iN e] fun k=>(grd (decide (ni (List.length (j++k)) <= LIM)) (nam (j++k) fun l=>
 yW (w6 (p0 + 1)) p1 l)))))
 (
 br (b == 7)
 (zA 69 [iN e] fun i=>(grd (decide (ni (List.length (h++i)) <= LIM)) (nam (h++i) fun j=>
 yW (w6 (p0 + 1)) p1 j)))
 (yW (w6 (p0 + 1)) p1 h)))))))
 (
 br (b == 8)
 (
 br (b == 8)
 (zA 69 [iN c] fun i=>(grd (decide (ni (List.length (h++i)) <= LIM)) (nam (h++i) fun j=>
 yW (w6 (p0 + 1)) p1 j)))
 (
 br (b == 3)
 (zA 69 [(iN (w6 (c + 1000000000)))] fun i=>(grd (decide (ni (List.length (h++i)) <= LIM)) (nam (h++i) fun j=>
 yW (w6 (p0 + 1)) p1 j)))
 (
 br (b == 4)
 (zA 139 [.str d] fun i=>(grd (decide (ni (List.length (h++i)) <= LIM)) (nam (h++i) fun j=>
 yW (w6 (p0 + 1)) p1 j)))
 (
 br (b == 5)
 (zA 69 [iN e] fun i=>(grd (decide (ni (List.length (h++i)) <= LIM)) (nam (h++i) fun j=>
 zA 69 [iN f] fun k=>(grd (decide (ni (List.length (j++k)) <= LIM)) (nam (j++k) fun l=>
 yW (w6 (p0 + 1)) p1 l)))))
 (
 br (b == 6)
 (zA 69 [iN c] fun i=>(grd (decide (ni (List.length (h++i)) <= LIM)) (nam (h++i) fun j=>
 zA 69 [iN e] fun k=>(grd (decide (ni (List.length (j++k)) <= LIM)) (nam (j++k) fun l=>
 yW (w6 (p0 + 1)) p1 l)))))
 (
 br (b == 7)
 (zA 69 [iN e] fun i=>(grd (decide (ni (List.length (h++i)) <= LIM)) (nam (h++i) fun j=>
 yW (w6 (p0 + 1)) p1 j)))
 (yW (w6 (p0 + 1)) p1 h)))))))
 (
 br (b == 9)
 (zA 69 [iN c] fun i=>(grd (decide (ni (List.length (h++i)) <= LIM)) (nam (h++i) fun j=>
 yW (w6 (p0 + 1)) p1 j)))
 (
 br (b == 3)
 (zA 69 [(iN (w6 (c + 1000000000)))] fun i=>(grd (decide (ni (List.length (h++i)) <= LIM)) (nam (h++i) fun j=>
 yW (w6 (p0 + 1)) p1 j)))
 (
 br (b == 4)
 (zA 139 [.str d] fun i=>(grd (decide (ni (List.length (h++i)) <= LIM)) (nam (h++i) fun j=>
 yW (w6 (p0 + 1)) p1 j)))
 (
 br (b == 5)
 (zA 69 [iN e] fun i=>(grd (decide (ni (List.length (h++i)) <= LIM)) (nam (h++i) fun j=>
 zA 69 [iN f] fun k=>(grd (decide (ni (List.length (j++k)) <= LIM)) (nam (j++k) fun l=>
 yW (w6 (p0 + 1)) p1 l)))))
 (
 br (b == 6)
 (zA 69 [iN c] fun i=>(grd (decide (ni (List.length (h++i)) <= LIM)) (nam (h++i) fun j=>
 zA 69 [iN e] fun k=>(grd (decide (ni (List.length (j++k)) <= LIM)) (nam (j++k) fun l=>
 yW (w6 (p0 + 1)) p1 l)))))
 (
 br (b == 7)
 (zA 69 [iN e] fun i=>(grd (decide (ni (List.length (h++i)) <= LIM)) (nam (h++i) fun j=>
 yW (w6 (p0 + 1)) p1 j)))
 (yW (w6 (p0 + 1)) p1 h)))))))))))))
 (some ((.os (1,0) p2),[])):=by
 exact (yC _ _ _).trans (by kernel_rfl)
theorem Tu (a0_0 a0_1 a0_2 a1_0:List D) (a1_1 a1_2 a1_3 a1_4 a1_5 a1_6 a1_7:Int) (a2_0:List D) (a3_:Int):V 32 [.agg [.rs (5,0) a0_0,.rs (4,0) a0_1,.rs (3,0) a0_2],.agg [.rs (5,0) a1_0,iN a1_1,iN a1_2,iN a1_3,iN a1_4,iN a1_5,iN a1_6,iN a1_7],.agg [.rs (5,0) a2_0],iN a3_] =
 ck6 15 [.agg [.rs (5,0) a0_0,.rs (4,0) a0_1,.rs (3,0) a0_2],(.agg [.rs (5,0) a1_0,iN a1_1,iN a1_2,iN a1_3,iN a1_4,iN a1_5,iN a1_6,iN a1_7])] fun a=>(br (!a)
 (some ((.agg [.os (5,0) [],iN (0),iN (0),iN (0),iN (0),iN (3),iN (7),iN (0)]),[]))
 (
 br (a1_5 != 1)
 (ck5 85 [.agg [.rs (5,0) a1_0,iN a1_1,iN a1_2,iN a1_3,iN a1_4,iN a1_5,iN a1_6,iN a1_7]] fun b c d e f g h i=>((some ((.agg [.os (5,0) b,iN c,iN d,iN e,iN f,iN g,iN h,iN i]),[]))))
 (ck6 60 [.agg [.rs (5,0) a2_0]] fun b=>(br (!b)
 (ck5 85 [.agg [.rs (5,0) a1_0,iN a1_1,iN a1_2,iN a1_3,iN a1_4,iN a1_5,iN a1_6,iN a1_7]] fun c d e f g h i j=>((some ((.agg [.os (5,0) c,iN d,iN e,iN f,iN g,iN h,iN i,iN j]),[]))))
 (ck6 61 [.agg [.rs (5,0) a2_0],iN a3_] fun c=>(br (!c)
 (ck5 85 [.agg [.rs (5,0) a1_0,iN a1_1,iN a1_2,iN a1_3,iN a1_4,iN a1_5,iN a1_6,iN a1_7]] fun d e f g h i j k=>((some ((.agg [.os (5,0) d,iN e,iN f,iN g,iN h,iN i,iN j,iN k]),[]))))
 (ck5 85 [.agg [.rs (5,0) a1_0,iN a1_1,iN a1_2,iN a1_3,iN a1_4,iN a1_5,iN a1_6,iN a1_7]] fun d e f g h i j k=>((zP 96 [.op [.os (5,0) d],(.agg [.rs (5,0) a2_0]),iN a3_] fun l m=>((OZ 95 [.op [.os (5,0) m,iN e,iN f,iN g,iN h,iN i,iN j,iN k],iN l] fun n _ o p q _ _ _=>(((br (decide (w6 (a1_1 + 1) >= ni a0_1.length))
 (ck5 97 [.agg [.rs (5,0) a1_0,iN a1_1,iN a1_2,iN a1_3,iN a1_4,iN a1_5,iN a1_6,iN a1_7],iN (7)] fun r s t u v w x y=>((some ((.agg [.os (5,0) r,iN s,iN t,iN u,iN v,iN w,iN x,iN y]),[]))))
 (
 br (decide (ni n.length > 3000))
 (ck5 97 [.agg [.rs (5,0) a1_0,iN a1_1,iN a1_2,iN a1_3,iN a1_4,iN a1_5,iN a1_6,iN a1_7],iN (6)] fun r s t u v w x y=>((some ((.agg [.os (5,0) r,iN s,iN t,iN u,iN v,iN w,iN x,iN y]),[]))))
 (some ((.agg [.os (5,0) n,(iN (w6 (a1_1 + 1))),iN o,iN p,iN q,iN (0),iN (0),iN (0)]),[]))))))))))))))))):=by
 exact (yD Tryz.func32 rfl _).trans (by kernel_rfl)
theorem Nn (p0:ByteArray) (p1 p2 p3:Int) (p4 p5 p6 p7:List D):AA p0 p1 p2 p3 p4 p5 p6 p7 =
 br (decide (p1 < ni (ByteArray.size p0)))
 (grd (decide (0 <= p1) && decide (p1 < ni (ByteArray.size p0))) (ck6 211 [.int .u8 (bt p0 p1)] fun a=>(br a
 (AA p0 (w6 (p1 + 1)) p2 p3 p4 p5 p6 p7)
 (grd (cW (ByteArray.size p0) (some p3) (some p1)) (PG 212 [(.str (ByteArray.extract p0 p3.toNat p1.toNat))] fun b c d e f g=>(((br (!g)
 (ck9 147 [.agg [.rs (5,0) p4]] fun h=>((some ((.tup [.agg [.os (5,0) h],.os (1,0) p5,iN (3),iN p3]),[]))))
 (
 grd (decide (0 <= p2) && decide (p2 < ni p6.length)) (cT p6 p2.toNat fun h=>
 asAgg h fun i=>cT i 1 fun j=>
 jl (1,0) j fun k=>asAgg h fun l=>zP 158 [.op [.os (5,0) p7],.agg [iN b,iN c,.str d,iN e,iN f]] fun m n=>((grd (decide (ni (List.length (k++[iN m])) <= LIM)) (nam (k++[iN m]) fun o=>
 grd (decide (0 <= p2) && decide (p2 < ni (List.length (List.set p6 p2.toNat (D.agg (List.take 1 l++[D.dead]++List.drop 2 l)))))) (cT (List.set p6 p2.toNat (D.agg (List.take 1 l++[D.dead]++List.drop 2 l))) p2.toNat fun p=>
 asAgg p fun q=>nam (List.set (List.set p6 p2.toNat (D.agg (List.take 1 l++[D.dead]++List.drop 2 l))) p2.toNat
 (D.agg
 (List.take 1 q ++
 [D.os
 (TypeInfo.size (Tables.types (Program.toTables Tryz.prog))[3],
 match qU Tryz.prog (3) with
 | true=>0
 | false=>1)
 o] ++
 List.drop 2 q))) fun r=>
 zg p0 p1 p4 p5 r n))))))))))))))
 (grd (cW (ByteArray.size p0) (some p3) (some p1)) (PG 212 [(.str (ByteArray.extract p0 p3.toNat p1.toNat))] fun a b c d e f=>(((br (!f)
 (ck9 147 [.agg [.rs (5,0) p4]] fun g=>((some ((.tup [.agg [.os (5,0) g],.os (1,0) p5,iN (3),iN p3]),[]))))
 (
 grd (decide (0 <= p2) && decide (p2 < ni p6.length)) (cT p6 p2.toNat fun g=>
 asAgg g fun h=>cT h 1 fun i=>
 jl (1,0) i fun j=>asAgg g fun k=>zP 158 [.op [.os (5,0) p7],.agg [iN a,iN b,.str c,iN d,iN e]] fun l m=>((grd (decide (ni (List.length (j++[iN l])) <= LIM)) (nam (j++[iN l]) fun n=>
 grd (decide (0 <= p2) && decide (p2 < ni (List.length (List.set p6 p2.toNat (D.agg (List.take 1 k++[D.dead]++List.drop 2 k)))))) (cT (List.set p6 p2.toNat (D.agg (List.take 1 k++[D.dead]++List.drop 2 k))) p2.toNat fun o=>
 asAgg o fun p=>nam (List.set (List.set p6 p2.toNat (D.agg (List.take 1 k++[D.dead]++List.drop 2 k))) p2.toNat
 (D.agg
 (List.take 1 p ++
 [D.os
 (TypeInfo.size (Tables.types (Program.toTables Tryz.prog))[3],
 match qU Tryz.prog (3) with
 | true=>0
 | false=>1)
 n] ++
 List.drop 2 p))) fun q=>
 zg p0 p1 p4 p5 q m))))))))))):=by
 exact (yC _ _ _).trans (by kernel_rfl)
theorem NJ (a0_0:List D) (a0_1 a0_2 a1_:Int):V 197 [.op [.rs (1,0) a0_0,iN a0_1,iN a0_2],iN a1_] =
 br (a1_ == 0)
 (Vg 201 [.op [.rs (1,0) a0_0,iN a0_1,iN a0_2]] fun a b c d e f g h=>(((some ((.agg [iN a,iN b,.str c,iN d,iN e]),[.op [.rs (1,0) f,iN g,iN h]])))))
 (S9 155 [.op [.rs (1,0) a0_0,iN a0_1,iN a0_2],iN (2)] fun a b c d=>((br a
 (Vg 201 [.op [.rs (1,0) b,iN c,iN d]] fun e f g h i j k l=>(((some ((.agg [iN e,iN f,.str g,iN h,iN i]),[.op [.rs (1,0) j,iN k,iN l]])))))
 (Iv 116 [iN a1_,iN (5)] fun e=>(ck8 76 [.op [.rs (1,0) b,iN c,iN d],iN e] fun f g h i=>((ck8 76 [.op [.rs (1,0) g,iN h,iN i],iN (8)] fun j k l m=>((br (j == 0)
 (ck8 76 [.op [.rs (1,0) k,iN l,iN m],iN (9)] fun n o p q=>((some ((.agg [iN (6),iN n,.str ({ data:=#[] }),(iN (w6 (w6 (a1_ - 1) - f))),iN (0)]),[.op [.rs (1,0) o,iN p,iN q]]))))
 (
 br (j == 1)
 (some ((.agg [iN (7),iN (0),.str ({ data:=#[] }),(iN (w6 (w6 (a1_ - 1) - f))),iN (0)]),[.op [.rs (1,0) k,iN l,iN m]]))
 (Iv 116 [iN a1_,iN (4)] fun n=>(ck8 76 [.op [.rs (1,0) k,iN l,iN m],iN n] fun o p q r=>((some ((.agg [iN (5),iN (0),.str ({ data:=#[] }),(iN (w6 (w6 (a1_ - 1) - f))),(iN (w6 (w6 (a1_ - 1) - o)))]),[.op [.rs (1,0) p,iN q,iN r]]))))))))))))))):=by
 exact (yD Tryz.func197 rfl _).trans (by kernel_rfl)
theorem TP (a0_0 a0_1:Int) (a0_2:ByteArray) (a0_3 a0_4 a1_:Int):V 130 [.agg [iN a0_0,iN a0_1,.str a0_2,iN a0_3,iN a0_4],iN a1_] =
 ck6 62 [iN a0_3,iN (0),(iN (w6 (a1_ - 1)))] fun a=>(ck6 62 [iN a0_4,iN (0),(iN (w6 (a1_ - 1)))] fun b=>(br (a0_0 == 1)
 (some ((.bool (a0_0 == 1 && (a0_1 == 0 && (kc a0_2 { data:=#[] } && (a0_3 == 0 && (a0_4 == 0 && true)))))),[]))
 (
 br (a0_0 == 2)
 (ck6 62 [iN a0_1,iN (0),iN (1)] fun c=>(br c
 (some ((.bool (a0_0 == 2 && (a0_1 == a0_1 && (kc a0_2 { data:=#[] } && (a0_3 == 0 && (a0_4 == 0 && true)))))),[]))
 (some ((.bool false),[]))))
 (
 br (a0_0 == 3)
 (ck6 62 [iN a0_1,iN (-1000000000),iN (1000000000)] fun c=>(br c
 (some ((.bool (a0_0 == 3 && (a0_1 == a0_1 && (kc a0_2 { data:=#[] } && (a0_3 == 0 && (a0_4 == 0 && true)))))),[]))
 (some ((.bool false),[]))))
 (
 br (a0_0 == 4)
 (ck6 128 [.str a0_2] fun c=>(br c
 (some ((.bool (a0_0 == 4 && (a0_1 == 0 && (kc a0_2 a0_2 && (a0_3 == 0 && (a0_4 == 0 && true)))))),[]))
 (some ((.bool false),[]))))
 (
 br (a0_0 == 5)
 (
 br a
 (
 br b
 (
 br (a0_1 == 0)
 (some ((.bool (kc a0_2 { data:=#[] })),[]))
 (some ((.bool false),[])))
 (some ((.bool false),[])))
 (some ((.bool false),[])))
 (
 br (a0_0 == 6)
 (
 br a
 (ck6 62 [iN a0_1,iN (0),iN (1000000000)] fun c=>(br c
 (
 br (a0_4 == 0)
 (some ((.bool (kc a0_2 { data:=#[] })),[]))
 (some ((.bool false),[])))
 (some ((.bool false),[]))))
 (some ((.bool false),[])))
 (
 br (a0_0 == 7)
 (
 br a
 (
 br (a0_1 == 0)
 (
 br (a0_4 == 0)
 (some ((.bool (kc a0_2 { data:=#[] })),[]))
 (some ((.bool false),[])))
 (some ((.bool false),[])))
 (some ((.bool false),[])))
 (
 br (a0_0 == 8)
 (ck6 62 [iN a0_1,iN (0),iN (99)] fun c=>(br c
 (some ((.bool (a0_0 == 8 && (a0_1 == a0_1 && (kc a0_2 { data:=#[] } && (a0_3 == 0 && (a0_4 == 0 && true)))))),[]))
 (some ((.bool false),[]))))
 (
 br (a0_0 == 9)
 (ck6 62 [iN a0_1,iN (0),iN (1000000000)] fun c=>(br c
 (some ((.bool (a0_0 == 9 && (a0_1 == a0_1 && (kc a0_2 { data:=#[] } && (a0_3 == 0 && (a0_4 == 0 && true)))))),[]))
 (some ((.bool false),[]))))
 (some ((.bool false),[])))))))))))):=by
 exact (yD Tryz.func130 rfl _).trans (by kernel_rfl)
theorem O5 (a0_0 a0_1 a0_2 a1_0:List D) (a1_1 a1_2 a1_3 a1_4 a1_5 a1_6 a1_7:Int):V 14 [.agg [.rs (5,0) a0_0,.rs (4,0) a0_1,.rs (3,0) a0_2],.agg [.rs (5,0) a1_0,iN a1_1,iN a1_2,iN a1_3,iN a1_4,iN a1_5,iN a1_6,iN a1_7]] =
 ck6 54 [.agg [.rs (5,0) a0_0,.rs (4,0) a0_1,.rs (3,0) a0_2]] fun a=>(br (!a)
 (some ((.bool false),[]))
 (ck6 55 [.agg [.rs (5,0) a1_0]] fun b=>(br (!b)
 (some ((.bool false),[]))
 (ck6 56 [.agg [.rs (5,0) a1_0],iN a1_2] fun c=>(br (!c)
 (some ((.bool false),[]))
 (ck6 56 [.agg [.rs (5,0) a1_0],iN a1_3] fun d=>(br (!d)
 (some ((.bool false),[]))
 (ck6 56 [.agg [.rs (5,0) a1_0],iN a1_4] fun e=>(br (!e)
 (some ((.bool false),[]))
 (
 br (a1_5 == 0)
 (ck6 57 [.agg [.rs (5,0) a0_0,.rs (4,0) a0_1,.rs (3,0) a0_2],iN a1_1] fun f=>(br f
 (
 br (a1_6 == 0)
 (some ((.bool (a1_7 == 0)),[]))
 (some ((.bool false),[])))
 (some ((.bool false),[]))))
 (
 br (a1_5 == 1)
 (ck6 57 [.agg [.rs (5,0) a0_0,.rs (4,0) a0_1,.rs (3,0) a0_2],iN a1_1] fun f=>(br f
 (ck6 58 [iN a1_6,iN (13),iN (19)] fun g=>(br g
 (
 br (a1_6 != 18)
 (ck6 56 [.agg [.rs (5,0) a1_0],iN a1_7] fun h=>(some ((.bool h),[])))
 (some ((.bool false),[])))
 (some ((.bool false),[]))))
 (some ((.bool false),[]))))
 (
 br (a1_5 == 2)
 (
 br (a1_1 == 0)
 (
 br (a1_6 == 0)
 (ck6 56 [.agg [.rs (5,0) a1_0],iN a1_7] fun f=>(some ((.bool f),[])))
 (some ((.bool false),[])))
 (some ((.bool false),[])))
 (
 br (a1_5 == 3)
 (
 br (a1_1 == 0)
 (ck6 58 [iN a1_6,iN (1),iN (7)] fun f=>(br f
 (some ((.bool (a1_7 == 0)),[]))
 (some ((.bool false),[]))))
 (some ((.bool false),[])))
 (some ((.bool false),[]))))))))))))))):=by
 exact (yD Tryz.func14 rfl _).trans (by kernel_rfl)
theorem D5 (p0:Int) (p1 p2 p3:List D):z3 p0 p1 p2 p3 =
 br (decide (p0 < ni p1.length))
 (
 grd (decide (0 <= p0) && decide (p0 < ni p1.length)) (cT p1 p0.toNat fun a=>
 tk1 a fun b c d e f=>(br (b == 5)
 (
 grd (decide (0 <= e) && decide (e < ni p2.length)) (cT p2 e.toNat fun g=>
 asI .i64 g fun h=>grd (decide (0 <= f) && decide (f < ni p2.length)) (cT p2 f.toNat fun i=>
 asI .i64 i fun j=>zl p0 p0 (0) p1 p2 p3 b c d h j)))
 (
 br (b == 6)
 (
 br (b == 6)
 (
 grd (decide (0 <= e) && decide (e < ni p2.length)) (cT p2 e.toNat fun g=>
 asI .i64 g fun h=>zl p0 p0 (0) p1 p2 p3 b c d h f))
 (zl p0 p0 (0) p1 p2 p3 b c d e f))
 (
 br (b == 7)
 (
 grd (decide (0 <= e) && decide (e < ni p2.length)) (cT p2 e.toNat fun g=>
 asI .i64 g fun h=>zl p0 p0 (0) p1 p2 p3 b c d h f))
 (zl p0 p0 (0) p1 p2 p3 b c d e f))))))
 (some ((.os (1,0) p2),[])):=by
 exact (yC _ _ _).trans (by kernel_rfl)
theorem Ig (p0 p1:ByteArray) (p2 p3:Int):z9 p0 p1 p2 p3 =
 br (decide (p3 < ni (ByteArray.size p1)))
 (grd (decide (0 <= p3) && decide (p3 < ni (ByteArray.size p1))) (ck6 226 [.int .u8 (bt p1 p3)] fun a=>(br (!a)
 (some ((.tup [iN (0),.bool false]),[]))
 (grd (decide (0 <= p3) && decide (p3 < ni (ByteArray.size p1))) (z9 p0 p1 (w6 (w6 (w6 (10 * p2) + w6 (bt p1 p3)) - 48)) (w6 (p3 + 1)))))))
 (
 br (ni (ByteArray.size p1) != ni (ByteArray.size p0))
 (Vf 202 [(iN (w6 (0 - p2)))] fun a=>(br (kc a p0)
 (ck6 62 [(iN (w6 (0 - p2))),iN (-1000000000),iN (1000000000)] fun b=>(some ((.tup [(iN (w6 (0 - p2))),.bool b]),[])))
 (some ((.tup [(iN (w6 (0 - p2))),.bool false]),[]))))
 (Vf 202 [iN p2] fun a=>(br (kc a p0)
 (ck6 62 [iN p2,iN (-1000000000),iN (1000000000)] fun b=>(some ((.tup [iN p2,.bool b]),[])))
 (some ((.tup [iN p2,.bool false]),[]))))):=by
 exact (yC _ _ _).trans (by kernel_rfl)
theorem KG (p0:Int) (p1 p2:List D):Cg p0 p1 p2 =
 grd (decide (0 <= p0) && decide (p0 < ni p1.length)) (cT p1 p0.toNat fun a=>
 asAgg a fun b=>cT b 0 fun c=>
 asI .i64 c fun d=>br (d == 5)
 (
 grd (decide (0 <= p0) && decide (p0 < ni p1.length)) (cT p1 p0.toNat fun e=>
 asAgg e fun f=>cT f 3 fun g=>
 asI .i64 g fun h=>grd (decide (ni (List.length (p2++[iN h])) <= LIM)) (nam (p2++[iN h]) fun i=>
 grd (decide (0 <= p0) && decide (p0 < ni p1.length)) (cT p1 p0.toNat fun j=>
 asAgg j fun k=>cT k 4 fun l=>
 asI .i64 l fun m=>Cg m p1 i))))
 (
 grd (decide (0 <= p0) && decide (p0 < ni p1.length)) (cT p1 p0.toNat fun e=>
 asAgg e fun f=>cT f 0 fun g=>
 asI .i64 g fun h=>br (h != 1)
 (some ((.tup [.os (1,0) [],.bool false]),[]))
 (some ((.tup [.os (1,0) p2,.bool true]),[]))))):=by
 exact (yC _ _ _).trans (by kernel_rfl)
theorem Dl (p0 p1 p2 p3 p4 p5 p6 p7:Int) (p8 p9 p10:List D):AK p0 p1 p2 p3 p4 p5 p6 p7 p8 p9 p10 =
 br (decide (p0 < ni p9.length))
 (
 grd (decide (0 <= p0) && decide (p0 < ni p9.length)) (cT p9 p0.toNat fun a=>
 asI .i64 a fun b=>zA 69 [iN b] fun c=>(grd (decide (ni (List.length (p8++c)) <= LIM)) (nam (p8++c) fun d=>
 AK (w6 (p0 + 1)) p1 p2 p3 p4 p5 p6 p7 d p9 p10))))
 (zA 70 [.agg [.rs (5,0) p10]] fun a=>(grd (decide (ni (List.length (p8++a)) <= LIM)) (nam (p8++a) fun b=>
 gy b fun c=>some ((.tup [.str c,.bool true]),[])))):=by
 exact (yC _ _ _).trans (by kernel_rfl)
theorem QY (a0_:List D) (a1_:Int):V 209 [.rs (1,0) a0_,iN a1_] =
 Zk 140 [.rs (1,0) a0_,iN a1_] fun a b c=>((br (!c)
 (some ((.tup [.str ({ data:=#[] }),iN (0),.bool false]),[]))
 (
 br (decide (a > w6 (ni a0_.length - b)))
 (some ((.tup [.str ({ data:=#[] }),iN (0),.bool false]),[]))
 (grd (cW a0_.length (some b) (some (w6 (b + a)))) (gy (wu (wt a0_ (w6 (b + a))) b) fun d=>some ((.tup [.str d,(iN (w6 (b + a))),.bool true]),[])))))):=by
 exact (yD Tryz.func209 rfl _).trans (by kernel_rfl)
theorem Ik (p0:List D) (p1:ByteArray) (p2 p3:Int):DT p0 p1 p2 p3 =
 grd (decide (0 <= p2) && decide (p2 < ni p0.length)) (cT p0 p2.toNat fun a=>
 kq (1,0) a fun b=>br (decide (p3 < ni b.length))
 (
 grd (decide (0 <= p2) && decide (p2 < ni p0.length)) (cT p0 p2.toNat fun c=>
 kq (1,0) c fun d=>grd (decide (0 <= p3) && decide (p3 < ni d.length)) (cT d p3.toNat fun e=>
 asS e fun f=>br (kc f p1)
 (some ((.tup [iN p2,iN p3]),[]))
 (DT p0 p1 p2 (w6 (p3 + 1))))))
 (Cy p0 p1 (w6 (p2 + 1)))):=by
 exact (yC _ _ _).trans (by kernel_rfl)
theorem LN (p0:Int) (p1:List D):Dg p0 p1 =
 br (decide (p0 > 127))
 (
 grd (!decide (128 = 0)) (grd (decide (ni (List.length (p1++[D.int IntKind.u8 (IntKind.wrap IntKind.u8 (w6 (Int.tmod p0 (128) + 128)))])) <= LIM)) (nam (p1++[D.int IntKind.u8 (IntKind.wrap IntKind.u8 (w6 (Int.tmod p0 (128) + 128)))]) fun a=>
 grd (!decide (128 = 0)) (Dg (w6 (Int.tdiv p0 (128))) a))))
 (
 grd (decide (ni (List.length (p1++[D.int IntKind.u8 (IntKind.wrap IntKind.u8 p0)])) <= LIM)) (nam (p1++[D.int IntKind.u8 (IntKind.wrap IntKind.u8 p0)]) fun a=>
 some ((.os (1,0) a),[]))):=by
 exact (yC _ _ _).trans (by kernel_rfl)
theorem Gw (p0:List D) (p1 p2:Int) (p3:List D):Dr p0 p1 p2 p3 =
 br (decide (p2 >= 0))
 (
 grd (decide (0 <= p2) && decide (p2 < ni p0.length)) (cT p0 p2.toNat fun a=>
 asI .i64 a fun b=>zP 158 [.op [.os (5,0) p3],(.agg [iN (5),iN (0),.str ({ data:=#[] }),iN b,iN p1])] fun c d=>((Dr p0 c (w6 (p2 - 1)) d))))
 (some ((iN p1),[.op [.os (5,0) p3]])):=by
 exact (yC _ _ _).trans (by kernel_rfl)
theorem PM (p:List D) (k n:Int) (s:ByteArray) (a b:Int):V 157 [.op [.os (5,0) p],.agg [iN k,iN n,.str s,iN a,iN b]] =
 grd (decide (ni (List.length (p++[D.agg [iN k,iN n,D.str s,iN a,iN b]])) <= LIM)) (nam (p++[D.agg [iN k,iN n,D.str s,iN a,iN b]]) fun c=>
 some ((iN (w6 (ni c.length - 1))),[.op [.os (5,0) c]])):=by
 exact (yD Tryz.func157 rfl _).trans (by kernel_rfl)
theorem NC (b:List D) (i:Int) (k:Bool) :V 71 [.op [.os (1,0) b,iN i,.bool k]] =
 Zk 140 [.rs (1,0) b,iN i] fun a c d=>((br (!d)
 (some ((iN (0)),[.op [.os (1,0) b,iN i,.bool false]]))
 (some ((iN a),[.op [.os (1,0) b,iN c,.bool k]])))):=by
 exact (yD Tryz.func71 rfl _).trans (by kernel_rfl)
theorem Mq (a0_0:List D) (a0_1 a0_2:Int):V 154 [.op [.rs (1,0) a0_0,iN a0_1,iN a0_2]] =
 ck8 76 [.op [.rs (1,0) a0_0,iN a0_1,iN a0_2],iN (16)] fun a b c d=>((EW a (0) b c d)):=by
 exact (yD Tryz.func154 rfl _).trans (by kernel_rfl)
theorem Tv (a0_0 a0_1 a0_2:List D):V 59 [.agg [.rs (5,0) a0_0,.rs (4,0) a0_1,.rs (3,0) a0_2]] =
 ck6 60 [.agg [.rs (5,0) a0_0]] fun a=>(br (!a)
 (some ((.bool false),[]))
 (
 br (decide (ni a0_1.length > 400))
 (some ((.bool false),[]))
 (
 br (decide (ni a0_2.length > 20))
 (some ((.bool false),[]))
 (Dh (0) a0_0 a0_1 a0_2)))):=by
 exact (yD Tryz.func59 rfl _).trans (by kernel_rfl)
theorem Bj (p0:List D) (p1 p2 p3:Int):zQ p0 p1 p2 p3 =
 br (decide (p3 < p2))
 (
 grd (decide (0 <= p3) && decide (p3 < ni p0.length)) (cT p0 p3.toNat fun a=>
 asI .u8 a fun b=>br (p1 == b)
 (some ((iN p3),[]))
 (zQ p0 p1 p2 (w6 (p3 + 1)))))
 (some ((iN (-1)),[])):=by
 exact (yC _ _ _).trans (by kernel_rfl)
theorem Um (p q t:List D):V 148 [.op [.os (5,0) p],.agg [.rs (5,0) q],.rs (1,0) t] =
 grd (decide (0 <= ni q.length) && decide (ni q.length <= LIM)) (zM t (0) q (List.replicate (Int.toNat (ni q.length)) (iN (0))) p):=by
 exact (yD Tryz.func148 rfl _).trans (by kernel_rfl)
theorem QZ (a0_:ByteArray):V 138 [.str a0_] =
 zA 67 [(iN (ni (ByteArray.size a0_)))] fun a=>(grd (decide (ni (List.length (a++gU a0_)) <= LIM)) (nam (a++gU a0_) fun b=>
 some ((.os (1,0) b),[]))):=by
 exact (yD Tryz.func138 rfl _).trans (by kernel_rfl)
theorem Tt (a0_ a1_ a2_:Int):V 58 [iN a0_,iN a1_,iN a2_] =
 br (decide (a0_ >= a1_))
 (some ((.bool (decide (a0_ <= a2_))),[]))
 (some ((.bool false),[])):=by
 exact (yD Tryz.func58 rfl _).trans (by kernel_rfl)
theorem Ri (a0_:Int):V 226 [.int .u8 a0_] =
 br (decide (a0_ >= 48))
 (some ((.bool (decide (a0_ <= 57))),[]))
 (some ((.bool false),[])):=by
 exact (yD Tryz.func226 rfl _).trans (by kernel_rfl)
end Go.Eng
