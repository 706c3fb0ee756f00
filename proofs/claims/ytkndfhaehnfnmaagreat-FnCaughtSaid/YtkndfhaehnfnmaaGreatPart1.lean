/- the program and the reference on plain data, part 1 -/
import Derived.Test.YtkndfhaehnfnmaaGreatEngC
import Derived.Test.YtkndfhaehnfnmaaGreatProg
/-! bytes,texts,digits: plain facts -/
namespace Go.Eng
noncomputable section

def mk (l:List UInt8):ByteArray:=⟨l.toArray⟩
theorem z8 (l:List UInt8):(mk l).size=l.length:=by simp[mk,ByteArray.size]
theorem Yg (a b:List UInt8):mk a++mk b=mk (a++b):=by
 apply ByteArray.ext
 simp[mk]
theorem ZW (l:List UInt8):(mk l).data.toList=l:=by simp[mk]
theorem VZ (s:ByteArray):mk s.data.toList=s:=by
 apply ByteArray.ext
 simp[mk]
theorem mk_inj {a b:List UInt8}:mk a=mk b↔a=b:=by
 constructor
 ·intro h
  have:=congrArg (fun s=>s.data.toList) h
  simpa[ZW]using this
 ·rintro rfl;rfl
theorem Un (s:ByteArray):∀(k i:Nat)(acc:List UInt8),k=s.size-i->ByteArray.toList.loop s i acc=acc.reverse++s.data.toList.drop i
 |0,i,acc,h=>by
  unfold ByteArray.toList.loop
  have hs:s.data.toList.length=s.size:=by rw[Array.length_toList];rfl
  rw[aD (by omega),cD (by omega),eK]
 |k+1,i,acc,h=>by
  unfold ByteArray.toList.loop
  have hs:s.data.toList.length=s.size:=by rw[Array.length_toList];rfl
  rw[aG (by omega),Un s k (i+1) _ (by omega)]
  have hi:i<s.data.toList.length:=by omega
  rw[List.drop_eq_getElem_cons hi]
  have hi':i<s.data.size:=by simpa using hi
  have hg:s.get! i=s.data.toList[i]:=by
   show s.data[i]! = _
   rw[getElem!_pos s.data i hi',Array.getElem_toList]
  rw[hg]
  simp
theorem Um (s:ByteArray):s.toList=s.data.toList:=by
 have:=Un s s.size 0 [] (by omega)
 rw[List.reverse_nil,dA,eR]at this
 exact this
theorem Dz (x y:ByteArray):kJ x y=decide (x=y):=by
 unfold kJ
 rw[Um,Um]
 by_cases h:x=y
 ·subst h;simp
 ·have h2:¬x.data.toList=y.data.toList:=by
   intro e;apply h;rw[<-VZ x,<-VZ y,e]
  rw[bK h]
  exact beq_eq_false_iff_ne.2 h2
theorem PB (a b:List UInt8):kJ (mk a) (mk b)=decide (a=b):=by
 rw[Dz];simp only[mk_inj]
abbrev eU (b:UInt8):D:=.int .u8 (b.toNat:Int)
theorem XO {l:List UInt8}{i:Nat}{x:UInt8}(h:l[i]? = some x):bt (mk l) (i:Int)=(x.toNat:Int):=by
 simp only[bt,ZW,bI]
 rw[aN,h];rfl
theorem Ku (l:List UInt8)(a b:Nat):(mk l).extract a b=mk ((l.drop a).take (b-a)):=by
 apply ByteArray.ext
 simp[mk,ByteArray.data_extract,List.extract_eq_take_drop]
theorem SQ (l:List UInt8):iv (mk l)=l.map eU:=by simp[iv,ZW]
theorem QW {R:Type}(l:List UInt8)(K:ByteArray->Option R):gN (l.map eU) K=K (mk l):=by
 have hm:∀(f:D->Option UInt8),(∀x:UInt8,f (eU x)=some x)->∀l:List UInt8,(l.map eU).mapM f=some l:=by
  intro f hf l
  induction l with
  |nil=>rfl
  |cons x l ih=>rw[bR,List.mapM_cons,hf,ih];rfl
 unfold gN
 rw[hm _ (fun x=>by simp[])];rfl
theorem acF {R:Type}(n:Int)(K:ByteArray->Option R):gN [.int .u8 n] K=K (mk [UInt8.ofNat n.toNat]):=rfl
theorem SJ {n:Int}(h0:0<=n)(h1:n<256):IntKind.wrap .u8 n=n:=by
 simp[IntKind.wrap,IntKind.bits,IntKind.signed];omega

def Mz (n:Nat):List UInt8:=if n<10 then [UInt8.ofNat (48+n)] else Mz (n / 10)++[UInt8.ofNat (48+n % 10)]
termination_by n
def Ng (n:Int):List UInt8:=if n<0 then 45::Mz n.natAbs else Mz n.natAbs
theorem DG {n:Nat}(h:n<10):Mz n=[UInt8.ofNat (48+n)]:=by rw[Mz,aG h]
theorem Oq {n:Nat}(h:¬n<10):Mz n=Mz (n / 10)++[UInt8.ofNat (48+n % 10)]:=by rw[Mz,aD h]
theorem aaG:∀(k n:Nat),n<10 ^ (k+1)->(Mz n).length<=k+1
 |0,n,h=>by rw[DG (by simpa using h)];simp
 |k+1,n,h=>by
  by_cases h10:n<10
  ·rw[DG h10];simp
  ·rw[Oq h10]
   have:=aaG k (n / 10) (by rw[Nat.pow_succ]at h;omega)
   simp;omega
theorem aeR (n:Nat):0<(Mz n).length:=by
 by_cases h10:n<10
 ·rw[DG h10];simp
 ·rw[Oq h10];simp
end
end Go.Eng
/-! the functions as the interpreter has them: loop heads -/
namespace Go.Eng
noncomputable section
open Go.Proofs Go.Proofs.Tryz
set_option maxRecDepth 100000
def cf0:Cfg:={ ext:=fun _=>none,own:=fun f=>match f with|13=>false|23=>false|27=>false|30=>false|43=>false|44=>false|51=>false|52=>false|112=>false|_=>true,mode:=fun f i=>match f,i with|40,0=>.mut|41,0=>.mut|49,0=>.mut|108,0=>.mut|109,0=>.mut|110,0=>.mut|169,0=>.mut|183,0=>.mut|73,0=>.mv|162,0=>.mv|101,1=>.mv|172,2=>.mv|_,_=>.ro }
abbrev iN:Int->D:=D.int IntKind.i64
abbrev tk1 {R:Type}(x:D)(K:ByteArray->Int->Int->Option R):Option R:=asAgg x fun l=>unc l fun x0 l0=>asS x0 fun v0=>unc l0 fun x1 l1=>asI .i64 x1 fun v1=>unc l1 fun x2 l2=>asI .i64 x2 fun v2=>unn l2 (K v0 v1 v2)
@[congr] theorem ait {R:Type}{x y:D}(h:x=y)(K:_):tk1 (R:=R) x K=tk1 y K:=by rw[h]
abbrev tk2 {R:Type}(x:D)(K:Int->Int->ByteArray->Int->Int->Option R):Option R:=asAgg x fun l=>unc l fun x0 l0=>asI .i64 x0 fun v0=>unc l0 fun x1 l1=>asI .i64 x1 fun v1=>unc l1 fun x2 l2=>asS x2 fun v2=>unc l2 fun x3 l3=>asI .i64 x3 fun v3=>unc l3 fun x4 l4=>asI .i64 x4 fun v4=>unn l4 (K v0 v1 v2 v3 v4)
@[congr] theorem aiu {R:Type}{x y:D}(h:x=y)(K:_):tk2 (R:=R) x K=tk2 y K:=by rw[h]
abbrev tk3 {R:Type}(x:D)(K:Int->Int->Int->ByteArray->Option R):Option R:=asAgg x fun l=>unc l fun x0 l0=>asI .i64 x0 fun v0=>unc l0 fun x1 l1=>asI .i64 x1 fun v1=>unc l1 fun x2 l2=>asI .i64 x2 fun v2=>unc l2 fun x3 l3=>asS x3 fun v3=>unn l3 (K v0 v1 v2 v3)
@[congr] theorem aiv {R:Type}{x y:D}(h:x=y)(K:_):tk3 (R:=R) x K=tk3 y K:=by rw[h]
abbrev tk4 {R:Type}(x:D)(K:List D->List D->List D->Int->Option R):Option R:=o9 x fun l=>unc l fun x0 l0=>jH (5,0) x0 fun v0=>unc l0 fun x1 l1=>jH (4,0) x1 fun v1=>unc l1 fun x2 l2=>jH (3,0) x2 fun v2=>unc l2 fun x3 l3=>asI .i64 x3 fun v3=>unn l3 (K v0 v1 v2 v3)
@[congr] theorem aiw {R:Type}{x y:D}(h:x=y)(K:_):tk4 (R:=R) x K=tk4 y K:=by rw[h]
abbrev tk5 {R:Type}(x:D)(K:List D->Bool->Option R):Option R:=jr x fun l=>unc l fun x0 l0=>jH (1,0) x0 fun v0=>unc l0 fun x1 l1=>asB x1 fun v1=>unn l1 (K v0 v1)
@[congr] theorem aix {R:Type}{x y:D}(h:x=y)(K:_):tk5 (R:=R) x K=tk5 y K:=by rw[h]
abbrev tk6 {R:Type}(x:D)(K:List D->Int->Bool->Option R):Option R:=o9 x fun l=>unc l fun x0 l0=>jH (1,0) x0 fun v0=>unc l0 fun x1 l1=>asI .i64 x1 fun v1=>unc l1 fun x2 l2=>asB x2 fun v2=>unn l2 (K v0 v1 v2)
@[congr] theorem aiy {R:Type}{x y:D}(h:x=y)(K:_):tk6 (R:=R) x K=tk6 y K:=by rw[h]
abbrev tk7 {R:Type}(x:D)(K:Int->Bool->Option R):Option R:=jr x fun l=>unc l fun x0 l0=>asI .i64 x0 fun v0=>unc l0 fun x1 l1=>asB x1 fun v1=>unn l1 (K v0 v1)
@[congr] theorem aiz {R:Type}{x y:D}(h:x=y)(K:_):tk7 (R:=R) x K=tk7 y K:=by rw[h]
abbrev tk8 {R:Type}(x:D)(K:List D->Int->Int->Int->Int->Int->Int->Int->Option R):Option R:=o9 x fun l=>unc l fun x0 l0=>jH (5,0) x0 fun v0=>unc l0 fun x1 l1=>asI .i64 x1 fun v1=>unc l1 fun x2 l2=>asI .i64 x2 fun v2=>unc l2 fun x3 l3=>asI .i64 x3 fun v3=>unc l3 fun x4 l4=>asI .i64 x4 fun v4=>unc l4 fun x5 l5=>asI .i64 x5 fun v5=>unc l5 fun x6 l6=>asI .i64 x6 fun v6=>unc l6 fun x7 l7=>asI .i64 x7 fun v7=>unn l7 (K v0 v1 v2 v3 v4 v5 v6 v7)
@[congr] theorem aiA {R:Type}{x y:D}(h:x=y)(K:_):tk8 (R:=R) x K=tk8 y K:=by rw[h]
abbrev tk9 {R:Type}(x:D)(K:List D->Int->Int->Int->Int->Int->Int->Int->List D->List D->List D->Option R):Option R:=o9 x fun l=>unc l fun x0 l0=>jH (5,0) x0 fun v0=>unc l0 fun x1 l1=>asI .i64 x1 fun v1=>unc l1 fun x2 l2=>asI .i64 x2 fun v2=>unc l2 fun x3 l3=>asI .i64 x3 fun v3=>unc l3 fun x4 l4=>asI .i64 x4 fun v4=>unc l4 fun x5 l5=>asI .i64 x5 fun v5=>unc l5 fun x6 l6=>asI .i64 x6 fun v6=>unc l6 fun x7 l7=>asI .i64 x7 fun v7=>unc l7 fun x8 l8=>kY (5,0) x8 fun v8=>unc l8 fun x9 l9=>kY (4,0) x9 fun v9=>unc l9 fun x10 l10=>kY (3,0) x10 fun v10=>unn l10 (K v0 v1 v2 v3 v4 v5 v6 v7 v8 v9 v10)
@[congr] theorem aiB {R:Type}{x y:D}(h:x=y)(K:_):tk9 (R:=R) x K=tk9 y K:=by rw[h]
abbrev agU {R:Type}(x:D)(K:ByteArray->Bool->Option R):Option R:=jr x fun l=>unc l fun x0 l0=>asS x0 fun v0=>unc l0 fun x1 l1=>asB x1 fun v1=>unn l1 (K v0 v1)
@[congr] theorem aie {R:Type}{x y:D}(h:x=y)(K:_):agU (R:=R) x K=agU y K:=by rw[h]
abbrev agp {R:Type}(x:D)(K:Int->Int->Option R):Option R:=jr x fun l=>unc l fun x0 l0=>asI .i64 x0 fun v0=>unc l0 fun x1 l1=>asI .i64 x1 fun v1=>unn l1 (K v0 v1)
@[congr] theorem aif {R:Type}{x y:D}(h:x=y)(K:_):agp (R:=R) x K=agp y K:=by rw[h]
abbrev agV {R:Type}(x:D)(K:Int->List D->Bool->Option R):Option R:=jr x fun l=>unc l fun x0 l0=>asI .i64 x0 fun v0=>unc l0 fun x1 l1=>jH (1,0) x1 fun v1=>unc l1 fun x2 l2=>asB x2 fun v2=>unn l2 (K v0 v1 v2)
@[congr] theorem aig {R:Type}{x y:D}(h:x=y)(K:_):agV (R:=R) x K=agV y K:=by rw[h]
abbrev agW {R:Type}(x:D)(K:Int->Int->Bool->Option R):Option R:=jr x fun l=>unc l fun x0 l0=>asI .i64 x0 fun v0=>unc l0 fun x1 l1=>asI .i64 x1 fun v1=>unc l1 fun x2 l2=>asB x2 fun v2=>unn l2 (K v0 v1 v2)
@[congr] theorem aih {R:Type}{x y:D}(h:x=y)(K:_):agW (R:=R) x K=agW y K:=by rw[h]
abbrev agX {R:Type}(x:D)(K:ByteArray->Int->Bool->Option R):Option R:=jr x fun l=>unc l fun x0 l0=>asS x0 fun v0=>unc l0 fun x1 l1=>asI .i64 x1 fun v1=>unc l1 fun x2 l2=>asB x2 fun v2=>unn l2 (K v0 v1 v2)
@[congr] theorem aii {R:Type}{x y:D}(h:x=y)(K:_):agX (R:=R) x K=agX y K:=by rw[h]
abbrev uu:A:=.undef
abbrev V:=Vn Tryz.prog cf0
abbrev ck1 {R:Type}(f:Nat)(ds:List D)(K:Bool->Option R):Option R:=jy V f ds fun v0 v1=>asB v0 fun v2=>unn v1 (K v2)
abbrev ck2 {R:Type}(f:Nat)(ds:List D)(K:Int->Int->ByteArray->Int->Int->Option R):Option R:=jy V f ds fun v0 v1=>tk2 v0 fun v5 v8 v11 v14 v17=>(unn v1 (K v5 v8 v11 v14 v17))
abbrev ck3 {R:Type}(f:Nat)(ds:List D)(K:Int->List D->List D->List D->Int->Option R):Option R:=jy V f ds fun v0 v1=>asI .i64 v0 fun v2=>unc v1 fun v3 v4=>tk4 v3 fun v8 v11 v14 v17=>(unn v4 (K v2 v8 v11 v14 v17))
abbrev ck4 {R:Type}(f:Nat)(ds:List D)(K:List D->List D->List D->Int->Option R):Option R:=jy V f ds fun v0 v1=>jr v0 fun v2=>unn v2 (unc v1 fun v3 v4=>tk4 v3 fun v8 v11 v14 v17=>(unn v4 (K v8 v11 v14 v17)))
abbrev ck5 {R:Type}(f:Nat)(ds:List D)(K:List D->Bool->Option R):Option R:=jy V f ds fun v0 v1=>tk5 v0 fun v5 v8=>(unn v1 (K v5 v8))
abbrev ck6 {R:Type}(f:Nat)(ds:List D)(K:List D->List D->List D->List D->Int->Option R):Option R:=jy V f ds fun v0 v1=>jH (1,0) v0 fun v2=>unc v1 fun v3 v4=>tk4 v3 fun v8 v11 v14 v17=>(unn v4 (K v2 v8 v11 v14 v17))
abbrev ck7 {R:Type}(f:Nat)(ds:List D)(K:List D->Int->Int->Int->Int->Int->Int->Int->Option R):Option R:=jy V f ds fun v0 v1=>asAgg v0 fun v2=>unc v2 fun v3 v4=>jH (5,0) v3 fun v5=>unc v4 fun v6 v7=>asI .i64 v6 fun v8=>unc v7 fun v9 v10=>asI .i64 v9 fun v11=>unc v10 fun v12 v13=>asI .i64 v12 fun v14=>unc v13 fun v15 v16=>asI .i64 v15 fun v17=>unc v16 fun v18 v19=>asI .i64 v18 fun v20=>unc v19 fun v21 v22=>asI .i64 v21 fun v23=>unc v22 fun v24 v25=>asI .i64 v24 fun v26=>unn v25 (unn v1 (K v5 v8 v11 v14 v17 v20 v23 v26))
abbrev ck8 {R:Type}(f:Nat)(ds:List D)(K:Int->List D->Int->Bool->Option R):Option R:=jy V f ds fun v0 v1=>asI .i64 v0 fun v2=>unc v1 fun v3 v4=>tk6 v3 fun v8 v11 v14=>(unn v4 (K v2 v8 v11 v14))
abbrev ck9 {R:Type}(f:Nat)(ds:List D)(K:Int->List D->Int->Int->Option R):Option R:=jy V f ds fun v0 v1=>asI .i64 v0 fun v2=>unc v1 fun v3 v4=>o9 v3 fun v5=>unc v5 fun v6 v7=>kY (1,0) v6 fun v8=>unc v7 fun v9 v10=>asI .i64 v9 fun v11=>unc v10 fun v12 v13=>asI .i64 v12 fun v14=>unn v13 (unn v4 (K v2 v8 v11 v14))
abbrev Fi {R:Type}(f:Nat)(ds:List D)(K:List D->Option R):Option R:=jy V f ds fun v0 v1=>asAgg v0 fun v2=>unc v2 fun v3 v4=>jH (5,0) v3 fun v5=>unn v4 (unn v1 (K v5))
abbrev AP {R:Type}(f:Nat)(ds:List D)(K:Int->List D->Option R):Option R:=jy V f ds fun v0 v1=>asI .i64 v0 fun v2=>unc v1 fun v3 v4=>o9 v3 fun v5=>unc v5 fun v6 v7=>jH (5,0) v6 fun v8=>unn v7 (unn v4 (K v2 v8))
abbrev aau {R:Type}(f:Nat)(ds:List D)(K:Int->Bool->List D->Int->Int->Int->Int->Int->Int->Int->Option R):Option R:=jy V f ds fun v0 v1=>tk7 v0 fun v5 v8=>(unc v1 fun v9 v10=>tk8 v9 fun v14 v17 v20 v23 v26 v29 v32 v35=>(unn v10 (K v5 v8 v14 v17 v20 v23 v26 v29 v32 v35)))
abbrev QI {R:Type}(f:Nat)(ds:List D)(K:Int->List D->Int->Int->Int->Int->Int->Int->Int->Option R):Option R:=jy V f ds fun v0 v1=>asI .i64 v0 fun v2=>unc v1 fun v3 v4=>tk8 v3 fun v8 v11 v14 v17 v20 v23 v26 v29=>(unn v4 (K v2 v8 v11 v14 v17 v20 v23 v26 v29))
abbrev YM {R:Type}(f:Nat)(ds:List D)(K:Int->Bool->List D->Int->Int->Int->Int->Int->Int->Int->List D->List D->List D->Option R):Option R:=jy V f ds fun v0 v1=>tk7 v0 fun v5 v8=>(unc v1 fun v9 v10=>tk9 v9 fun v14 v17 v20 v23 v26 v29 v32 v35 v38 v41 v44=>(unn v10 (K v5 v8 v14 v17 v20 v23 v26 v29 v32 v35 v38 v41 v44)))
abbrev afO {R:Type}(f:Nat)(ds:List D)(K:List D->Option R):Option R:=jy V f ds fun v0 v1=>jr v0 fun v2=>unn v2 (unc v1 fun v3 v4=>jH (1,0) v3 fun v5=>unn v4 (K v5))
abbrev LQ {R:Type}(f:Nat)(ds:List D)(K:Int->List D->Int->Int->Int->Int->Int->Int->Int->List D->List D->List D->Option R):Option R:=jy V f ds fun v0 v1=>asI .i64 v0 fun v2=>unc v1 fun v3 v4=>tk9 v3 fun v8 v11 v14 v17 v20 v23 v26 v29 v32 v35 v38=>(unn v4 (K v2 v8 v11 v14 v17 v20 v23 v26 v29 v32 v35 v38))
abbrev Ir {R:Type}(f:Nat)(ds:List D)(K:Int->Option R):Option R:=jy V f ds fun v0 v1=>asI .i64 v0 fun v2=>unn v1 (K v2)
abbrev aeF {R:Type}(f:Nat)(ds:List D)(K:List D->Int->Int->Int->Int->Int->Int->Int->Int->Option R):Option R:=jy V f ds fun v0 v1=>jr v0 fun v2=>unc v2 fun v3 v4=>asAgg v3 fun v5=>unc v5 fun v6 v7=>jH (5,0) v6 fun v8=>unc v7 fun v9 v10=>asI .i64 v9 fun v11=>unc v10 fun v12 v13=>asI .i64 v12 fun v14=>unc v13 fun v15 v16=>asI .i64 v15 fun v17=>unc v16 fun v18 v19=>asI .i64 v18 fun v20=>unc v19 fun v21 v22=>asI .i64 v21 fun v23=>unc v22 fun v24 v25=>asI .i64 v24 fun v26=>unc v25 fun v27 v28=>asI .i64 v27 fun v29=>unn v28 (unc v4 fun v30 v31=>asI .i64 v30 fun v32=>unn v31 (unn v1 (K v8 v11 v14 v17 v20 v23 v26 v29 v32)))
abbrev afP {R:Type}(f:Nat)(ds:List D)(K:Int->Int->ByteArray->Int->Int->Int->Option R):Option R:=jy V f ds fun v0 v1=>jr v0 fun v2=>unc v2 fun v3 v4=>tk2 v3 fun v8 v11 v14 v17 v20=>(unc v4 fun v21 v22=>asI .i64 v21 fun v23=>unn v22 (unn v1 (K v8 v11 v14 v17 v20 v23)))
abbrev AY {R:Type}(f:Nat)(ds:List D)(K:List D->Option R):Option R:=jy V f ds fun v0 v1=>jH (1,0) v0 fun v2=>unn v1 (K v2)
abbrev aeG {R:Type}(f:Nat)(ds:List D)(K:List D->Bool->List D->Option R):Option R:=jy V f ds fun v0 v1=>tk5 v0 fun v5 v8=>(unc v1 fun v9 v10=>o9 v9 fun v11=>unc v11 fun v12 v13=>jH (5,0) v12 fun v14=>unn v13 (unn v10 (K v5 v8 v14)))
abbrev Vf {R:Type}(f:Nat)(ds:List D)(K:List D->Int->Int->Int->Int->Int->Int->Int->List D->List D->List D->Option R):Option R:=jy V f ds fun v0 v1=>jr v0 fun v2=>unn v2 (unc v1 fun v3 v4=>tk9 v3 fun v8 v11 v14 v17 v20 v23 v26 v29 v32 v35 v38=>(unn v4 (K v8 v11 v14 v17 v20 v23 v26 v29 v32 v35 v38)))
abbrev YN {R:Type}(f:Nat)(ds:List D)(K:ByteArray->Bool->Option R):Option R:=jy V f ds fun v0 v1=>jr v0 fun v2=>unc v2 fun v3 v4=>asS v3 fun v5=>unc v4 fun v6 v7=>asB v6 fun v8=>unn v7 (unn v1 (K v5 v8))
abbrev aav {R:Type}(f:Nat)(ds:List D)(K:List D->List D->Option R):Option R:=jy V f ds fun v0 v1=>jH (1,0) v0 fun v2=>unc v1 fun v3 v4=>o9 v3 fun v5=>unc v5 fun v6 v7=>jH (5,0) v6 fun v8=>unn v7 (unn v4 (K v2 v8))
abbrev Uv {R:Type}(f:Nat)(ds:List D)(K:List D->Int->Int->Int->Int->Int->Int->Int->Bool->Option R):Option R:=jy V f ds fun v0 v1=>jr v0 fun v2=>unc v2 fun v3 v4=>asAgg v3 fun v5=>unc v5 fun v6 v7=>jH (5,0) v6 fun v8=>unc v7 fun v9 v10=>asI .i64 v9 fun v11=>unc v10 fun v12 v13=>asI .i64 v12 fun v14=>unc v13 fun v15 v16=>asI .i64 v15 fun v17=>unc v16 fun v18 v19=>asI .i64 v18 fun v20=>unc v19 fun v21 v22=>asI .i64 v21 fun v23=>unc v22 fun v24 v25=>asI .i64 v24 fun v26=>unc v25 fun v27 v28=>asI .i64 v27 fun v29=>unn v28 (unc v4 fun v30 v31=>asB v30 fun v32=>unn v31 (unn v1 (K v8 v11 v14 v17 v20 v23 v26 v29 v32)))
abbrev Uw {R:Type}(f:Nat)(ds:List D)(K:List D->Int->Int->Int->Int->Int->Int->Int->Option R):Option R:=jy V f ds fun v0 v1=>jr v0 fun v2=>unn v2 (unc v1 fun v3 v4=>tk8 v3 fun v8 v11 v14 v17 v20 v23 v26 v29=>(unn v4 (K v8 v11 v14 v17 v20 v23 v26 v29)))
abbrev Vg {R:Type}(f:Nat)(ds:List D)(K:Int->Int->ByteArray->Int->Int->Bool->Option R):Option R:=jy V f ds fun v0 v1=>jr v0 fun v2=>unc v2 fun v3 v4=>tk2 v3 fun v8 v11 v14 v17 v20=>(unc v4 fun v21 v22=>asB v21 fun v23=>unn v22 (unn v1 (K v8 v11 v14 v17 v20 v23)))
abbrev aaw {R:Type}(f:Nat)(ds:List D)(K:ByteArray->Option R):Option R:=jy V f ds fun v0 v1=>asS v0 fun v2=>unn v1 (K v2)
abbrev afQ {R:Type}(f:Nat)(ds:List D)(K:List D->List D->Int->Bool->Option R):Option R:=jy V f ds fun v0 v1=>asAgg v0 fun v2=>unc v2 fun v3 v4=>jH (5,0) v3 fun v5=>unn v4 (unc v1 fun v6 v7=>tk6 v6 fun v11 v14 v17=>(unn v7 (K v5 v11 v14 v17)))
abbrev aeH {R:Type}(f:Nat)(ds:List D)(K:ByteArray->Bool->List D->List D->List D->Int->Option R):Option R:=jy V f ds fun v0 v1=>agU v0 fun v5 v8=>(unc v1 fun v9 v10=>tk4 v9 fun v14 v17 v20 v23=>(unn v10 (K v5 v8 v14 v17 v20 v23)))
abbrev adI {R:Type}(f:Nat)(ds:List D)(K:Int->Int->Option R):Option R:=jy V f ds fun v0 v1=>agp v0 fun v5 v8=>(unn v1 (K v5 v8))
abbrev aeI {R:Type}(f:Nat)(ds:List D)(K:Int->List D->Bool->Option R):Option R:=jy V f ds fun v0 v1=>agV v0 fun v5 v8 v11=>(unn v1 (K v5 v8 v11))
abbrev adJ {R:Type}(f:Nat)(ds:List D)(K:Int->Int->List D->Option R):Option R:=jy V f ds fun v0 v1=>agp v0 fun v5 v8=>(unc v1 fun v9 v10=>o9 v9 fun v11=>unc v11 fun v12 v13=>jH (5,0) v12 fun v14=>unn v13 (unn v10 (K v5 v8 v14)))
abbrev aeJ {R:Type}(f:Nat)(ds:List D)(K:List D->List D->Int->Int->Option R):Option R:=jy V f ds fun v0 v1=>jr v0 fun v2=>unc v2 fun v3 v4=>asAgg v3 fun v5=>unc v5 fun v6 v7=>jH (5,0) v6 fun v8=>unn v7 (unc v4 fun v9 v10=>jH (1,0) v9 fun v11=>unc v10 fun v12 v13=>asI .i64 v12 fun v14=>unc v13 fun v15 v16=>asI .i64 v15 fun v17=>unn v16 (unn v1 (K v8 v11 v14 v17)))
abbrev aeK {R:Type}(f:Nat)(ds:List D)(K:List D->List D->List D->Int->Int->Option R):Option R:=jy V f ds fun v0 v1=>jr v0 fun v2=>unc v2 fun v3 v4=>asAgg v3 fun v5=>unc v5 fun v6 v7=>jH (5,0) v6 fun v8=>unc v7 fun v9 v10=>jH (4,0) v9 fun v11=>unc v10 fun v12 v13=>jH (3,0) v12 fun v14=>unn v13 (unc v4 fun v15 v16=>asI .i64 v15 fun v17=>unc v16 fun v18 v19=>asI .i64 v18 fun v20=>unn v19 (unn v1 (K v8 v11 v14 v17 v20)))
abbrev aca {R:Type}(f:Nat)(ds:List D)(K:Int->Bool->Option R):Option R:=jy V f ds fun v0 v1=>tk7 v0 fun v5 v8=>(unn v1 (K v5 v8))
abbrev aeL {R:Type}(f:Nat)(ds:List D)(K:ByteArray->List D->Int->Bool->Option R):Option R:=jy V f ds fun v0 v1=>asS v0 fun v2=>unc v1 fun v3 v4=>tk6 v3 fun v8 v11 v14=>(unn v4 (K v2 v8 v11 v14))
abbrev aax {R:Type}(f:Nat)(ds:List D)(K:Int->Int->ByteArray->Int->Int->List D->Int->Int->Option R):Option R:=jy V f ds fun v0 v1=>asAgg v0 fun v2=>unc v2 fun v3 v4=>asI .i64 v3 fun v5=>unc v4 fun v6 v7=>asI .i64 v6 fun v8=>unc v7 fun v9 v10=>asS v9 fun v11=>unc v10 fun v12 v13=>asI .i64 v12 fun v14=>unc v13 fun v15 v16=>asI .i64 v15 fun v17=>unn v16 (unc v1 fun v18 v19=>o9 v18 fun v20=>unc v20 fun v21 v22=>kY (1,0) v21 fun v23=>unc v22 fun v24 v25=>asI .i64 v24 fun v26=>unc v25 fun v27 v28=>asI .i64 v27 fun v29=>unn v28 (unn v19 (K v5 v8 v11 v14 v17 v23 v26 v29)))
abbrev agH {R:Type}(f:Nat)(ds:List D)(K:List D->Int->Int->Option R):Option R:=jy V f ds fun v0 v1=>o9 v0 fun v2=>unc v2 fun v3 v4=>kY (1,0) v3 fun v5=>unc v4 fun v6 v7=>asI .i64 v6 fun v8=>unc v7 fun v9 v10=>asI .i64 v9 fun v11=>unn v10 (unn v1 (K v5 v8 v11))
abbrev afR {R:Type}(f:Nat)(ds:List D)(K:List D->List D->List D->List D->Int->Int->Int->Int->Int->Int->Int->List D->Int->Int->Option R):Option R:=jy V f ds fun v0 v1=>jr v0 fun v2=>unc v2 fun v3 v4=>asAgg v3 fun v5=>unc v5 fun v6 v7=>nk (5,0) v6 fun v8=>unc v7 fun v9 v10=>nk (4,0) v9 fun v11=>unc v10 fun v12 v13=>nk (3,0) v12 fun v14=>unn v13 (unc v4 fun v15 v16=>asAgg v15 fun v17=>unc v17 fun v18 v19=>nk (5,0) v18 fun v20=>unc v19 fun v21 v22=>asI .i64 v21 fun v23=>unc v22 fun v24 v25=>asI .i64 v24 fun v26=>unc v25 fun v27 v28=>asI .i64 v27 fun v29=>unc v28 fun v30 v31=>asI .i64 v30 fun v32=>unc v31 fun v33 v34=>asI .i64 v33 fun v35=>unc v34 fun v36 v37=>asI .i64 v36 fun v38=>unc v37 fun v39 v40=>asI .i64 v39 fun v41=>unn v40 (unn v16 (unc v1 fun v42 v43=>o9 v42 fun v44=>unc v44 fun v45 v46=>kY (1,0) v45 fun v47=>unc v46 fun v48 v49=>asI .i64 v48 fun v50=>unc v49 fun v51 v52=>asI .i64 v51 fun v53=>unn v52 (unn v43 (K v8 v11 v14 v20 v23 v26 v29 v32 v35 v38 v41 v47 v50 v53)))))
abbrev agI {R:Type}(f:Nat)(ds:List D)(K:List D->List D->List D->List D->Int->Int->Int->Int->Int->Int->Int->Int->Option R):Option R:=jy V f ds fun v0 v1=>jr v0 fun v2=>unc v2 fun v3 v4=>asAgg v3 fun v5=>unc v5 fun v6 v7=>nk (5,0) v6 fun v8=>unc v7 fun v9 v10=>nk (4,0) v9 fun v11=>unc v10 fun v12 v13=>nk (3,0) v12 fun v14=>unn v13 (unc v4 fun v15 v16=>asAgg v15 fun v17=>unc v17 fun v18 v19=>nk (5,0) v18 fun v20=>unc v19 fun v21 v22=>asI .i64 v21 fun v23=>unc v22 fun v24 v25=>asI .i64 v24 fun v26=>unc v25 fun v27 v28=>asI .i64 v27 fun v29=>unc v28 fun v30 v31=>asI .i64 v30 fun v32=>unc v31 fun v33 v34=>asI .i64 v33 fun v35=>unc v34 fun v36 v37=>asI .i64 v36 fun v38=>unc v37 fun v39 v40=>asI .i64 v39 fun v41=>unn v40 (unc v16 fun v42 v43=>asI .i64 v42 fun v44=>unn v43 (unn v1 (K v8 v11 v14 v20 v23 v26 v29 v32 v35 v38 v41 v44))))
abbrev agJ {R:Type}(f:Nat)(ds:List D)(K:List D->Option R):Option R:=jy V f ds fun v0 v1=>jH (5,0) v0 fun v2=>unn v1 (K v2)
abbrev aeM {R:Type}(f:Nat)(ds:List D)(K:List D->List D->List D->List D->Int->Int->Option R):Option R:=jy V f ds fun v0 v1=>asAgg v0 fun v2=>unc v2 fun v3 v4=>jH (5,0) v3 fun v5=>unc v4 fun v6 v7=>jH (4,0) v6 fun v8=>unc v7 fun v9 v10=>jH (3,0) v9 fun v11=>unn v10 (unc v1 fun v12 v13=>o9 v12 fun v14=>unc v14 fun v15 v16=>kY (1,0) v15 fun v17=>unc v16 fun v18 v19=>asI .i64 v18 fun v20=>unc v19 fun v21 v22=>asI .i64 v21 fun v23=>unn v22 (unn v13 (K v5 v8 v11 v17 v20 v23)))
abbrev aeN {R:Type}(f:Nat)(ds:List D)(K:List D->List D->Int->Int->Option R):Option R:=jy V f ds fun v0 v1=>asAgg v0 fun v2=>unc v2 fun v3 v4=>jH (5,0) v3 fun v5=>unn v4 (unc v1 fun v6 v7=>o9 v6 fun v8=>unc v8 fun v9 v10=>kY (1,0) v9 fun v11=>unc v10 fun v12 v13=>asI .i64 v12 fun v14=>unc v13 fun v15 v16=>asI .i64 v15 fun v17=>unn v16 (unn v7 (K v5 v11 v14 v17)))
abbrev YO {R:Type}(f:Nat)(ds:List D)(K:Bool->List D->Int->Int->Option R):Option R:=jy V f ds fun v0 v1=>asB v0 fun v2=>unc v1 fun v3 v4=>o9 v3 fun v5=>unc v5 fun v6 v7=>kY (1,0) v6 fun v8=>unc v7 fun v9 v10=>asI .i64 v9 fun v11=>unc v10 fun v12 v13=>asI .i64 v12 fun v14=>unn v13 (unn v4 (K v2 v8 v11 v14))
abbrev QJ {R:Type}(f:Nat)(ds:List D)(K:ByteArray->List D->Int->Int->Option R):Option R:=jy V f ds fun v0 v1=>asS v0 fun v2=>unc v1 fun v3 v4=>o9 v3 fun v5=>unc v5 fun v6 v7=>kY (1,0) v6 fun v8=>unc v7 fun v9 v10=>asI .i64 v9 fun v11=>unc v10 fun v12 v13=>asI .i64 v12 fun v14=>unn v13 (unn v4 (K v2 v8 v11 v14))
abbrev afS {R:Type}(f:Nat)(ds:List D)(K:Int->Int->ByteArray->Int->Int->List D->Int->Bool->Option R):Option R:=jy V f ds fun v0 v1=>tk2 v0 fun v5 v8 v11 v14 v17=>(unc v1 fun v18 v19=>tk6 v18 fun v23 v26 v29=>(unn v19 (K v5 v8 v11 v14 v17 v23 v26 v29)))
abbrev aay {R:Type}(f:Nat)(ds:List D)(K:List D->List D->Option R):Option R:=jy V f ds fun v0 v1=>jr v0 fun v2=>unc v2 fun v3 v4=>asAgg v3 fun v5=>unc v5 fun v6 v7=>jH (5,0) v6 fun v8=>unn v7 (unc v4 fun v9 v10=>jH (1,0) v9 fun v11=>unn v10 (unn v1 (K v8 v11)))
abbrev aaz {R:Type}(f:Nat)(ds:List D)(K:List D->Int->Int->Int->Int->Int->Int->Int->List D->Int->Int->Option R):Option R:=jy V f ds fun v0 v1=>asAgg v0 fun v2=>unc v2 fun v3 v4=>jH (5,0) v3 fun v5=>unc v4 fun v6 v7=>asI .i64 v6 fun v8=>unc v7 fun v9 v10=>asI .i64 v9 fun v11=>unc v10 fun v12 v13=>asI .i64 v12 fun v14=>unc v13 fun v15 v16=>asI .i64 v15 fun v17=>unc v16 fun v18 v19=>asI .i64 v18 fun v20=>unc v19 fun v21 v22=>asI .i64 v21 fun v23=>unc v22 fun v24 v25=>asI .i64 v24 fun v26=>unn v25 (unc v1 fun v27 v28=>o9 v27 fun v29=>unc v29 fun v30 v31=>kY (1,0) v30 fun v32=>unc v31 fun v33 v34=>asI .i64 v33 fun v35=>unc v34 fun v36 v37=>asI .i64 v36 fun v38=>unn v37 (unn v28 (K v5 v8 v11 v14 v17 v20 v23 v26 v32 v35 v38)))
abbrev afT {R:Type}(f:Nat)(ds:List D)(K:Int->Int->Bool->Option R):Option R:=jy V f ds fun v0 v1=>agW v0 fun v5 v8 v11=>(unn v1 (K v5 v8 v11))
abbrev agK {R:Type}(f:Nat)(ds:List D)(K:ByteArray->Int->Bool->Option R):Option R:=jy V f ds fun v0 v1=>agX v0 fun v5 v8 v11=>(unn v1 (K v5 v8 v11))
section
variable {R:Type}{f:Nat}{ds es:List D}
@[congr] theorem aik (h:ds=es)(K:_):ck1 (R:=R) f ds K=ck1 f es K:=by rw[h]
@[congr] theorem ail (h:ds=es)(K:_):ck2 (R:=R) f ds K=ck2 f es K:=by rw[h]
@[congr] theorem aim (h:ds=es)(K:_):ck3 (R:=R) f ds K=ck3 f es K:=by rw[h]
@[congr] theorem ain (h:ds=es)(K:_):ck4 (R:=R) f ds K=ck4 f es K:=by rw[h]
@[congr] theorem aio (h:ds=es)(K:_):ck5 (R:=R) f ds K=ck5 f es K:=by rw[h]
@[congr] theorem aip (h:ds=es)(K:_):ck6 (R:=R) f ds K=ck6 f es K:=by rw[h]
@[congr] theorem aiq (h:ds=es)(K:_):ck7 (R:=R) f ds K=ck7 f es K:=by rw[h]
@[congr] theorem air (h:ds=es)(K:_):ck8 (R:=R) f ds K=ck8 f es K:=by rw[h]
@[congr] theorem ais (h:ds=es)(K:_):ck9 (R:=R) f ds K=ck9 f es K:=by rw[h]
@[congr] theorem ahq (h:ds=es)(K:_):Fi (R:=R) f ds K=Fi f es K:=by rw[h]
@[congr] theorem ahr (h:ds=es)(K:_):AP (R:=R) f ds K=AP f es K:=by rw[h]
@[congr] theorem ahs (h:ds=es)(K:_):aau (R:=R) f ds K=aau f es K:=by rw[h]
@[congr] theorem aht (h:ds=es)(K:_):QI (R:=R) f ds K=QI f es K:=by rw[h]
@[congr] theorem ahu (h:ds=es)(K:_):YM (R:=R) f ds K=YM f es K:=by rw[h]
@[congr] theorem ahv (h:ds=es)(K:_):afO (R:=R) f ds K=afO f es K:=by rw[h]
@[congr] theorem ahw (h:ds=es)(K:_):LQ (R:=R) f ds K=LQ f es K:=by rw[h]
@[congr] theorem ahx (h:ds=es)(K:_):Ir (R:=R) f ds K=Ir f es K:=by rw[h]
@[congr] theorem ahy (h:ds=es)(K:_):aeF (R:=R) f ds K=aeF f es K:=by rw[h]
@[congr] theorem ahz (h:ds=es)(K:_):afP (R:=R) f ds K=afP f es K:=by rw[h]
@[congr] theorem ahA (h:ds=es)(K:_):AY (R:=R) f ds K=AY f es K:=by rw[h]
@[congr] theorem ahB (h:ds=es)(K:_):aeG (R:=R) f ds K=aeG f es K:=by rw[h]
@[congr] theorem ahC (h:ds=es)(K:_):Vf (R:=R) f ds K=Vf f es K:=by rw[h]
@[congr] theorem ahD (h:ds=es)(K:_):YN (R:=R) f ds K=YN f es K:=by rw[h]
@[congr] theorem ahE (h:ds=es)(K:_):aav (R:=R) f ds K=aav f es K:=by rw[h]
@[congr] theorem ahF (h:ds=es)(K:_):Uv (R:=R) f ds K=Uv f es K:=by rw[h]
@[congr] theorem ahG (h:ds=es)(K:_):Uw (R:=R) f ds K=Uw f es K:=by rw[h]
@[congr] theorem ahH (h:ds=es)(K:_):Vg (R:=R) f ds K=Vg f es K:=by rw[h]
@[congr] theorem ahI (h:ds=es)(K:_):aaw (R:=R) f ds K=aaw f es K:=by rw[h]
@[congr] theorem ahJ (h:ds=es)(K:_):afQ (R:=R) f ds K=afQ f es K:=by rw[h]
@[congr] theorem ahK (h:ds=es)(K:_):aeH (R:=R) f ds K=aeH f es K:=by rw[h]
@[congr] theorem ahL (h:ds=es)(K:_):adI (R:=R) f ds K=adI f es K:=by rw[h]
@[congr] theorem ahM (h:ds=es)(K:_):aeI (R:=R) f ds K=aeI f es K:=by rw[h]
@[congr] theorem ahN (h:ds=es)(K:_):adJ (R:=R) f ds K=adJ f es K:=by rw[h]
@[congr] theorem ahO (h:ds=es)(K:_):aeJ (R:=R) f ds K=aeJ f es K:=by rw[h]
@[congr] theorem ahP (h:ds=es)(K:_):aeK (R:=R) f ds K=aeK f es K:=by rw[h]
@[congr] theorem ahQ (h:ds=es)(K:_):aca (R:=R) f ds K=aca f es K:=by rw[h]
@[congr] theorem ahR (h:ds=es)(K:_):aeL (R:=R) f ds K=aeL f es K:=by rw[h]
@[congr] theorem ahS (h:ds=es)(K:_):aax (R:=R) f ds K=aax f es K:=by rw[h]
@[congr] theorem ahT (h:ds=es)(K:_):agH (R:=R) f ds K=agH f es K:=by rw[h]
@[congr] theorem ahU (h:ds=es)(K:_):afR (R:=R) f ds K=afR f es K:=by rw[h]
@[congr] theorem ahV (h:ds=es)(K:_):agI (R:=R) f ds K=agI f es K:=by rw[h]
@[congr] theorem ahW (h:ds=es)(K:_):agJ (R:=R) f ds K=agJ f es K:=by rw[h]
@[congr] theorem ahX (h:ds=es)(K:_):aeM (R:=R) f ds K=aeM f es K:=by rw[h]
@[congr] theorem ahY (h:ds=es)(K:_):aeN (R:=R) f ds K=aeN f es K:=by rw[h]
@[congr] theorem ahZ (h:ds=es)(K:_):YO (R:=R) f ds K=YO f es K:=by rw[h]
@[congr] theorem ah0 (h:ds=es)(K:_):QJ (R:=R) f ds K=QJ f es K:=by rw[h]
@[congr] theorem ah1 (h:ds=es)(K:_):afS (R:=R) f ds K=afS f es K:=by rw[h]
@[congr] theorem ah2 (h:ds=es)(K:_):aay (R:=R) f ds K=aay f es K:=by rw[h]
@[congr] theorem ah3 (h:ds=es)(K:_):aaz (R:=R) f ds K=aaz f es K:=by rw[h]
@[congr] theorem ah4 (h:ds=es)(K:_):afT (R:=R) f ds K=afT f es K:=by rw[h]
@[congr] theorem ah5 (h:ds=es)(K:_):agK (R:=R) f ds K=agK f es K:=by rw[h]
end
abbrev R:=Rn Tryz.prog cf0
def DL (p0 p1 p2 p3 p4 p5 p6 p7 p8:Int)(p9 p10 p11:List D):Option Ret:=R 19 Tryz.f19 [] (zK Tryz.f19 6) ⟨[uu,uu,uu,.ref 0 0 0,uu,uu,.asl 1 none,uu,uu,uu,uu,uu,uu,uu,uu,uu,uu,uu,uu,uu,uu,uu,uu,uu,uu,uu,uu,uu,uu,uu,.asl 2 none,.d (iN p0),.d (iN p1),uu,uu,uu,uu,uu,uu,uu,uu,uu,uu,uu,uu,uu,uu],[(0,some (.var [.asl 3 none,.d (iN p2),.d (iN p3),.d (iN p4),.d (iN p5),.d (iN p6),.d (iN p7),.d (iN p8)])),(1,some (.arr (1,0) p9)),(2,some (.arr (1,0) p10)),(3,some (.arr (5,0) p11))],4,[]⟩
def DP (p0 p1 p2 p3 p4 p5 p6 p7:Int)(p8 p9 p10:List D):Option Ret:=R 20 Tryz.f20 [] (zK Tryz.f20 7) ⟨[uu,uu,uu,uu,uu,uu,.ref 0 0 0,.asl 1 none,.asl 2 none,.d (iN p0),uu,uu,uu,uu,uu,uu,uu,uu,uu,uu,uu,uu,uu,uu,uu,uu,uu,uu,uu,uu,uu,uu,uu,uu,uu,uu,uu,uu,uu,uu,uu,uu,uu,uu,uu,uu,uu,uu,uu,uu,uu],[(0,some (.var [.asl 3 none,.d (iN p1),.d (iN p2),.d (iN p3),.d (iN p4),.d (iN p5),.d (iN p6),.d (iN p7)])),(1,some (.arr (1,0) p8)),(2,some (.arr (1,0) p9)),(3,some (.arr (5,0) p10))],4,[]⟩
def GJ (p0 p1:Int)(p2 p3 p4:List D)(p5 p6 p7 p8 p9 p10 p11 p12 p13 p14 p15 p16 p17 p18:Int)(p19:List D):Option Ret:=R 22 Tryz.f22 [] (zK Tryz.f22 5) ⟨[uu,uu,.d (iN p0),.ref 0 0 0,.ref 1 0 0,uu,.ref 2 0 0,uu,.d (iN p1),uu,uu,uu,uu,uu,uu,uu,uu,uu,uu,uu,uu,uu,uu,uu,uu,uu,uu,uu,uu,uu,uu,uu,uu,uu,uu],[(0,some (.var [.d (.rs (5,0) p2),.d (.rs (4,0) p3),.d (.rs (3,0) p4)])),(1,some (.var [.asl 3 none,.d (iN p5),.d (iN p6),.d (iN p7),.d (iN p8),.d (iN p9),.d (iN p10),.d (iN p11)])),(2,some (.var [.d .nl,.d (iN p12),.d (iN p13),.d (iN p14),.d (iN p15),.d (iN p16),.d (iN p17),.d (iN p18)])),(3,some (.arr (5,0) p19))],4,[]⟩
def IZ (p0:List D)(p1 p2:Int):Option Ret:=R 51 Tryz.f51 [] (zK Tryz.f51 3) ⟨[.d (.rs (1,0) p0),uu,uu,.d (iN p1),.d (iN p2),uu,uu,uu,uu,uu,uu,uu,uu,uu,uu,uu,uu,uu,uu,uu,uu,uu,uu,uu,uu,uu,uu,uu,uu,uu,uu,uu],[],0,[]⟩
def GD (p0 p1:Int)(p2 p3 p4:List D):Option Ret:=R 54 Tryz.f54 [] (zK Tryz.f54 4) ⟨[uu,.ref 0 0 0,uu,uu,uu,uu,uu,uu,uu,uu,uu,uu,uu,uu,uu,uu,uu,uu,uu,uu,uu,uu,uu,uu,.d (iN p0),.d (iN p1),uu,uu,uu,uu,uu,uu,uu,uu,uu,uu,uu,uu,uu,uu,uu,uu,uu,uu,uu,uu,uu,uu,uu,uu,uu,uu,uu,uu,uu,uu,uu,uu,uu,uu,uu,uu,uu,uu,uu,uu,uu,uu,uu,uu],[(0,some (.var [.d (.rs (5,0) p2),.d (.rs (4,0) p3),.d (.rs (3,0) p4)]))],1,[]⟩
def Gj (p0:List D)(p1 p2:Int)(p3 p4 p5:List D):Option Ret:=R 54 Tryz.f54 [] (zK Tryz.f54 10) ⟨[uu,.ref 0 0 0,uu,uu,uu,uu,uu,uu,uu,uu,uu,uu,uu,uu,uu,uu,uu,uu,uu,uu,uu,uu,uu,uu,uu,uu,uu,uu,uu,uu,uu,uu,uu,uu,.d (.rs (3,0) p0),.d (iN p1),.d (iN p2),uu,uu,uu,uu,uu,uu,uu,uu,uu,uu,uu,uu,uu,uu,uu,uu,uu,uu,uu,uu,uu,uu,uu,uu,uu,uu,uu,uu,uu,uu,uu,uu,uu],[(0,some (.var [.d (.rs (5,0) p3),.d (.rs (4,0) p4),.d (.rs (3,0) p5)]))],1,[]⟩
def GG (p0:List D)(p1 p2:Int)(p3:List D):Option Ret:=R 55 Tryz.f55 [] (zK Tryz.f55 2) ⟨[uu,.ref 0 0 0,uu,uu,uu,uu,.d (.rs (5,0) p0),.d (iN p1),.d (iN p2),uu,uu,uu,uu,uu,uu,uu,uu,uu,uu,uu,uu,uu],[(0,some (.var [.d (.rs (5,0) p3)]))],1,[]⟩
def GK (p0:Int)(p1 p2 p3:List D):Option Ret:=R 59 Tryz.f59 [] (zK Tryz.f59 4) ⟨[uu,.ref 0 0 0,uu,.d (iN p0),uu,uu,uu,uu,uu,uu,uu,uu,uu,uu,uu,uu,uu,uu,uu,uu,uu,uu,uu,uu,uu,uu,uu,uu,uu,uu,uu,uu,uu,uu,uu,uu,uu,uu,uu,uu,uu,uu,uu,uu,uu,uu,uu,uu,uu,uu,uu,uu,uu,uu,uu,uu,uu,uu,uu,uu,uu,uu,uu,uu,uu,uu,uu,uu,uu,uu,uu,uu,uu],[(0,some (.var [.d (.rs (5,0) p1),.d (.rs (4,0) p2),.d (.rs (3,0) p3)]))],1,[]⟩
def GL (p0:Int)(p1 p2 p3:List D):Option Ret:=R 59 Tryz.f59 [] (zK Tryz.f59 9) ⟨[uu,.ref 0 0 0,uu,uu,.d (iN p0),uu,uu,uu,uu,uu,uu,uu,uu,uu,uu,uu,uu,uu,uu,uu,uu,uu,uu,uu,uu,uu,uu,uu,uu,uu,uu,uu,uu,uu,uu,uu,uu,uu,uu,uu,uu,uu,uu,uu,uu,uu,uu,uu,uu,uu,uu,uu,uu,uu,uu,uu,uu,uu,uu,uu,uu,uu,uu,uu,uu,uu,uu,uu,uu,uu,uu,uu,uu],[(0,some (.var [.d (.rs (5,0) p1),.d (.rs (4,0) p2),.d (.rs (3,0) p3)]))],1,[]⟩
def GP (p0:Int)(p1:List D):Option Ret:=R 60 Tryz.f60 [] (zK Tryz.f60 2) ⟨[uu,.ref 0 0 0,uu,.d (iN p0),uu,uu,uu,uu,uu,uu,uu,uu,uu,uu,uu,uu,uu,uu,uu,uu,uu,uu,uu],[(0,some (.var [.d (.rs (5,0) p1)]))],1,[]⟩
def JQ (p0:List D)(p1 p2:Int)(p3 p4 p5:List D):Option Ret:=R 66 Tryz.f66 [] (zK Tryz.f66 5) ⟨[uu,uu,uu,uu,.ref 0 0 0,uu,.ref 1 0 0,.asl 2 none,.asl 3 none,uu,uu,uu,uu,uu,uu,uu,.d (.rs (1,0) p0),.d (iN p1),.d (iN p2),uu,uu,uu,uu,uu,uu,uu,uu,uu,uu,uu,uu,uu],[(0,some (.var [.d .nl])),(1,some (.var [.asl 4 none])),(2,some (.arr (1,0) p3)),(3,some (.arr (1,0) p4)),(4,some (.arr (5,0) p5))],5,[]⟩
def GI (p0:Int)(p1:List D):Option Ret:=R 67 Tryz.f67 [] (zK Tryz.f67 4) ⟨[.d (iN p0),uu,uu,.asl 0 none,uu,uu,uu,uu,uu,uu,uu,uu,uu,uu,uu,uu,uu,uu,uu,uu,uu,uu,uu],[(0,some (.arr (1,0) p1))],1,[]⟩
def Ae (p0:List D)(p1 p2:Int)(p3:List D):Option Ret:=R 68 Tryz.f68 [] (zK Tryz.f68 3) ⟨[uu,uu,uu,.asl 0 none,uu,uu,uu,uu,uu,uu,uu,.d (.rs (5,0) p0),.d (iN p1),.d (iN p2),uu,uu,uu,uu,uu,uu,uu,uu,uu,uu,uu,uu,uu,uu,uu,uu,uu,uu,uu,uu,uu,uu,uu,uu,uu,uu,uu,uu,uu,uu,uu,uu,uu,uu,uu,uu,uu,uu,uu,uu,uu,uu,uu,uu,uu,uu,uu,uu,uu,uu,uu,uu,uu,uu,uu,uu,uu,uu,uu,uu,uu,uu,uu,uu,uu,uu,uu],[(0,some (.arr (1,0) p3))],1,[]⟩
def GT (p0:Int)(p1:List D):Option Ret:=R 69 Tryz.f69 [] (zK Tryz.f69 4) ⟨[.d (iN p0),uu,uu,.asl 0 none,uu,uu,uu,uu,uu,uu,uu,uu,uu,uu,uu,uu,uu,uu,uu,uu,uu,uu,uu,uu],[(0,some (.arr (1,0) p1))],1,[]⟩
def Aj (p0:Int)(p1 p2:List D):Option Ret:=R 70 Tryz.f70 [] (zK Tryz.f70 3) ⟨[uu,.ref 0 0 0,uu,.asl 1 none,.d (iN p0),uu,uu,uu,uu,uu,uu,uu,uu,uu,uu,uu,uu,uu,uu,uu,uu,uu,uu,uu,uu,uu,uu,uu,uu,uu,uu,uu,uu,uu,uu,uu,uu,uu,uu,uu,uu,uu,uu,uu,uu,uu,uu,uu,uu,uu,uu,uu,uu,uu,uu,uu,uu,uu,uu,uu,uu,uu,uu,uu,uu,uu,uu,uu,uu,uu,uu,uu,uu,uu,uu,uu,uu,uu,uu,uu,uu,uu,uu],[(0,some (.var [.d (.rs (5,0) p1)])),(1,some (.arr (1,0) p2))],2,[]⟩
def Fc (p0 p1 p2:Int)(p3:Bool)(p4:List D):Option Ret:=R 72 Tryz.f72 [((Go.Func.params Tryz.f72).toList.getD 0 0)] (zK Tryz.f72 4) ⟨[.ref 0 0 0,uu,.ref 1 0 0,.ref 2 0 0,.d (iN p0),.d (iN p1),uu,uu,uu,uu,uu,uu,uu,uu,uu,uu,uu,uu,uu,uu,uu,uu,uu,uu,uu,uu,uu,uu,uu,uu,uu,uu,uu,uu],[(0,some (.var [.asl 3 none,.d (iN p2),.d (.bool p3)])),(1,some (.var [.d .nl])),(2,some (.var [.d .nl])),(3,some (.arr (1,0) p4))],4,[.ref 0 0 0]⟩
def BW (p0 p1 p2:Int)(p3:Bool)(p4 p5:List D):Option Ret:=R 72 Tryz.f72 [((Go.Func.params Tryz.f72).toList.getD 0 0)] (zK Tryz.f72 4) ⟨[.ref 0 0 0,uu,.ref 1 0 0,.ref 2 0 0,.d (iN p0),.d (iN p1),uu,uu,uu,uu,uu,uu,uu,uu,uu,uu,uu,uu,uu,uu,uu,uu,uu,uu,uu,uu,uu,uu,uu,uu,uu,uu,uu,uu],[(0,some (.var [.asl 3 none,.d (iN p2),.d (.bool p3)])),(1,some (.var [.d .nl])),(2,some (.var [.asl 4 none])),(3,some (.arr (1,0) p4)),(4,some (.arr (5,0) p5))],5,[.ref 0 0 0]⟩
def Ew (p0:List D)(p1:Int)(p2:List D):Option Ret:=R 84 Tryz.f84 [] (zK Tryz.f84 2) ⟨[uu,.d (.rs (1,0) p0),.ref 0 0 0,uu,uu,.d (iN p1),uu,uu,uu,uu,uu,uu,uu,uu,uu,uu,uu,uu,uu,uu,uu],[(0,some (.var [.d (.rs (5,0) p2)]))],1,[]⟩
def GX (p0:List D)(p1:Int)(p2 p3 p4:List D):Option Ret:=R 86 Tryz.f86 [] (zK Tryz.f86 5) ⟨[uu,.d (.rs (1,0) p0),uu,uu,.ref 0 0 0,uu,.ref 1 0 0,.asl 2 none,.asl 3 none,.d (iN p1),uu,uu,uu,uu,uu,uu,uu,uu,uu,uu,uu,uu,uu,uu,uu,uu,uu,uu,uu,uu,uu,uu,uu,uu,uu],[(0,some (.var [.d .nl])),(1,some (.var [.asl 4 none])),(2,some (.arr (1,0) p2)),(3,some (.arr (1,0) p3)),(4,some (.arr (5,0) p4))],5,[]⟩
def CX (p0:Int)(p1:List D)(p2 p3:Int)(p4:List D):Option Ret:=R 90 Tryz.f90 [87] (zK Tryz.f90 8) ⟨[uu,uu,.ref 0 0 0,.ref 1 0 0,uu,.d (iN p0),uu,uu,uu,uu,uu,uu,uu,uu,uu,uu,uu,uu,uu,uu,uu,uu,uu,uu,uu,uu,uu,uu,uu,uu,uu,uu,uu,uu,uu,uu,uu,uu,uu,uu,uu,uu,uu,uu,uu,uu,uu,uu,uu,uu,uu,uu],[(0,some (.var [.d .nl])),(1,some (.var [.asl 3 none])),(2,some (.var [.d (.rs (1,0) p1),.d (iN p2),.d (iN p3)])),(3,some (.arr (5,0) p4))],4,[.ref 2 0 0]⟩
def DN (p0:Int)(p1 p2:List D):Option Ret:=R 119 Tryz.f119 [((Go.Func.params Tryz.f119).toList.getD 0 0)] (zK Tryz.f119 2) ⟨[.ref 0 0 0,.d (iN p0),uu,uu,uu,uu,.asl 1 none,uu,uu,uu,uu,uu,uu,uu,uu,uu,uu,uu,uu,uu,uu,uu,uu,uu,uu,uu,uu,uu,uu,uu,uu,uu,uu,uu,uu,uu,uu,uu,uu,uu,uu,uu,uu,uu,uu,uu],[(0,some (.var [.asl 2 none])),(1,some (.arr (1,0) p1)),(2,some (.arr (5,0) p2))],3,[.ref 0 0 0]⟩
def Fa (p0:ByteArray)(p1 p2:Int):Option Ret:=R 124 Tryz.f124 [] (zK Tryz.f124 4) ⟨[.d (.str p0),uu,uu,uu,uu,uu,uu,uu,uu,.d (iN p1),.d (iN p2),uu,uu,uu,uu,uu,uu,uu,uu],[],0,[]⟩
def Ff (p0:ByteArray)(p1:Int):Option Ret:=R 128 Tryz.f128 [] (zK Tryz.f128 2) ⟨[.d (.str p0),uu,uu,.d (iN p1),uu,uu,uu,uu,uu,uu,uu,uu,uu,uu,uu,uu,uu,uu],[],0,[]⟩
def IY (p0:ByteArray)(p1:Int)(p2 p3 p4:List D):Option Ret:=R 129 Tryz.f129 [] (zK Tryz.f129 2) ⟨[uu,.d (.str p0),.ref 0 0 0,uu,uu,.d (iN p1),uu,uu,uu,uu,uu,uu,uu,uu,uu,uu,uu,uu,uu,uu,uu,uu],[(0,some (.var [.d (.rs (5,0) p2),.d (.rs (4,0) p3),.d (.rs (3,0) p4)]))],1,[]⟩
def Cy (p0 p1 p2 p3 p4 p5 p6 p7 p8:Int)(p9 p10 p11 p12 p13:List D):Option Ret:=R 132 Tryz.f132 [((Go.Func.params Tryz.f132).toList.getD 0 0)] (zK Tryz.f132 5) ⟨[.ref 0 0 0,uu,uu,uu,uu,.asl 1 none,uu,uu,uu,uu,uu,uu,uu,uu,uu,uu,uu,uu,uu,uu,uu,uu,.d (iN p0),.d (iN p1),uu,uu,uu,uu,uu,uu,uu,uu,uu,uu,uu,uu,uu,uu,uu,uu,uu,uu,uu,uu,uu,uu],[(0,some (.var [.asl 2 none,.d (iN p2),.d (iN p3),.d (iN p4),.d (iN p5),.d (iN p6),.d (iN p7),.d (iN p8),.d (.rs (5,0) p9),.d (.rs (4,0) p10),.d (.rs (3,0) p11)])),(1,some (.arr (1,0) p12)),(2,some (.arr (5,0) p13))],3,[.ref 0 0 0]⟩
def AK (p0:List D)(p1 p2:Int)(p3 p4 p5:List D):Option Ret:=R 137 Tryz.f137 [((Go.Func.params Tryz.f137).toList.getD 0 0)] (zK Tryz.f137 4) ⟨[.ref 0 0 0,uu,uu,uu,uu,uu,uu,.asl 1 none,.asl 2 none,uu,uu,uu,uu,uu,uu,uu,uu,uu,uu,.d (.rs (5,0) p0),.d (iN p1),.d (iN p2),uu,uu,uu,uu,uu,uu,uu,uu,uu,uu,uu,uu,uu,uu,uu,uu,uu,uu,uu,uu,uu,uu,uu,uu,uu,uu,uu,uu,uu,uu,uu,uu,uu,uu,uu,uu,uu,uu,uu,uu,uu,uu,uu,uu,uu],[(0,some (.var [.asl 3 none])),(1,some (.arr (1,0) p3)),(2,some (.arr (1,0) p4)),(3,some (.arr (5,0) p5))],4,[.ref 0 0 0]⟩
def GE (p0:List D)(p1 p2 p3:Int):Option Ret:=R 140 Tryz.f140 [] (zK Tryz.f140 5) ⟨[.d (.rs (1,0) p0),.d (iN p1),uu,uu,uu,uu,uu,.d (iN p2),.d (iN p3),uu,uu,uu,uu,uu,uu,uu,uu,uu,uu,uu,uu,uu,uu,uu,uu,uu,uu,uu,uu,uu,uu,uu,uu,uu,uu,uu,uu,uu,uu,uu,uu,uu,uu,uu,uu,uu,uu,uu,uu,uu,uu,uu,uu,uu,uu],[],0,[]⟩
def CJ (p0:Int)(p1:List D)(p2 p3:Int):Option Ret:=R 142 Tryz.f142 [87] (zK Tryz.f142 2) ⟨[.ref 0 0 0,uu,.ref 1 0 0,.d (iN p0),uu,uu,uu,uu,uu,uu,uu,uu,uu,uu,uu,uu,uu,uu,uu,uu,uu,uu,uu,uu,uu,uu,uu,uu,uu,uu,uu,uu,uu,uu,uu,uu,uu,uu,uu,uu,uu,uu,uu,uu,uu,uu,uu,uu,uu,uu,uu,uu,uu,uu,uu,uu,uu,uu,uu,uu],[(0,some (.var [.d (.rs (1,0) p1),.d (iN p2),.d (iN p3)])),(1,some (.var [.d .nl,.d .nl,.d .nl]))],2,[.ref 0 0 0]⟩
def BZ (p0:List D)(p1:Int)(p2 p3 p4:List D):Option Ret:=R 148 Tryz.f148 [((Go.Func.params Tryz.f148).toList.getD 0 0)] (zK Tryz.f148 3) ⟨[.ref 0 0 0,uu,.d (.rs (1,0) p0),uu,.ref 1 0 0,uu,uu,.asl 2 none,.d (iN p1),uu,uu,uu,uu,uu,uu,uu,uu,uu,uu,uu,uu,uu,uu,uu,uu,uu,uu,uu,uu,uu,uu,uu,uu,uu,uu,uu,uu,uu,uu,uu,uu,uu,uu,uu,uu,uu,uu,uu,uu,uu,uu,uu,uu,uu,uu,uu,uu,uu,uu,uu,uu,uu,uu],[(0,some (.var [.asl 3 none])),(1,some (.var [.d (.rs (5,0) p2)])),(2,some (.arr (1,0) p3)),(3,some (.arr (5,0) p4))],4,[.ref 0 0 0]⟩
def Eu (p0:List D)(p1:Int)(p2 p3:List D):Option Ret:=R 149 Tryz.f149 [] (zK Tryz.f149 3) ⟨[uu,.d (.rs (1,0) p0),.ref 0 0 0,uu,uu,.asl 1 none,.d (iN p1),uu,uu,uu,uu,uu,uu,uu,uu,uu,uu,uu,uu,uu,uu,uu,uu,uu,uu,uu,uu,uu,uu,uu,uu,uu,uu,uu,uu,uu,uu,uu,uu,uu,uu,uu,uu,uu,uu,uu,uu,uu,uu,uu,uu,uu,uu,uu,uu,uu,uu,uu,uu,uu,uu,uu,uu],[(0,some (.var [.d (.rs (5,0) p2)])),(1,some (.arr (1,0) p3))],2,[]⟩
def BJ (p0:Int)(p1 p2:List D):Option Ret:=R 149 Tryz.f149 [] (zK Tryz.f149 7) ⟨[uu,uu,.ref 0 0 0,uu,uu,.asl 1 none,uu,.d (iN p0),uu,uu,uu,uu,uu,uu,uu,uu,uu,uu,uu,uu,uu,uu,uu,uu,uu,uu,uu,uu,uu,uu,uu,uu,uu,uu,uu,uu,uu,uu,uu,uu,uu,uu,uu,uu,uu,uu,uu,uu,uu,uu,uu,uu,uu,uu,uu,uu,uu,uu,uu,uu,uu,uu,uu],[(0,some (.var [.d (.rs (5,0) p1)])),(1,some (.arr (1,0) p2))],2,[]⟩
def JJ (p0 p1:Int)(p2:List D)(p3 p4:Int):Option Ret:=R 154 Tryz.f154 [87] (zK Tryz.f154 4) ⟨[.ref 0 0 0,uu,.ref 1 0 0,.ref 2 0 0,.d (iN p0),.d (iN p1),uu,uu,uu,uu,uu,uu,uu,uu,uu,uu,uu,uu,uu],[(0,some (.var [.d (.rs (1,0) p2),.d (iN p3),.d (iN p4)])),(1,some (.var [.d .nl])),(2,some (.var [.d .nl]))],3,[.ref 0 0 0]⟩
def Di (p0 p1:Int)(p2:List D)(p3 p4:Int)(p5:List D):Option Ret:=R 154 Tryz.f154 [87] (zK Tryz.f154 4) ⟨[.ref 0 0 0,uu,.ref 1 0 0,.ref 2 0 0,.d (iN p0),.d (iN p1),uu,uu,uu,uu,uu,uu,uu,uu,uu,uu,uu,uu,uu],[(0,some (.var [.d (.rs (1,0) p2),.d (iN p3),.d (iN p4)])),(1,some (.var [.d .nl])),(2,some (.var [.asl 3 none])),(3,some (.arr (5,0) p5))],4,[.ref 0 0 0]⟩
def Gc (p0 p1:Int)(p2:List D)(p3 p4:Int)(p5 p6 p7:List D)(p8 p9 p10 p11 p12 p13 p14 p15 p16 p17 p18 p19 p20 p21:Int)(p22:List D):Option Ret:=R 172 Tryz.f172 [87] (zK Tryz.f172 2) ⟨[.ref 0 0 0,uu,uu,.d (iN p0),uu,.ref 1 0 0,.ref 2 0 0,uu,.ref 3 0 0,.d (iN p1),uu,uu,uu,uu,uu,uu,uu,uu,uu,uu,uu,uu,uu,uu,uu,uu,uu,uu,uu],[(0,some (.var [.d (.rs (1,0) p2),.d (iN p3),.d (iN p4)])),(1,some (.var [.d (.rs (5,0) p5),.d (.rs (4,0) p6),.d (.rs (3,0) p7)])),(2,some (.var [.asl 4 none,.d (iN p8),.d (iN p9),.d (iN p10),.d (iN p11),.d (iN p12),.d (iN p13),.d (iN p14)])),(3,some (.var [.d .nl,.d (iN p15),.d (iN p16),.d (iN p17),.d (iN p18),.d (iN p19),.d (iN p20),.d (iN p21)])),(4,some (.arr (5,0) p22))],5,[.ref 0 0 0]⟩
def D6 (p0:List D)(p1:ByteArray)(p2 p3:Int):Option Ret:=R 178 Tryz.f178 [] (zK Tryz.f178 2) ⟨[.d (.rs (3,0) p0),.fn 179 [.rp (1,1) [.str p1] 0 0],uu,uu,uu,uu,uu,.d (iN p2),.d (iN p3),uu,uu,uu,uu,uu,uu,uu,uu,uu,uu],[],0,[]⟩
def Ck (p0 p1:Int)(p2:List D):Option Ret:=R 183 Tryz.f183 [96] (zK Tryz.f183 1) ⟨[.asl 0 none,uu,.d (iN p0),.d (iN p1),uu,uu,uu,uu,uu,uu,uu,uu,uu,uu,uu,uu,uu,uu,uu,uu,uu,uu,uu,uu,uu,uu,uu,uu],[(0,some (.arr (1,0) p2))],1,[.asl 0 none]⟩
def Dv (p0 p1:List D)(p2 p3:Int):Option Ret:=R 188 Tryz.f188 [] (zK Tryz.f188 2) ⟨[.d (.rs (1,0) p0),.fn 136 [.rp (1,1) [.rs (5,0) p1] 0 0],uu,uu,uu,uu,uu,.d (iN p2),.d (iN p3),uu,uu,uu,uu,uu,uu,uu,uu,uu,uu],[],0,[]⟩
def FW (p0:List D)(p1 p2:Int)(p3 p4:List D):Option Ret:=R 189 Tryz.f189 [] (zK Tryz.f189 3) ⟨[uu,uu,.ref 0 0 0,uu,uu,.asl 1 none,uu,uu,uu,uu,uu,uu,uu,uu,.d (.rs (1,0) p0),.d (iN p1),.d (iN p2),uu,uu,uu,uu,uu,uu,uu,uu,uu,uu,uu,uu,uu,uu,uu,uu,uu,uu,uu,uu,uu,uu,uu,uu,uu,uu,uu,uu,uu,uu,uu,uu,uu,uu,uu,uu,uu,uu,uu,uu,uu,uu,uu,uu,uu],[(0,some (.var [.d (.rs (5,0) p3)])),(1,some (.arr (1,0) p4))],2,[]⟩
def Ct (p0:Int)(p1 p2:List D):Option Ret:=R 189 Tryz.f189 [] (zK Tryz.f189 8) ⟨[uu,uu,.ref 0 0 0,uu,uu,.asl 1 none,uu,uu,.d (iN p0),uu,uu,uu,uu,uu,uu,uu,uu,uu,uu,uu,uu,uu,uu,uu,uu,uu,uu,uu,uu,uu,uu,uu,uu,uu,uu,uu,uu,uu,uu,uu,uu,uu,uu,uu,uu,uu,uu,uu,uu,uu,uu,uu,uu,uu,uu,uu,uu,uu,uu,uu,uu,uu],[(0,some (.var [.d (.rs (5,0) p1)])),(1,some (.arr (1,0) p2))],2,[]⟩
def AL (p0:ByteArray)(p1:Int)(p2 p3 p4 p5:List D):Option Ret:=R 191 Tryz.f191 [] (zK Tryz.f191 9) ⟨[uu,.d (.str p0),.ref 0 0 0,uu,.ref 1 0 0,uu,uu,uu,.asl 2 none,.ref 3 0 0,.asl 4 none,.d (iN p1),uu,uu,uu,uu,uu,uu,uu,uu,uu,uu,uu,uu,uu,uu,uu,uu,uu,uu,uu,uu,uu,uu,uu,uu,uu,uu,uu,uu,uu,uu,uu,uu,uu,uu,uu,uu,uu,uu,uu,uu,uu,uu,uu,uu,uu,uu,uu,uu,uu,uu,uu,uu,uu,uu,uu,uu,uu,uu,uu,uu,uu,uu,uu,uu,uu,uu,uu,uu,uu,uu,uu,uu,uu,uu,uu,uu,uu,uu,uu,uu,uu,uu,uu,uu,uu,uu,uu,uu,uu,uu,uu,uu,uu,uu,uu,uu,uu,uu,uu,uu,uu,uu,uu,uu,uu,uu,uu,uu,uu,uu,uu,uu,uu,uu,uu,uu,uu,uu,uu,uu,uu,uu,uu,uu,uu,uu,uu,uu,uu,uu,uu,uu,uu,uu,uu,uu,uu,uu,uu,uu,uu,uu,uu,uu,uu,uu,uu,uu,uu,uu,uu,uu,uu,uu,uu,uu,uu,uu],[(0,some (.var [.d (.rs (5,0) p2)])),(1,some (.var [.d .nl])),(2,some (.arr (1,0) p3)),(3,some (.var [.asl 5 none])),(4,some (.arr (2,2) p4)),(5,some (.arr (5,0) p5))],6,[]⟩
def AE (p0:ByteArray)(p1:Nat)(p2:Int)(p3 p4 p5 p6:List D):Option Ret:=R 191 Tryz.f191 [] (zK Tryz.f191 9) ⟨[uu,.d (.str p0),.ref 0 0 0,uu,.ref 1 0 0,uu,uu,uu,.asl 2 none,.ref 3 0 0,.asl 4 (some (0,p1)),.d (iN p2),uu,uu,uu,uu,uu,uu,uu,uu,uu,uu,uu,uu,uu,uu,uu,uu,uu,uu,uu,uu,uu,uu,uu,uu,uu,uu,uu,uu,uu,uu,uu,uu,uu,uu,uu,uu,uu,uu,uu,uu,uu,uu,uu,uu,uu,uu,uu,uu,uu,uu,uu,uu,uu,uu,uu,uu,uu,uu,uu,uu,uu,uu,uu,uu,uu,uu,uu,uu,uu,uu,uu,uu,uu,uu,uu,uu,uu,uu,uu,uu,uu,uu,uu,uu,uu,uu,uu,uu,uu,uu,uu,uu,uu,uu,uu,uu,uu,uu,uu,uu,uu,uu,uu,uu,uu,uu,uu,uu,uu,uu,uu,uu,uu,uu,uu,uu,uu,uu,uu,uu,uu,uu,uu,uu,uu,uu,uu,uu,uu,uu,uu,uu,uu,uu,uu,uu,uu,uu,uu,uu,uu,uu,uu,uu,uu,uu,uu,uu,uu,uu,uu,uu,uu,uu,uu,uu,uu,uu],[(0,some (.var [.d (.rs (5,0) p3)])),(1,some (.var [.d .nl])),(2,some (.arr (1,0) p4)),(3,some (.var [.asl 5 none])),(4,some (.arr (2,2) p5)),(5,some (.arr (5,0) p6))],6,[]⟩
def DF (p0:ByteArray)(p1 p2 p3:Int)(p4 p5 p6 p7:List D):Option Ret:=R 191 Tryz.f191 [] (zK Tryz.f191 27) ⟨[uu,.d (.str p0),.ref 0 0 0,uu,.ref 1 0 0,uu,uu,uu,.asl 2 none,.ref 3 0 0,.asl 4 none,.d (iN p1),.d (iN p2),uu,uu,.d (iN p3),uu,uu,uu,uu,uu,uu,uu,uu,uu,uu,uu,uu,uu,uu,uu,uu,uu,uu,uu,uu,uu,uu,uu,uu,uu,uu,uu,uu,uu,uu,uu,uu,uu,uu,uu,uu,uu,uu,uu,uu,uu,uu,uu,uu,uu,uu,uu,uu,uu,uu,uu,uu,uu,uu,uu,uu,uu,uu,uu,uu,uu,uu,uu,uu,uu,uu,uu,uu,uu,uu,uu,uu,uu,uu,uu,uu,uu,uu,uu,uu,uu,uu,uu,uu,uu,uu,uu,uu,uu,uu,uu,uu,uu,uu,uu,uu,uu,uu,uu,uu,uu,uu,uu,uu,uu,uu,uu,uu,uu,uu,uu,uu,uu,uu,uu,uu,uu,uu,uu,uu,uu,uu,uu,uu,uu,uu,uu,uu,uu,uu,uu,uu,uu,uu,uu,uu,uu,uu,uu,uu,uu,uu,uu,uu,uu,uu,uu,uu,uu,uu,uu,uu,uu,uu],[(0,some (.var [.d (.rs (5,0) p4)])),(1,some (.var [.d .nl])),(2,some (.arr (1,0) p5)),(3,some (.var [.asl 5 none])),(4,some (.arr (2,2) p6)),(5,some (.arr (5,0) p7))],6,[]⟩
def CG (p0:ByteArray)(p1:Nat)(p2 p3 p4:Int)(p5 p6 p7 p8:List D):Option Ret:=R 191 Tryz.f191 [] (zK Tryz.f191 27) ⟨[uu,.d (.str p0),.ref 0 0 0,uu,.ref 1 0 0,uu,uu,uu,.asl 2 none,.ref 3 0 0,.asl 4 (some (0,p1)),.d (iN p2),.d (iN p3),uu,uu,.d (iN p4),uu,uu,uu,uu,uu,uu,uu,uu,uu,uu,uu,uu,uu,uu,uu,uu,uu,uu,uu,uu,uu,uu,uu,uu,uu,uu,uu,uu,uu,uu,uu,uu,uu,uu,uu,uu,uu,uu,uu,uu,uu,uu,uu,uu,uu,uu,uu,uu,uu,uu,uu,uu,uu,uu,uu,uu,uu,uu,uu,uu,uu,uu,uu,uu,uu,uu,uu,uu,uu,uu,uu,uu,uu,uu,uu,uu,uu,uu,uu,uu,uu,uu,uu,uu,uu,uu,uu,uu,uu,uu,uu,uu,uu,uu,uu,uu,uu,uu,uu,uu,uu,uu,uu,uu,uu,uu,uu,uu,uu,uu,uu,uu,uu,uu,uu,uu,uu,uu,uu,uu,uu,uu,uu,uu,uu,uu,uu,uu,uu,uu,uu,uu,uu,uu,uu,uu,uu,uu,uu,uu,uu,uu,uu,uu,uu,uu,uu,uu,uu,uu,uu,uu,uu,uu],[(0,some (.var [.d (.rs (5,0) p5)])),(1,some (.var [.d .nl])),(2,some (.arr (1,0) p6)),(3,some (.var [.asl 5 none])),(4,some (.arr (2,2) p7)),(5,some (.arr (5,0) p8))],6,[]⟩
def Gk (p0:List D)(p1:Int)(p2:List D):Option Ret:=R 193 Tryz.f193 [] (zK Tryz.f193 4) ⟨[uu,.d (.rs (1,0) p0),.ref 0 0 0,uu,.ref 1 0 0,uu,uu,.d (iN p1),uu,uu,uu,uu,uu,uu,uu,uu,uu,uu,uu,uu,uu,uu,uu,uu,uu,uu,uu,uu,uu,uu,uu,uu,uu,uu,uu,uu,uu,uu,uu,uu,uu,uu,uu,uu,uu,uu,uu,uu,uu,uu,uu,uu,uu,uu,uu,uu,uu,uu,uu,uu,uu,uu,uu,uu,uu,uu,uu,uu,uu,uu,uu,uu,uu,uu,uu,uu,uu,uu,uu,uu,uu,uu],[(0,some (.var [.d (.rs (5,0) p2)])),(1,some (.var [.d .nl,.d .nl,.d .nl]))],2,[]⟩
def IE (p0:List D)(p1 p2:Int)(p3:List D):Option Ret:=R 193 Tryz.f193 [] (zK Tryz.f193 10) ⟨[uu,.d (.rs (1,0) p0),uu,uu,.ref 0 0 0,uu,uu,uu,.ref 1 0 0,.d (iN p1),uu,uu,uu,uu,uu,uu,uu,uu,uu,uu,uu,uu,uu,uu,uu,uu,uu,uu,uu,uu,uu,uu,uu,uu,uu,uu,uu,uu,uu,uu,uu,uu,uu,uu,uu,uu,uu,uu,uu,uu,uu,uu,uu,uu,uu,uu,uu,uu,uu,uu,uu,uu,uu,uu,uu,uu,uu,uu,uu,uu,uu,uu,uu,uu,uu,uu,uu,uu,uu,uu,uu,uu],[(0,some (.var [.d .nl,.d .nl,.d .nl])),(1,some (.var [.asl 2 none,.d .nl,.d .nl,.d (iN p2)])),(2,some (.arr (5,0) p3))],3,[]⟩
def D7 (p0:List D)(p1 p2:Int)(p3 p4 p5:List D):Option Ret:=R 193 Tryz.f193 [] (zK Tryz.f193 10) ⟨[uu,.d (.rs (1,0) p0),uu,uu,.ref 0 0 0,uu,uu,uu,.ref 1 0 0,.d (iN p1),uu,uu,uu,uu,uu,uu,uu,uu,uu,uu,uu,uu,uu,uu,uu,uu,uu,uu,uu,uu,uu,uu,uu,uu,uu,uu,uu,uu,uu,uu,uu,uu,uu,uu,uu,uu,uu,uu,uu,uu,uu,uu,uu,uu,uu,uu,uu,uu,uu,uu,uu,uu,uu,uu,uu,uu,uu,uu,uu,uu,uu,uu,uu,uu,uu,uu,uu,uu,uu,uu,uu,uu],[(0,some (.var [.d .nl,.d .nl,.d .nl])),(1,some (.var [.asl 2 none,.asl 3 none,.asl 4 none,.d (iN p2)])),(2,some (.arr (5,0) p3)),(3,some (.arr (4,0) p4)),(4,some (.arr (3,0) p5))],5,[]⟩
def Fx (p0:Int)(p1:ByteArray):Option Ret:=R 202 Tryz.f202 [] (zK Tryz.f202 6) ⟨[.d (iN p0),uu,uu,.d (.str p1),uu,uu,uu,uu,uu,uu,uu,uu,uu,uu,uu,uu,uu,uu,uu,uu,uu,uu,uu,uu,uu],[],0,[]⟩
def Dh (p0 p1 p2 p3 p4 p5 p6 p7 p8:Int)(p9 p10 p11 p12:List D):Option Ret:=R 207 Tryz.f207 [((Go.Func.params Tryz.f207).toList.getD 0 0)] (zK Tryz.f207 1) ⟨[.ref 0 0 0,.d (iN p0),.d (iN p1),uu,uu,uu,uu,uu,uu,uu,uu,uu,uu,uu,uu,uu,uu,uu,uu,uu,uu,uu,uu,uu,uu,uu,uu,uu,uu,uu,uu,uu,uu,uu,uu,uu,uu,uu,uu,uu,uu,uu,uu,uu,uu,uu,uu,uu,uu,uu,uu,uu,uu,uu],[(0,some (.var [.asl 1 none,.d (iN p2),.d (iN p3),.d (iN p4),.d (iN p5),.d (iN p6),.d (iN p7),.d (iN p8),.d (.rs (5,0) p9),.d (.rs (4,0) p10),.d (.rs (3,0) p11)])),(1,some (.arr (5,0) p12))],2,[.ref 0 0 0]⟩
def GU (p0:List D)(p1 p2:Int)(p3:List D):Option Ret:=R 210 Tryz.f210 [((Go.Func.params Tryz.f210).toList.getD 0 0)] (zK Tryz.f210 3) ⟨[.ref 0 0 0,.d (.rs (1,0) p0),uu,uu,uu,.d (iN p1),.d (iN p2),uu,uu,uu,uu,uu,uu,uu,uu,uu,uu,uu,uu,uu,uu,uu,uu,uu,uu,uu],[(0,some (.var [.asl 1 none])),(1,some (.arr (5,0) p3))],2,[.ref 0 0 0]⟩
def I9 (p0 p1:Int)(p2:List D):Option Ret:=R 216 Tryz.f216 [] (zK Tryz.f216 1) ⟨[uu,.d (iN p0),.d (iN p1),.ref 0 0 0,uu,uu,uu,uu,uu,uu,uu,uu,uu,uu,uu,uu,uu,uu,uu,uu,uu,uu,uu,uu,uu,uu,uu,uu,uu,uu,uu,uu,uu,uu,uu,uu,uu,uu,uu,uu],[(0,some (.var [.d (.rs (5,0) p2)]))],1,[]⟩
def GW (p0 p1 p2 p3 p4 p5 p6 p7 p8:Int)(p9 p10 p11 p12 p13:List D):Option Ret:=R 219 Tryz.f219 [((Go.Func.params Tryz.f219).toList.getD 1 0)] (zK Tryz.f219 3) ⟨[uu,.ref 0 0 0,uu,.d (iN p0),.ref 1 0 0,uu,uu,uu,uu,.asl 2 none,.d (iN p1),uu,uu,uu,uu,uu,uu,uu,uu,uu,uu,uu,uu,uu,uu,uu,uu,uu,uu,uu,uu,uu,uu,uu,uu,uu,uu,uu,uu,uu,uu,uu,uu,uu,uu,uu,uu,uu,uu,uu,uu,uu,uu,uu],[(0,some (.var [.asl 3 none,.d (iN p2),.d (iN p3),.d (iN p4),.d (iN p5),.d (iN p6),.d (iN p7),.d (iN p8)])),(1,some (.var [.d (.rs (5,0) p9),.d (.rs (4,0) p10),.d (.rs (3,0) p11)])),(2,some (.arr (1,0) p12)),(3,some (.arr (5,0) p13))],4,[.ref 0 0 0]⟩
def Cj (p0:List D)(p1 p2 p3:Int):Option Ret:=R 221 Tryz.f221 [] (zK Tryz.f221 2) ⟨[.d (.rs (1,0) p0),.d (.int .u8 p1),uu,uu,uu,uu,uu,.d (iN p2),.d (iN p3),uu,uu,uu,uu,uu,uu,uu,uu,uu,uu],[],0,[]⟩
def EU (p0:List D)(p1 p2:Int)(p3:List D):Option Ret:=R 222 Tryz.f222 [((Go.Func.params Tryz.f222).toList.getD 0 0)] (zK Tryz.f222 3) ⟨[.ref 0 0 0,.d (.rs (1,0) p0),uu,uu,uu,.d (iN p1),.d (iN p2),uu,uu,uu,uu,uu,uu,uu,uu,uu,uu,uu,uu,uu,uu,uu,uu,uu,uu],[(0,some (.var [.asl 1 none])),(1,some (.arr (5,0) p3))],2,[.ref 0 0 0]⟩
def AM (p0:Int)(p1 p2:List D)(p3 p4:Int)(p5:List D):Option Ret:=R 224 Tryz.f224 [((Go.Func.params Tryz.f224).toList.getD 0 0)] (zK Tryz.f224 2) ⟨[.ref 0 0 0,.d (iN p0),.d (.rs (1,0) p1),uu,uu,uu,uu,uu,uu,uu,uu,.d (.rs (1,0) p2),.d (iN p3),.d (iN p4),uu,uu,uu,uu,uu,uu,uu,uu,uu,uu,uu,uu,uu,uu,uu,uu,uu,uu,uu,uu,uu,uu,uu,uu,uu,uu,uu,uu,uu,uu,uu,uu,uu,uu,uu,uu,uu,uu,uu,uu,uu,uu,uu,uu,uu,uu,uu,uu,uu,uu,uu,uu,uu,uu,uu,uu,uu,uu,uu,uu,uu,uu,uu,uu,uu,uu,uu,uu,uu,uu,uu,uu,uu,uu],[(0,some (.var [.asl 1 none])),(1,some (.arr (5,0) p5))],2,[.ref 0 0 0]⟩
def Bz (p0:List D)(p1:ByteArray)(p2 p3:Int):Option Ret:=R 225 Tryz.f225 [] (zK Tryz.f225 2) ⟨[.d (.rs (1,0) p0),.d (.str p1),uu,uu,uu,uu,uu,.d (iN p2),.d (iN p3),uu,uu,uu,uu,uu,uu,uu,uu,uu,uu],[],0,[]⟩
def CQ (p0 p1:ByteArray)(p2 p3:Int):Option Ret:=R 227 Tryz.f227 [] (zK Tryz.f227 8) ⟨[.d (.str p0),uu,uu,uu,.d (.str p1),.d (iN p2),.d (iN p3),uu,uu,uu,uu,uu,uu,uu,uu,uu,uu,uu,uu,uu,uu,uu,uu,uu,uu,uu,uu,uu,uu,uu,uu,uu,uu,uu,uu,uu,uu,uu,uu,uu,uu,uu,uu,uu,uu,uu,uu,uu,uu,uu,uu,uu,uu,uu,uu,uu,uu,uu,uu,uu,uu],[],0,[]⟩
def Fw (p0:Int)(p1 p2:List D):Option Ret:=R 228 Tryz.f228 [] (zK Tryz.f228 2) ⟨[uu,.d (iN p0),.ref 0 0 0,uu,uu,uu,.asl 1 none,uu,uu,uu,uu,uu,uu,uu,uu,uu,uu,uu,uu,uu,uu,uu,uu,uu,uu,uu,uu,uu,uu,uu,uu,uu,uu,uu,uu,uu,uu,uu,uu],[(0,some (.var [.d (.rs (5,0) p1)])),(1,some (.arr (1,0) p2))],2,[]⟩
def DQ (p0:ByteArray)(p1 p2:List D)(p3 p4:Int)(p5 p6 p7:List D):Option Ret:=R 229 Tryz.f229 [((Go.Func.params Tryz.f229).toList.getD 0 0)] (zK Tryz.f229 1) ⟨[.ref 0 0 0,.d (.str p0),.d (.rs (1,0) p1),.d (.rs (1,0) p2),uu,uu,uu,uu,.d (iN p3),uu,uu,uu,uu,uu,uu,uu,uu,uu,uu,uu,uu,uu,uu,uu,uu,uu,uu,uu,uu,uu,uu,uu,uu,uu,uu,uu,uu,uu,uu,uu,uu,uu,uu,uu,uu,uu,uu,uu,uu,uu,uu,uu,uu,uu,uu,uu,uu,uu,uu,uu,uu,uu,uu,uu],[(0,some (.var [.asl 1 none,.asl 2 none,.asl 3 none,.d (iN p4)])),(1,some (.arr (5,0) p5)),(2,some (.arr (4,0) p6)),(3,some (.arr (3,0) p7))],4,[.ref 0 0 0]⟩
def CI (p0:List D)(p1 p2:Int)(p3 p4 p5 p6:List D):Option Ret:=R 231 Tryz.f231 [((Go.Func.params Tryz.f231).toList.getD 0 0)] (zK Tryz.f231 5) ⟨[.ref 0 0 0,.d (.rs (1,0) p0),uu,uu,uu,.asl 1 none,.d (iN p1),uu,uu,uu,uu,uu,uu,uu,uu,uu,uu,uu,uu,uu,uu,uu,uu,uu,uu,uu,uu,uu,uu,uu,uu,uu,uu,uu,uu,uu,uu,uu,uu,uu,uu,uu,uu,uu,uu,uu,uu,uu,uu,uu,uu,uu,uu,uu,uu,uu,uu,uu,uu,uu,uu,uu,uu,uu,uu,uu,uu,uu,uu,uu,uu,uu,uu,uu,uu,uu,uu,uu,uu,uu],[(0,some (.var [.asl 2 none,.asl 3 none,.asl 4 none,.d (iN p2)])),(1,some (.arr (1,0) p3)),(2,some (.arr (5,0) p4)),(3,some (.arr (4,0) p5)),(4,some (.arr (3,0) p6))],5,[.ref 0 0 0]⟩
def Cn (p0 p1:Int)(p2 p3 p4 p5:List D):Option Ret:=R 231 Tryz.f231 [((Go.Func.params Tryz.f231).toList.getD 0 0)] (zK Tryz.f231 12) ⟨[.ref 0 0 0,uu,uu,uu,uu,.asl 1 none,uu,uu,uu,.d (iN p0),uu,uu,uu,uu,uu,uu,uu,uu,uu,uu,uu,uu,uu,uu,uu,uu,uu,uu,uu,uu,uu,uu,uu,uu,uu,uu,uu,uu,uu,uu,uu,uu,uu,uu,uu,uu,uu,uu,uu,uu,uu,uu,uu,uu,uu,uu,uu,uu,uu,uu,uu,uu,uu,uu,uu,uu,uu,uu,uu,uu,uu,uu,uu,uu,uu,uu,uu,uu,uu,uu],[(0,some (.var [.asl 2 none,.asl 3 none,.asl 4 none,.d (iN p1)])),(1,some (.arr (1,0) p2)),(2,some (.arr (5,0) p3)),(3,some (.arr (4,0) p4)),(4,some (.arr (3,0) p5))],5,[.ref 0 0 0]⟩
def DR (p0 p1 p2:Int)(p3 p4 p5 p6:List D):Option Ret:=R 231 Tryz.f231 [((Go.Func.params Tryz.f231).toList.getD 0 0)] (zK Tryz.f231 15) ⟨[.ref 0 0 0,uu,uu,uu,uu,.asl 1 none,uu,uu,uu,.d (iN p0),.d (iN p1),uu,uu,uu,uu,uu,uu,uu,uu,uu,uu,uu,uu,uu,uu,uu,uu,uu,uu,uu,uu,uu,uu,uu,uu,uu,uu,uu,uu,uu,uu,uu,uu,uu,uu,uu,uu,uu,uu,uu,uu,uu,uu,uu,uu,uu,uu,uu,uu,uu,uu,uu,uu,uu,uu,uu,uu,uu,uu,uu,uu,uu,uu,uu,uu,uu,uu,uu,uu,uu],[(0,some (.var [.asl 2 none,.asl 3 none,.asl 4 none,.d (iN p2)])),(1,some (.arr (1,0) p3)),(2,some (.arr (5,0) p4)),(3,some (.arr (4,0) p5)),(4,some (.arr (3,0) p6))],5,[.ref 0 0 0]⟩
def GQ (p0:ByteArray)(p1:Int)(p2:List D):Option Ret:=R 232 Tryz.f232 [] (zK Tryz.f232 3) ⟨[.d (.str p0),uu,uu,.asl 0 none,.d (iN p1),uu,uu,uu,uu,uu,uu,uu,uu,uu,uu,uu,uu],[(0,some (.arr (1,0) p2))],1,[]⟩
def Fg (p0 p1:List D)(p2 p3:Int)(p4 p5 p6:List D):Option Ret:=R 236 Tryz.f236 [((Go.Func.params Tryz.f236).toList.getD 0 0)] (zK Tryz.f236 1) ⟨[.ref 0 0 0,.d (.rs (1,0) p0),.d (.rs (1,1) p1),uu,uu,uu,.d (iN p2),uu,uu,uu,uu,uu,uu,uu,uu,uu,uu,uu,uu,uu,uu,uu,uu,uu,uu,uu,uu,uu,uu,uu,uu,uu],[(0,some (.var [.asl 1 none,.asl 2 none,.asl 3 none,.d (iN p3)])),(1,some (.arr (5,0) p4)),(2,some (.arr (4,0) p5)),(3,some (.arr (3,0) p6))],4,[.ref 0 0 0]⟩
def Dn (p0:List D)(p1 p2:Int)(p3 p4 p5 p6:List D):Option Ret:=R 244 Tryz.f244 [((Go.Func.params Tryz.f244).toList.getD 0 0)] (zK Tryz.f244 25) ⟨[.ref 0 0 0,uu,.d (.rs (1,1) p0),uu,uu,uu,uu,uu,uu,.asl 1 none,uu,uu,.d (iN p1),uu,uu,uu,uu,uu,uu,uu,uu,uu,uu,uu,uu,uu,uu,uu,uu,uu,uu,uu,uu,uu,uu,uu,uu,uu,uu,uu,uu,uu,uu,uu,uu,uu,uu,uu,uu,uu,uu,uu,uu,uu,uu,uu,uu,uu,uu,uu,uu,uu,uu,uu,uu,uu,uu,uu,uu,uu,uu,uu,uu,uu,uu,uu,uu,uu,uu,uu,uu,uu,uu,uu,uu,uu,uu,uu,uu,uu,uu,uu,uu,uu,uu,uu,uu,uu,uu,uu,uu,uu,uu,uu,uu,uu,uu,uu,uu,uu,uu,uu,uu,uu,uu,uu,uu,uu,uu,uu,uu,uu,uu,uu,uu,uu,uu,uu,uu,uu,uu,uu],[(0,some (.var [.asl 2 none,.asl 3 none,.asl 4 none,.d (iN p2)])),(1,some (.arr (1,0) p3)),(2,some (.arr (5,0) p4)),(3,some (.arr (4,0) p5)),(4,some (.arr (3,0) p6))],5,[.ref 0 0 0]⟩
def Au (p0:List D)(p1 p2:Int)(p3 p4:List D):Option Ret:=R 247 Tryz.f247 [] (zK Tryz.f247 4) ⟨[uu,uu,uu,.mp 0,.asl 1 none,uu,uu,uu,uu,uu,uu,uu,.d (.rs (5,0) p0),.d (iN p1),.d (iN p2),uu,uu,uu,uu,uu,uu,uu,uu,uu,uu,uu,uu,uu,uu,uu,uu,uu,uu,uu,uu,uu,uu,uu,uu,uu,uu,uu,uu,uu,uu,uu,uu,uu,uu,uu,uu,uu,uu,uu,uu,uu,uu,uu,uu,uu,uu,uu],[(0,some (.mp [iN 0,iN 0,.str ⟨#[]⟩,iN 0,iN 0] p3)),(1,some (.arr (1,0) p4))],2,[]⟩
def Gb (p0:List D)(p1:ByteArray)(p2:Int):Option Ret:=R 248 Tryz.f248 [] (zK Tryz.f248 2) ⟨[.d (.rs (1,1) p0),.d (.str p1),uu,uu,uu,uu,.d (iN p2),uu,uu,uu,uu,uu,uu,uu,uu,uu,uu,uu,uu,uu,uu,uu,uu,uu,uu,uu,uu,uu,uu,uu,uu,uu,uu,uu],[],0,[]⟩
def I8 (p0:List D)(p1:ByteArray)(p2 p3:Int):Option Ret:=R 248 Tryz.f248 [] (zK Tryz.f248 5) ⟨[.d (.rs (1,1) p0),.d (.str p1),uu,uu,uu,uu,.d (iN p2),.d (iN p3),uu,uu,uu,uu,uu,uu,uu,uu,uu,uu,uu,uu,uu,uu,uu,uu,uu,uu,uu,uu,uu,uu,uu,uu,uu,uu],[],0,[]⟩
def Cz (p0:Int)(p1 p2 p3:List D):Option Ret:=R 252 Tryz.f252 [] (zK Tryz.f252 4) ⟨[uu,.ref 0 0 0,uu,.asl 1 none,.asl 2 none,.d (iN p0),uu,uu,uu,uu,uu,uu,uu,uu,uu,uu,uu,uu,uu,uu,uu,uu,uu,uu,uu,uu,uu,uu,uu,uu,uu,uu,uu,uu,uu,uu,uu,uu,uu,uu,uu,uu,uu,uu,uu,uu,uu,uu,uu,uu,uu,uu,uu,uu,uu,uu,uu,uu,uu,uu,uu,uu,uu,uu,uu,uu,uu,uu,uu,uu],[(0,some (.var [.d (.rs (5,0) p1)])),(1,some (.arr (1,0) p2)),(2,some (.arr (5,0) p3))],3,[]⟩
def AR (p0 p1 p2:Int)(p3 p4 p5:List D)(p6 p7:Int)(p8:ByteArray)(p9 p10:Int):Option Ret:=R 252 Tryz.f252 [] (zK Tryz.f252 16) ⟨[uu,.ref 0 0 0,uu,.asl 1 none,.asl 2 none,.d (iN p0),.ref 3 0 0,.d (iN p1),.d (iN p2),uu,uu,uu,uu,uu,uu,uu,uu,uu,uu,uu,uu,uu,uu,uu,uu,uu,uu,uu,uu,uu,uu,uu,uu,uu,uu,uu,uu,uu,uu,uu,uu,uu,uu,uu,uu,uu,uu,uu,uu,uu,uu,uu,uu,uu,uu,uu,uu,uu,uu,uu,uu,uu,uu,uu,uu,uu,uu,uu,uu,uu],[(0,some (.var [.d (.rs (5,0) p3)])),(1,some (.arr (1,0) p4)),(2,some (.arr (5,0) p5)),(3,some (.var [.d (iN p6),.d (iN p7),.d (.str p8),.d (iN p9),.d (iN p10)]))],4,[]⟩
end
end Go.Eng
/-! the functions as the interpreter has them -/
namespace Go.Eng
open Go.Proofs Go.Proofs.Tryz
set_option maxRecDepth 100000
theorem Zw (p l d:List D)(h:Int)(s:ByteArray)(x e:List D):V 249 [.op [.os (5,0) p,.os (4,0) l,.os (3,0) d,iN h],.str s,.rs (1,0) x,.rs (1,1) e] =
 shd (grd (
 df x.length (some (1)) none) (ck4 236 [.op [.os (5,0) p,.os (4,0) l,.os (3,0) d,iN h],(.rs (1,0) (xL x (1))),.rs (1,1) e] fun a b c f=>(((some ((.tup []),[.op [.os (5,0) a,.os (4,0) b,.os (3,0) c,iN f]])))))) fun T4:Option Ret=>shd (br (kJ s { data:=#[108,101,116] })
 (
 br (decide (ni x.length>=4))
 (grd (df x.length (some (1)) (some (2))) (ck6 231 [.op [.os (5,0) p,.os (4,0) l,.os (3,0) d,iN h],(.rs (1,0) (xL (xK x (2)) (1)))] fun a b c f g=>((grd (df x.length (some (3)) none) (ck4 254 [.op [.os (5,0) b,.os (4,0) c,.os (3,0) f,iN g],.rs (1,0) a,(.rs (1,0) (xL x (3))),.rs (1,1) e] fun i j k m=>(((grd (decide (0<=2)&&decide (2<ni x.length)) (dd x 2 fun n=>
 asI .i64 n fun o=>ck4 244 [.op [.os (5,0) i,.os (4,0) j,.os (3,0) k,iN m],iN o,.rs (1,1) e] fun q r t u=>(((ck3 237 [.op [.os (5,0) q,.os (4,0) r,.os (3,0) t,iN u],(.agg [iN (7),iN (0),iN (1),.str ({ data:=#[] })])] fun _ v w y z=>((some ((.tup []),[.op [.os (5,0) v,.os (4,0) w,.os (3,0) y,iN z]])))))))))))))))
 (some ((.tup []),[.op [.os (5,0) p,.os (4,0) l,.os (3,0) d,iN (1)]])))
 (some ((.tup []),[.op [.os (5,0) p,.os (4,0) l,.os (3,0) d,iN (1)]]))) fun T3:Option Ret=>shd (grd (decide (0<=1)&&decide (1<ni x.length)) (dd x 1 fun a=>
 asI .i64 a fun b=>ck4 244 [.op [.os (5,0) p,.os (4,0) l,.os (3,0) d,iN h],iN b,.rs (1,1) e] fun c f g i=>(((ck3 237 [.op [.os (5,0) c,.os (4,0) f,.os (3,0) g,iN i],(.agg [iN (4),iN (0),iN (0),.str ({ data:=#[] })])] fun j k m n o=>((grd (decide (0<=2)&&decide (2<ni x.length)) (dd x 2 fun q=>
 asI .i64 q fun r=>ck4 244 [.op [.os (5,0) k,.os (4,0) m,.os (3,0) n,iN o],iN r,.rs (1,1) e] fun t u v w=>(((ck3 237 [.op [.os (5,0) t,.os (4,0) u,.os (3,0) v,iN w],(.agg [iN (5),iN (0),iN (0),.str ({ data:=#[] })])] fun y z A B C=>((ck4 253 [.op [.os (5,0) z,.os (4,0) A,.os (3,0) B,iN C],iN j] fun E F G H=>(((grd (decide (0<=3)&&decide (3<ni x.length)) (dd x 3 fun I=>
 asI .i64 I fun J=>ck4 244 [.op [.os (5,0) E,.os (4,0) F,.os (3,0) G,iN H],iN J,.rs (1,1) e] fun K L M N=>(((ck4 253 [.op [.os (5,0) K,.os (4,0) L,.os (3,0) M,iN N],iN y] fun O P Q R=>(((some ((.tup []),[.op [.os (5,0) O,.os (4,0) P,.os (3,0) Q,iN R]])))))))))))))))))))))))) fun T2:Option Ret=>shd (br (kJ s { data:=#[102,110] })
 (
 br (decide (ni x.length>=3))
 (
 grd (decide (0<=1)&&decide (1<ni x.length)) (dd x 1 fun a=>
 asI .i64 a fun b=>ck5 228 [.agg [.rs (5,0) p],iN b] fun c f=>((br (!f)
 (some ((.tup []),[.op [.os (5,0) p,.os (4,0) l,.os (3,0) d,iN (1)]]))
 (ck6 231 [.op [.os (5,0) p,.os (4,0) l,.os (3,0) d,iN h],.rs (1,0) c] fun g i j k m=>((grd (df x.length (some (2)) none) (ck4 254 [.op [.os (5,0) i,.os (4,0) j,.os (3,0) k,iN m],.rs (1,0) g,(.rs (1,0) (xL x (2))),.rs (1,1) e] fun n o q r=>(((some ((.tup []),[.op [.os (5,0) n,.os (4,0) o,.os (3,0) q,iN r]]))))))))))))
 T3)
 T3) fun T1:Option Ret=>
 br (kJ s { data:=#[113,117,111,116,101] })
 (
 br (ni x.length==2)
 (
 grd (decide (0<=1)&&decide (1<ni x.length)) (dd x 1 fun a=>
 asI .i64 a fun b=>ck3 237 [.op [.os (5,0) p,.os (4,0) l,.os (3,0) d,iN h],(.agg [iN (1),iN b,iN (0),.str ({ data:=#[] })])] fun _ c f g i=>((some ((.tup []),[.op [.os (5,0) c,.os (4,0) f,.os (3,0) g,iN i]])))))
 (
 br (kJ s { data:=#[105,102] })
 (
 br (ni x.length==4)
 T2
 (
 br (kJ s { data:=#[100,111] })
 (
 br (decide (ni x.length>=2))
 T4
 T1)
 T1))
 (
 br (kJ s { data:=#[100,111] })
 (
 br (decide (ni x.length>=2))
 T4
 T1)
 T1)))
 (
 br (kJ s { data:=#[105,102] })
 (
 br (ni x.length==4)
 T2
 (
 br (kJ s { data:=#[100,111] })
 (
 br (decide (ni x.length>=2))
 T4
 T1)
 T1))
 (
 br (kJ s { data:=#[100,111] })
 (
 br (decide (ni x.length>=2))
 T4
 T1)
 T1)):=by
 exact(zR Tryz.func249 rfl _).trans (by kernel_rfl)
theorem Y8 (a0_0:List D)(a0_1 a0_2 a0_3 a0_4 a0_5 a0_6 a0_7:Int):V 73 [.agg [.os (5,0) a0_0,iN a0_1,iN a0_2,iN a0_3,iN a0_4,iN a0_5,iN a0_6,iN a0_7]] =
 br (decide (ni a0_0.length>2000))
 (ck7 18 [.agg [.rs (5,0) a0_0,iN a0_1,iN a0_2,iN a0_3,iN a0_4,iN a0_5,iN a0_6,iN a0_7]] fun a b c d e f g h=>((some ((.agg [.os (5,0) a,iN b,iN c,iN d,iN e,iN f,iN g,iN h]),[]))))
 (some ((.agg [.os (5,0) a0_0,iN a0_1,iN a0_2,iN a0_3,iN a0_4,iN a0_5,iN a0_6,iN a0_7]),[])):=by
 exact(zR Tryz.func73 rfl _).trans (by kernel_rfl)
theorem RM (p:List D)(m1 m2 m3 m4 m5 m6 m7:Int) :V 218 [.op [.os (5,0) p,iN m1,iN m2,iN m3,iN m4,iN m5,iN m6,iN m7]] =
 grd (decide (0<=m2)&&decide (m2<ni p.length)) (dd p m2.toNat fun a=>
 tk2 a fun b _ _ c d=>(br (b != 5)
 (some ((.tup [iN (0),.bool false]),[.op [.os (5,0) p,iN m1,iN m2,iN m3,iN m4,iN m5,iN m6,iN m7]]))
 (some ((.tup [iN c,.bool true]),[.op [.os (5,0) p,iN m1,iN d,iN m3,iN m4,iN m5,iN m6,iN m7]])))):=by
 exact(zR Tryz.func218 rfl _).trans (by kernel_rfl)
theorem UC :V 176 [] =
 some ((.os (1,0) [.str ({ data:=#[43] }),.str ({ data:=#[45] }),.str ({ data:=#[42] }),.str ({ data:=#[60] }),.str ({ data:=#[61] }),.str ({ data:=#[99,111,110,115] }),.str ({ data:=#[99,97,114] }),.str ({ data:=#[99,100,114] }),.str ({ data:=#[110,117,108,108,63] }),.str ({ data:=#[112,97,105,114,63] }),.str ({ data:=#[101,113,63] }),.str ({ data:=#[110,111,116] }),.str ({ data:=#[112,114,105,110,116] }),.str ({ data:=#[115,101,108,102] }),.str ({ data:=#[115,101,110,100] }),.str ({ data:=#[114,101,99,118] }),.str ({ data:=#[115,112,97,119,110] }),.str ({ data:=#[99,97,108,108,99,99] }),.str ({ data:=#[103,111] })]),[]):=by
 exact(zR Tryz.func176 rfl _).trans (by kernel_rfl)
theorem RC (a0_0:List D)(a0_1 a0_2 a0_3 a0_4 a0_5 a0_6 a0_7:Int):V 63 [.agg [.rs (5,0) a0_0,iN a0_1,iN a0_2,iN a0_3,iN a0_4,iN a0_5,iN a0_6,iN a0_7]] =
 Fi 131 [.agg [.rs (5,0) a0_0]] fun a=>((some ((.agg [.os (5,0) a,iN a0_1,iN a0_2,iN a0_3,iN a0_4,iN a0_5,iN a0_6,iN a0_7]),[]))):=by
 exact(zR Tryz.func63 rfl _).trans (by kernel_rfl)
theorem Mf (p0:List D)(p1 p2:Int)(p3 p4:List D):FW p0 p1 p2 p3 p4 =
 br (decide (p2<p1))
 (
 grd (decide (0<=p2)&&decide (p2<ni p0.length)) (dd p0 p2.toNat fun a=>
 asI .i64 a fun b=>grd (decide (0<=b)&&decide (b<ni p4.length)) (dd p4 b.toNat fun _=>
 nam (List.set p4 b.toNat (D.bool true)) fun c=>
 FW p0 p1 (w6 (p2+1)) p3 c)))
 (Ct (w6 (ni p3.length-1)) p3 p4):=by
 exact(zQ _ _ _).trans (by kernel_rfl)
theorem Ld (p0:ByteArray)(p1:Int):Ff p0 p1 =
 br (decide (p1<ni (ByteArray.size p0)))
 (grd (decide (0<=p1)&&decide (p1<ni (ByteArray.size p0))) (ck1 180 [.int .u8 (bt p0 p1)] fun a=>(br (!a)
 (some ((.bool false),[]))
 (Ff p0 (w6 (p1+1))))))
 (ck1 62 [(iN (ni (ByteArray.size p0))),iN (1),iN (12)] fun a=>(some ((.bool a),[]))):=by
 exact(zQ _ _ _).trans (by kernel_rfl)
theorem Mi (p0:ByteArray)(p1:Int)(p2 p3 p4:List D):IY p0 p1 p2 p3 p4 =
 br (decide (p1<ni p4.length))
 (
 grd (decide (0<=p1)&&decide (p1<ni p4.length)) (dd p4 p1.toNat fun a=>
 asAgg a fun b=>dd b 0 fun c=>
 asS c fun d=>br (kJ d p0)
 (some ((iN p1),[]))
 (IY p0 (w6 (p1+1)) p2 p3 p4)))
 (some ((iN (-1)),[])):=by
 exact(zQ _ _ _).trans (by kernel_rfl)
theorem QM (b:List D)(i:Int)(k:Bool) :V 72 [.op [.os (1,0) b,iN i,.bool k]] =
 ck8 71 [.op [.os (1,0) b,iN i,.bool k]] fun a c d e=>((Fc a (0) d e c)):=by
 exact(zR Tryz.func72 rfl _).trans (by kernel_rfl)
theorem Zy (a0_:Bool):V 251 [.bool a0_] =
 br a0_
 (some ((.agg [iN (2),iN (1),.str ({ data:=#[] }),iN (0),iN (0)]),[]))
 (some ((.agg [iN (2),iN (0),.str ({ data:=#[] }),iN (0),iN (0)]),[])):=by
 exact(zR Tryz.func251 rfl _).trans (by kernel_rfl)
theorem Vy (p l d:List D)(h:Int)(s:ByteArray)(n x:List D):V 229 [.op [.os (5,0) p,.os (4,0) l,.os (3,0) d,iN h],.str s,.rs (1,0) n,.rs (1,0) x] =
 DQ s n x (0) h p l d:=by
 exact(zR Tryz.func229 rfl _).trans (by kernel_rfl)
theorem acp (a0_ a1_ a2_:Int):V 62 [iN a0_,iN a1_,iN a2_] =
 br (decide (a0_>=a1_))
 (some ((.bool (decide (a0_<=a2_))),[]))
 (some ((.bool false),[])):=by
 exact(zR Tryz.func62 rfl _).trans (by kernel_rfl)
theorem RJ (a0_0:List D):V 147 [.agg [.rs (5,0) a0_0]] =
 grd (decide (ni (List.length ([]++a0_0))<=LIM)) (nam ([]++a0_0) fun a=>
 some ((.agg [.os (5,0) a]),[])):=by
 exact(zR Tryz.func147 rfl _).trans (by kernel_rfl)
theorem MG (a0_:List D)(a1_:Int):V 221 [.rs (1,0) a0_,.int .u8 a1_] =
 Cj a0_ a1_ (ni a0_.length) (0):=by
 exact(zR Tryz.func221 rfl _).trans (by kernel_rfl)
theorem Zi (a0_:Int):V 69 [iN a0_] =
 br (decide (a0_<0))
 (some ((.os (1,0) []),[]))
 (GT a0_ []):=by
 exact(zR Tryz.func69 rfl _).trans (by kernel_rfl)
end Go.Eng
/-! the functions as the interpreter has them -/
namespace Go.Eng
open Go.Proofs Go.Proofs.Tryz
set_option maxRecDepth 100000
theorem Zr (a0_0:List D)(a0_1 a0_2:Int):V 74 [.op [.rs (1,0) a0_0,iN a0_1,iN a0_2]] =
 aeM 142 [.op [.rs (1,0) a0_0,iN a0_1,iN a0_2]] fun a b c d e f=>(((ck9 76 [.op [.rs (1,0) d,iN e,iN f],(iN (ni b.length))] fun g h i j=>((ck9 76 [.op [.rs (1,0) h,iN i,iN j],iN (25)] fun k l m n=>((br (k==0)
 (ck9 76 [.op [.rs (1,0) l,iN m,iN n],iN (11)] fun o p q r=>((grd (decide (0<=g)&&decide (g<ni b.length)) (dd b g.toNat fun s=>
 asAgg s fun t=>nam (List.set b g.toNat (D.agg (List.take 0 t++[iN o]++List.drop 1 t))) fun u=>
 some ((.agg [.os (5,0) a,.os (4,0) u,.os (3,0) c]),[.op [.rs (1,0) p,iN q,iN r]])))))
 (
 br (k==1)
 (ck9 122 [(
 .op [.rs (1,0) l,iN m,iN n]),(.rs (1,0) [iN (-1),iN (0),iN g,(iN (w6 (g+1))),(iN (ni b.length)),(iN (w6 (ni b.length+1)))])] fun o p q r=>((grd (decide (0<=g)&&decide (g<ni b.length)) (dd b g.toNat fun s=>
 asAgg s fun t=>nam (List.set b g.toNat (D.agg (List.take 1 t++[iN o]++List.drop 2 t))) fun u=>
 some ((.agg [.os (5,0) a,.os (4,0) u,.os (3,0) c]),[.op [.rs (1,0) p,iN q,iN r]])))))
 (
 br (k==2)
 (ck9 76 [.op [.rs (1,0) l,iN m,iN n],iN (7)] fun o p q r=>((grd (decide (0<=g)&&decide (g<ni b.length)) (dd b g.toNat fun s=>
 asAgg s fun t=>nam (List.set b g.toNat (D.agg (List.take 2 t++[iN (w6 (o-1))]++List.drop 3 t))) fun u=>
 some ((.agg [.os (5,0) a,.os (4,0) u,.os (3,0) c]),[.op [.rs (1,0) p,iN q,iN r]])))))
 (
 br (k==3)
 (QJ 75 [(
 .op [.rs (1,0) l,iN m,iN n]),(.rs (1,0) [.str ({ data:=#[] }),.str ({ data:=#[97] }),.str ({ data:=#[65] })])] fun o p q r=>((grd (decide (0<=g)&&decide (g<ni b.length)) (dd b g.toNat fun s=>
 asAgg s fun t=>nam (List.set b g.toNat (D.agg (List.take 3 t++[D.str o]++List.drop 4 t))) fun u=>
 some ((.agg [.os (5,0) a,.os (4,0) u,.os (3,0) c]),[.op [.rs (1,0) p,iN q,iN r]])))))
 (
 br (k==4)
 (QJ 75 [.op [.rs (1,0) l,iN m,iN n],(.rs (1,0) [.str ({ data:=#[102] }),.str ({ data:=#[109,97,105,110] }),.str ({ data:=#[122,122] }),.str ({ data:=#[65] })])] fun o p q r=>((ck9 76 [.op [.rs (1,0) p,iN q,iN r],iN (60)] fun s t u v=>((ck9 76 [.op [.rs (1,0) t,iN u,iN v],iN (6)] fun w x y z=>((grd (decide (ni (List.length (c++[D.agg [D.str o,iN s,iN w]]))<=LIM)) (nam (c++[D.agg [D.str o,iN s,iN w]]) fun A=>
 some ((.agg [.os (5,0) a,.os (4,0) b,.os (3,0) A]),[.op [.rs (1,0) x,iN y,iN z]])))))))))
 (
 br (k==5)
 (aeN 90 [.op [.rs (1,0) l,iN m,iN n]] fun o p q r=>(((some ((.agg [.os (5,0) o,.os (4,0) b,.os (3,0) c]),[.op [.rs (1,0) p,iN q,iN r]])))))
 (some ((.agg [.os (5,0) a,.os (4,0) b,.os (3,0) c]),[.op [.rs (1,0) l,iN m,iN n]])))))))))))))):=by
 exact(zR Tryz.func74 rfl _).trans (by kernel_rfl)
theorem Rc (p0:ByteArray)(p1:Nat)(p2:Int)(p3 p4 p5 p6:List D):AE p0 p1 p2 p3 p4 p5 p6 =
 br (decide (p2<ni (ByteArray.size p0)))
 (
 grd (decide (0<=p2)&&decide (p2<ni (ByteArray.size p0))) (br (bt p0 p2==32)
 (AE p0 p1 (w6 (p2+1)) p3 p4 p5 p6)
 (
 br (bt p0 p2==40)
 (grd (decide
 (ni
 (List.length
 (part p5 (some (0,p1)) ++
 [D.agg
 [iN p2,
 D.os
 (TypeInfo.size (Tables.types (Program.toTables Tryz.prog))[3],
 match rZ Tryz.prog (3) with
 |true=>0
 |false=>1)
 []]])) <=
 LIM)) (nam (part p5 (some (0,p1)) ++
 [D.agg
 [iN p2,
 D.os
 (TypeInfo.size (Tables.types (Program.toTables Tryz.prog))[3],
 match rZ Tryz.prog (3) with
 |true=>0
 |false=>1)
 []]]) fun a=>
 AL p0 (w6 (p2+1)) p3 p4 a p6))
 (
 br (bt p0 p2==41)
 (
 br (w6 (ni p1-1)==0)
 (Fi 147 [.agg [.rs (5,0) p3]] fun a=>((some ((.tup [.agg [.os (5,0) a],.os (1,0) p4,iN (5),iN p2]),[]))))
 (
 grd (decide (0<=w6 (ni p1-1))&&decide (w6 (ni p1-1)<ni p1)&&decide (0+p1<=List.length p5)) (dd p5 (0+Int.toNat (w6 (ni p1-1))) fun a=>
 asAgg a fun b=>dd b 1 fun c=>
 jH (1,0) c fun d=>asAgg a fun e=>AP 210 [.op [.os (5,0) p6],.rs (1,0) d] fun f g=>((grd (iy p1 (List.length (List.set p5 (0+Int.toNat (w6 (ni p1-1))) (D.agg (List.take 1 e++[D.dead]++List.drop 2 e)))-0) none (some (w6 (ni p1-1)))) (grd (decide (0<=w6 (w6 (ni p1-1)-1))&&decide (w6 (w6 (ni p1-1)-1)<ni (Int.toNat (w6 (ni p1-1))))&&decide (0+Int.toNat (w6 (ni p1-1))<=List.length (List.set p5 (0+Int.toNat (w6 (ni p1-1))) (D.agg (List.take 1 e++[D.dead]++List.drop 2 e))))) (dd (List.set p5 (0+Int.toNat (w6 (ni p1-1))) (D.agg (List.take 1 e++[D.dead]++List.drop 2 e))) (0+Int.toNat (w6 (w6 (ni p1-1)-1))) fun h=>
 asAgg h fun i=>dd i 1 fun j=>
 jH (1,0) j fun k=>asAgg h fun l=>grd (decide (ni (List.length (k++[iN f]))<=LIM)) (nam (k++[iN f]) fun m=>
 grd (decide (0<=w6 (w6 (ni p1-1)-1))&&decide (w6 (w6 (ni p1-1)-1)<ni (Int.toNat (w6 (ni p1-1))))&&decide (0+Int.toNat (w6 (ni p1-1))<=List.length (List.set (List.set p5 (0+Int.toNat (w6 (ni p1-1))) (D.agg (List.take 1 e++[D.dead]++List.drop 2 e))) (0+Int.toNat (w6 (w6 (ni p1-1)-1))) (D.agg (List.take 1 l++[D.dead]++List.drop 2 l))))) (dd (List.set (List.set p5 (0+Int.toNat (w6 (ni p1-1))) (D.agg (List.take 1 e++[D.dead]++List.drop 2 e))) (0+Int.toNat (w6 (w6 (ni p1-1)-1))) (D.agg (List.take 1 l++[D.dead]++List.drop 2 l))) (0+Int.toNat (w6 (w6 (ni p1-1)-1))) fun n=>
 asAgg n fun o=>nam (List.set (List.set (List.set p5 (0+Int.toNat (w6 (ni p1-1))) (D.agg (List.take 1 e++[D.dead]++List.drop 2 e))) (0+Int.toNat (w6 (w6 (ni p1-1)-1))) (D.agg (List.take 1 l++[D.dead]++List.drop 2 l))) (0+Int.toNat (w6 (w6 (ni p1-1)-1)))
 (D.agg
 (List.take 1 o ++
 [D.os
 (TypeInfo.size (Tables.types (Program.toTables Tryz.prog))[3],
 match rZ Tryz.prog (3) with
 |true=>0
 |false=>1)
 m] ++
 List.drop 2 o))) fun p=>
 AE p0 (Int.toNat (w6 (ni p1-1))) (w6 (p2+1)) p3 p4 p g)))))))))
 (ck1 211 [.int .u8 (bt p0 p2)] fun a=>(br a
 (CG p0 p1 p2 (w6 (ni p1-1)) p2 p3 p4 p5 p6)
 (Fi 147 [.agg [.rs (5,0) p3]] fun b=>((some ((.tup [.agg [.os (5,0) b],.os (1,0) p4,iN (2),iN p2]),[]))))))))))
 (
 br (decide (ni p1>1))
 (Fi 147 [.agg [.rs (5,0) p3]] fun a=>((grd (decide (0<=w6 (ni p1-1))&&decide (w6 (ni p1-1)<ni p1)&&decide (0+p1<=List.length p5)) (dd p5 (0+Int.toNat (w6 (ni p1-1))) fun b=>
 asAgg b fun c=>dd c 0 fun d=>
 asI .i64 d fun e=>some ((.tup [.agg [.os (5,0) a],.os (1,0) p4,iN (4),iN e]),[])))))
 (ck1 60 [.agg [.rs (5,0) p6]] fun a=>(br (!a)
 (Fi 147 [.agg [.rs (5,0) p3]] fun b=>((some ((.tup [.agg [.os (5,0) b],.os (1,0) p4,iN (6),iN (0)]),[]))))
 (
 grd (decide (0<=0)&&decide (0<ni p1)&&decide (0+p1<=List.length p5)) (dd p5 0 fun b=>
 asAgg b fun c=>dd c 1 fun d=>
 jH (1,0) d fun e=>asAgg b fun f=>grd (decide (ni (List.length ([]++e))<=LIM)) (nam ([]++e) fun g=>
 some ((.tup [.agg [.os (5,0) p6],.os (1,0) g,iN (0),(iN (ni (ByteArray.size p0)))]),[]))))))):=by
 exact(zQ _ _ _).trans (by kernel_rfl)
theorem Xd (a0_0 a0_1 a0_2:List D)(a1_:Int):V 123 [.agg [.rs (5,0) a0_0,.rs (4,0) a0_1,.rs (3,0) a0_2],iN a1_] =
 grd (decide (0<=a1_)&&decide (a1_<ni a0_1.length)) (dd a0_1 a1_.toNat fun a=>
 tk3 a fun b c d e=>(br (b==1)
 (ck1 56 [.agg [.rs (5,0) a0_0],iN c] fun f=>(br f
 (
 br (d==0)
 (some ((.bool (kJ e { data:=#[] })),[]))
 (some ((.bool false),[])))
 (some ((.bool false),[]))))
 (
 br (b==2)
 (ck1 58 [iN c,iN (0),iN (20)] fun f=>(ck1 58 [iN d,iN (0),iN (3)] fun g=>(br f
 (
 br g
 (some ((.bool (kJ e { data:=#[] })),[]))
 (some ((.bool false),[])))
 (some ((.bool false),[])))))
 (
 br (b==3)
 (ck1 124 [.str e] fun f=>(br (c==0)
 (
 br (d==0)
 (some ((.bool f),[]))
 (some ((.bool false),[])))
 (some ((.bool false),[]))))
 (
 br (b==4)
 (
 br (b==4)
 (ck1 58 [iN c,(iN (w6 (a1_+1))),(iN (ni a0_1.length))] fun f=>(br f
 (
 br (d==0)
 (some ((.bool (kJ e { data:=#[] })),[]))
 (some ((.bool false),[])))
 (some ((.bool false),[]))))
 (
 br (b==6)
 (ck1 58 [iN c,(iN (w6 (a1_+1))),(iN (w6 (ni a0_1.length-1)))] fun f=>(ck1 58 [iN d,iN (0),iN (4)] fun g=>(br f
 (
 br g
 (some ((.bool (kJ e { data:=#[] })),[]))
 (some ((.bool false),[])))
 (some ((.bool false),[])))))
 (
 br (b==7)
 (ck1 58 [iN d,iN (0),iN (4)] fun f=>(br (c==0)
 (
 br f
 (some ((.bool (kJ e { data:=#[] })),[]))
 (some ((.bool false),[])))
 (some ((.bool false),[]))))
 (
 br (b==8)
 (
 br (b==8)
 (
 br (c==0)
 (
 br (d==0)
 (some ((.bool (kJ e { data:=#[] })),[]))
 (some ((.bool false),[])))
 (some ((.bool false),[])))
 (some ((.bool false),[])))
 (
 br (b==9)
 (
 br (c==0)
 (
 br (d==0)
 (some ((.bool (kJ e { data:=#[] })),[]))
 (some ((.bool false),[])))
 (some ((.bool false),[])))
 (some ((.bool false),[])))))))
 (
 br (b==5)
 (ck1 58 [iN c,(iN (w6 (a1_+1))),(iN (ni a0_1.length))] fun f=>(br f
 (
 br (d==0)
 (some ((.bool (kJ e { data:=#[] })),[]))
 (some ((.bool false),[])))
 (some ((.bool false),[]))))
 (
 br (b==6)
 (ck1 58 [iN c,(iN (w6 (a1_+1))),(iN (w6 (ni a0_1.length-1)))] fun f=>(ck1 58 [iN d,iN (0),iN (4)] fun g=>(br f
 (
 br g
 (some ((.bool (kJ e { data:=#[] })),[]))
 (some ((.bool false),[])))
 (some ((.bool false),[])))))
 (
 br (b==7)
 (ck1 58 [iN d,iN (0),iN (4)] fun f=>(br (c==0)
 (
 br f
 (some ((.bool (kJ e { data:=#[] })),[]))
 (some ((.bool false),[])))
 (some ((.bool false),[]))))
 (
 br (b==8)
 (
 br (b==8)
 (
 br (c==0)
 (
 br (d==0)
 (some ((.bool (kJ e { data:=#[] })),[]))
 (some ((.bool false),[])))
 (some ((.bool false),[])))
 (some ((.bool false),[])))
 (
 br (b==9)
 (
 br (c==0)
 (
 br (d==0)
 (some ((.bool (kJ e { data:=#[] })),[]))
 (some ((.bool false),[])))
 (some ((.bool false),[])))
 (some ((.bool false),[])))))))))))):=by
 exact(zR Tryz.func123 rfl _).trans (by kernel_rfl)
theorem Xm (a0_0 a0_1 a0_2:List D)(a1_:Int):V 127 [.agg [.rs (5,0) a0_0,.rs (4,0) a0_1,.rs (3,0) a0_2],iN a1_] =
 grd (decide (0<=a1_)&&decide (a1_<ni a0_1.length)) (dd a0_1 a1_.toNat fun a=>
 tk3 a fun b c d e=>(br (b==1)
 (
 br (b==b&&(c==c&&(d==0&&(kJ e { data:=#[] }&&true))))
 (ck1 61 [.agg [.rs (5,0) a0_0],iN c] fun f=>(some ((.bool f),[])))
 (some ((.bool false),[])))
 (
 br (b==2)
 (
 br (kJ e { data:=#[] })
 (ck1 62 [iN c,iN (0),iN (20)] fun f=>(br f
 (ck1 62 [iN d,iN (0),iN (3)] fun g=>(some ((.bool g),[])))
 (some ((.bool false),[]))))
 (some ((.bool false),[])))
 (
 br (b==3)
 (
 br (b==b&&(c==0&&(d==0&&(kJ e e&&true))))
 (ck1 128 [.str e] fun f=>(some ((.bool f),[])))
 (some ((.bool false),[])))
 (
 br (b==4)
 (
 br (b==4)
 (
 br (b==b&&(c==c&&(d==0&&(kJ e { data:=#[] }&&true))))
 (
 br (decide (c>a1_))
 (some ((.bool (decide (c<=ni a0_1.length))),[]))
 (some ((.bool false),[])))
 (some ((.bool false),[])))
 (
 br (b==6)
 (
 br (kJ e { data:=#[] })
 (
 br (decide (c>a1_))
 (
 br (decide (c<ni a0_1.length))
 (ck1 62 [iN d,iN (0),iN (4)] fun f=>(some ((.bool f),[])))
 (some ((.bool false),[])))
 (some ((.bool false),[])))
 (some ((.bool false),[])))
 (
 br (b==7)
 (
 br (b==b&&(c==0&&(d==d&&(kJ e { data:=#[] }&&true))))
 (ck1 62 [iN d,iN (0),iN (4)] fun f=>(some ((.bool f),[])))
 (some ((.bool false),[])))
 (
 br (b==8)
 (
 br (b==8)
 (some ((.bool (b==b&&(c==0&&(d==0&&(kJ e { data:=#[] }&&true))))),[]))
 (some ((.bool false),[])))
 (
 br (b==9)
 (some ((.bool (b==b&&(c==0&&(d==0&&(kJ e { data:=#[] }&&true))))),[]))
 (some ((.bool false),[])))))))
 (
 br (b==5)
 (
 br (b==b&&(c==c&&(d==0&&(kJ e { data:=#[] }&&true))))
 (
 br (decide (c>a1_))
 (some ((.bool (decide (c<=ni a0_1.length))),[]))
 (some ((.bool false),[])))
 (some ((.bool false),[])))
 (
 br (b==6)
 (
 br (kJ e { data:=#[] })
 (
 br (decide (c>a1_))
 (
 br (decide (c<ni a0_1.length))
 (ck1 62 [iN d,iN (0),iN (4)] fun f=>(some ((.bool f),[])))
 (some ((.bool false),[])))
 (some ((.bool false),[])))
 (some ((.bool false),[])))
 (
 br (b==7)
 (
 br (b==b&&(c==0&&(d==d&&(kJ e { data:=#[] }&&true))))
 (ck1 62 [iN d,iN (0),iN (4)] fun f=>(some ((.bool f),[])))
 (some ((.bool false),[])))
 (
 br (b==8)
 (
 br (b==8)
 (some ((.bool (b==b&&(c==0&&(d==0&&(kJ e { data:=#[] }&&true))))),[]))
 (some ((.bool false),[])))
 (
 br (b==9)
 (some ((.bool (b==b&&(c==0&&(d==0&&(kJ e { data:=#[] }&&true))))),[]))
 (some ((.bool false),[])))))))))))):=by
 exact(zR Tryz.func127 rfl _).trans (by kernel_rfl)
theorem Y7 (a0_0 a0_1:Int)(a0_2:ByteArray)(a0_3 a0_4 a1_:Int):V 126 [.agg [iN a0_0,iN a0_1,.str a0_2,iN a0_3,iN a0_4],iN a1_] =
 br (a0_0==1)
 (ck1 58 [iN a0_1,iN (0),iN (0)] fun a=>(br a
 (
 br (kJ a0_2 { data:=#[] })
 (
 br (a0_3==0)
 (some ((.bool (a0_4==0)),[]))
 (some ((.bool false),[])))
 (some ((.bool false),[])))
 (some ((.bool false),[]))))
 (
 br (a0_0==2)
 (ck1 58 [iN a0_1,iN (0),iN (1)] fun a=>(br a
 (
 br (kJ a0_2 { data:=#[] })
 (
 br (a0_3==0)
 (some ((.bool (a0_4==0)),[]))
 (some ((.bool false),[])))
 (some ((.bool false),[])))
 (some ((.bool false),[]))))
 (
 br (a0_0==3)
 (ck1 58 [iN a0_1,iN (-1000000000),iN (1000000000)] fun a=>(br a
 (
 br (kJ a0_2 { data:=#[] })
 (
 br (a0_3==0)
 (some ((.bool (a0_4==0)),[]))
 (some ((.bool false),[])))
 (some ((.bool false),[])))
 (some ((.bool false),[]))))
 (
 br (a0_0==4)
 (ck1 124 [.str a0_2] fun a=>(ck1 58 [iN a0_1,iN (0),iN (0)] fun b=>(br b
 (
 br a
 (
 br (a0_3==0)
 (some ((.bool (a0_4==0)),[]))
 (some ((.bool false),[])))
 (some ((.bool false),[])))
 (some ((.bool false),[])))))
 (
 br (a0_0==5)
 (ck1 58 [iN a0_3,iN (0),(iN (w6 (a1_-1)))] fun a=>(ck1 58 [iN a0_4,iN (0),(iN (w6 (a1_-1)))] fun b=>(ck1 58 [iN a0_1,iN (0),iN (0)] fun c=>(br c
 (
 br (kJ a0_2 { data:=#[] })
 (
 br a
 (some ((.bool b),[]))
 (some ((.bool false),[])))
 (some ((.bool false),[])))
 (some ((.bool false),[]))))))
 (
 br (a0_0==6)
 (ck1 58 [iN a0_3,iN (0),(iN (w6 (a1_-1)))] fun a=>(ck1 58 [iN a0_1,iN (0),iN (1000000000)] fun b=>(br b
 (
 br (kJ a0_2 { data:=#[] })
 (
 br a
 (some ((.bool (a0_4==0)),[]))
 (some ((.bool false),[])))
 (some ((.bool false),[])))
 (some ((.bool false),[])))))
 (
 br (a0_0==7)
 (ck1 58 [iN a0_3,iN (0),(iN (w6 (a1_-1)))] fun a=>(ck1 58 [iN a0_1,iN (0),iN (0)] fun b=>(br b
 (
 br (kJ a0_2 { data:=#[] })
 (
 br a
 (some ((.bool (a0_4==0)),[]))
 (some ((.bool false),[])))
 (some ((.bool false),[])))
 (some ((.bool false),[])))))
 (
 br (a0_0==8)
 (ck1 58 [iN a0_1,iN (0),iN (99)] fun a=>(br a
 (
 br (kJ a0_2 { data:=#[] })
 (
 br (a0_3==0)
 (some ((.bool (a0_4==0)),[]))
 (some ((.bool false),[])))
 (some ((.bool false),[])))
 (some ((.bool false),[]))))
 (
 br (a0_0==9)
 (ck1 58 [iN a0_1,iN (0),iN (1000000000)] fun a=>(br a
 (
 br (kJ a0_2 { data:=#[] })
 (
 br (a0_3==0)
 (some ((.bool (a0_4==0)),[]))
 (some ((.bool false),[])))
 (some ((.bool false),[])))
 (some ((.bool false),[]))))
 (some ((.bool false),[])))))))))):=by
 exact(zR Tryz.func126 rfl _).trans (by kernel_rfl)
theorem Ln (p0 p1 p2 p3 p4 p5 p6 p7 p8:Int)(p9 p10 p11 p12 p13:List D):GW p0 p1 p2 p3 p4 p5 p6 p7 p8 p9 p10 p11 p12 p13 =
 br (decide (p1>=0))
 (aau 218 [.op [.os (5,0) p13,iN p2,iN p3,iN p4,iN p5,iN p6,iN p7,iN p8]] fun a b c d e f g h i j=>(((br (!b)
 (some ((iN (7)),[.op [.os (5,0) c,iN d,iN e,iN f,iN g,iN h,iN i,iN j]]))
 (
 grd (decide (0<=p1)&&decide (p1<ni p12.length)) (dd p12 p1.toNat fun _=>
 nam (List.set p12 p1.toNat (iN a)) fun k=>
 GW p0 (w6 (p1-1)) d e f g h i j p9 p10 p11 k c))))))
 (aau 218 [.op [.os (5,0) p13,iN p2,iN p3,iN p4,iN p5,iN p6,iN p7,iN p8]] fun a b c d e f g h i j=>(((br (!b)
 (some ((iN (7)),[.op [.os (5,0) c,iN d,iN e,iN f,iN g,iN h,iN i,iN j]]))
 (
 br (decide (p0>=ni p10.length))
 (some ((iN (7)),[.op [.os (5,0) c,iN d,iN e,iN f,iN g,iN h,iN i,iN j]]))
 (QI 233 [.agg [.rs (5,0) p9,.rs (4,0) p10,.rs (3,0) p11],(.op [.os (5,0) c,iN d,iN e,iN f,iN g,iN h,iN i,iN j]),iN a,.rs (1,0) p12,iN p0] fun k l m n o p q r s=>((some ((iN k),[.op [.os (5,0) l,iN m,iN n,iN o,iN p,iN q,iN r,iN s]]))))))))):=by
 exact(zQ _ _ _).trans (by kernel_rfl)
theorem Fe (p0 p1 p2 p3 p4 p5 p6 p7 p8:Int)(p9 p10 p11 p12 p13:List D):Cy p0 p1 p2 p3 p4 p5 p6 p7 p8 p9 p10 p11 p12 p13 =
 br (decide (p1<p0))
 (YM 182 [.op [.os (5,0) p13,iN p2,iN p3,iN p4,iN p5,iN p6,iN p7,iN p8,.rs (5,0) p9,.rs (4,0) p10,.rs (3,0) p11]] fun a b c d e f g h i j k l m=>(((br (!b)
 (some ((iN (7)),[.op [.os (5,0) c,iN d,iN e,iN f,iN g,iN h,iN i,iN j,.rs (5,0) k,.rs (4,0) l,.rs (3,0) m]]))
 (
 grd (decide (ni (List.length (p12++[iN a]))<=LIM)) (nam (p12++[iN a]) fun n=>
 Cy p0 (w6 (p1+1)) d e f g h i j k l m n c))))))
 (afO 183 [.os (1,0) p12] fun a=>((grd (decide (0<=0)&&decide (0<ni a.length)) (dd a 0 fun b=>
 asI .i64 b fun c=>grd (df a.length (some (1)) none) (LQ 184 [.op [.os (5,0) p13,iN p2,iN p3,iN p4,iN p5,iN p6,iN p7,iN p8,.rs (5,0) p9,.rs (4,0) p10,.rs (3,0) p11],iN c,(.rs (1,0) (part a (some (Int.toNat (1),List.length a-Int.toNat (1)))))] fun d e f g h i j k l m n o=>((some ((iN d),[.op [.os (5,0) e,iN f,iN g,iN h,iN i,iN j,iN k,iN l,.rs (5,0) m,.rs (4,0) n,.rs (3,0) o]])))))))):=by
 exact(zQ _ _ _).trans (by kernel_rfl)
theorem Lm (p0 p1:List D)(p2 p3:Int)(p4 p5 p6:List D):Fg p0 p1 p2 p3 p4 p5 p6 =
 br (decide (p2<ni p0.length))
 (
 br (p3==0)
 (
 br (decide (p2>0))
 (ck3 237 [.op [.os (5,0) p4,.os (4,0) p5,.os (3,0) p6,iN p3],(.agg [iN (9),iN (0),iN (0),.str ({ data:=#[] })])] fun _ a b c d=>((grd (decide (0<=p2)&&decide (p2<ni p0.length)) (dd p0 p2.toNat fun e=>
 asI .i64 e fun f=>ck4 244 [.op [.os (5,0) a,.os (4,0) b,.os (3,0) c,iN d],iN f,.rs (1,1) p1] fun g h i j=>(((Fg p0 p1 (w6 (p2+1)) j g h i)))))))
 (
 grd (decide (0<=p2)&&decide (p2<ni p0.length)) (dd p0 p2.toNat fun a=>
 asI .i64 a fun b=>ck4 244 [.op [.os (5,0) p4,.os (4,0) p5,.os (3,0) p6,iN p3],iN b,.rs (1,1) p1] fun c d e f=>(((Fg p0 p1 (w6 (p2+1)) f c d e))))))
 (some ((.tup []),[.op [.os (5,0) p4,.os (4,0) p5,.os (3,0) p6,iN p3]])))
 (some ((.tup []),[.op [.os (5,0) p4,.os (4,0) p5,.os (3,0) p6,iN p3]])):=by
 exact(zQ _ _ _).trans (by kernel_rfl)
theorem RN (a0_0:List D)(a0_1 a0_2:Int):V 53 [.op [.rs (1,0) a0_0,iN a0_1,iN a0_2]] =
 ck9 76 [.op [.rs (1,0) a0_0,iN a0_1,iN a0_2],iN (6)] fun a b c d=>((br (a==0)
 (ck9 122 [.op [.rs (1,0) b,iN c,iN d],(.rs (1,0) [iN (-1),iN (0),iN (1),iN (2000),iN (2001)])] fun e f g h=>((some ((iN e),[.op [.rs (1,0) f,iN g,iN h]]))))
 (
 br (a==1)
 (some ((iN (300)),[.op [.rs (1,0) b,iN c,iN d]]))
 (ck9 76 [.op [.rs (1,0) b,iN c,iN d],iN (80)] fun e f g h=>((some ((iN e),[.op [.rs (1,0) f,iN g,iN h]]))))))):=by
 exact(zR Tryz.func53 rfl _).trans (by kernel_rfl)
theorem Xf (a0_ a1_ a2_:Int):V 243 [iN a0_,iN a1_,iN a2_] =
 br (a0_==1)
 (some ((.agg [iN (3),(iN (w6 (a1_+a2_))),.str ({ data:=#[] }),iN (0),iN (0)]),[]))
 (
 br (a0_==2)
 (some ((.agg [iN (3),(iN (w6 (a1_-a2_))),.str ({ data:=#[] }),iN (0),iN (0)]),[]))
 (
 br (a0_==3)
 (some ((.agg [iN (3),(iN (w6 (a1_*a2_))),.str ({ data:=#[] }),iN (0),iN (0)]),[]))
 (
 br (a0_==4)
 (ck2 241 [(.bool (decide (a1_<a2_)))] fun a b c d e=>((some ((.agg [iN a,iN b,.str c,iN d,iN e]),[]))))
 (ck2 241 [.bool (a1_==a2_)] fun a b c d e=>((some ((.agg [iN a,iN b,.str c,iN d,iN e]),[]))))))):=by
 exact(zR Tryz.func243 rfl _).trans (by kernel_rfl)
theorem BH (p0 p1:Int)(p2:List D):Ck p0 p1 p2 =
 br (decide (p0<p1))
 (
 grd (decide (0<=p1)&&decide (p1<ni p2.length)) (dd p2 p1.toNat fun a=>
 asI .i64 a fun b=>grd (decide (0<=p0)&&decide (p0<ni p2.length)) (dd p2 p0.toNat fun c=>
 asI .i64 c fun d=>grd (decide (0<=p0)&&decide (p0<ni p2.length)) (dd p2 p0.toNat fun _=>
 nam (List.set p2 p0.toNat (iN b)) fun e=>
 grd (decide (0<=p1)&&decide (p1<ni e.length)) (dd e p1.toNat fun _=>
 nam (List.set e p1.toNat (iN d)) fun f=>
 Ck (w6 (p0+1)) (w6 (p1-1)) f)))))
 (some ((.tup []),[.os (1,0) p2])):=by
 exact(zQ _ _ _).trans (by kernel_rfl)
theorem Vv (a0_:Int):V 245 [iN a0_] =
 ck1 62 [iN a0_,iN (1),iN (19)] fun a=>(br (!a)
 (some ((iN (-1)),[]))
 (
 grd (decide (0<=a0_)&&decide (a0_<ni 20)) (dd ([iN (0),iN (2),iN (2),iN (2),iN (2),iN (2),iN (2),iN (1),iN (1),iN (1),iN (1),iN (2),iN (1),iN (1),iN (0),iN (2),iN (0),iN (1),iN (1),iN (1)]) a0_.toNat fun b=>
 asI .i64 b fun c=>some ((iN c),[])))):=by
 exact(zR Tryz.func245 rfl _).trans (by kernel_rfl)
theorem Zl (a0_0:List D)(a0_1 a0_2:Int)(a1_:List D):V 75 [.op [.rs (1,0) a0_0,iN a0_1,iN a0_2],.rs (1,0) a1_] =
 ck9 76 [.op [.rs (1,0) a0_0,iN a0_1,iN a0_2],(iN (ni a1_.length))] fun a b c d=>((grd (decide (0<=a)&&decide (a<ni a1_.length)) (dd a1_ a.toNat fun e=>
 asS e fun f=>some ((.str f),[.op [.rs (1,0) b,iN c,iN d]])))):=by
 exact(zR Tryz.func75 rfl _).trans (by kernel_rfl)
theorem JM (p0 p1 p2:Int)(p3 p4 p5 p6:List D):DR p0 p1 p2 p3 p4 p5 p6 =
 br (decide (p1<p0))
 (
 grd (decide (0<=p1)&&decide (p1<ni p3.length)) (dd p3 p1.toNat fun a=>
 asS a fun b=>grd (decide (0<=p0)&&decide (p0<ni p3.length)) (dd p3 p0.toNat fun c=>
 asS c fun d=>br (kJ b d)
 (DR p0 (w6 (p1+1)) (2) p3 p4 p5 p6)
 (DR p0 (w6 (p1+1)) p2 p3 p4 p5 p6))))
 (Cn (w6 (p0+1)) p2 p3 p4 p5 p6):=by
 exact(zQ _ _ _).trans (by kernel_rfl)
theorem aaR (p:List D)(k n:Int)(s:ByteArray)(a b:Int):V 158 [.op [.os (5,0) p],.agg [iN k,iN n,.str s,iN a,iN b]] =
 grd (decide (ni (List.length (p++[D.agg [iN k,iN n,D.str s,iN a,iN b]]))<=LIM)) (nam (p++[D.agg [iN k,iN n,D.str s,iN a,iN b]]) fun c=>
 some ((iN (w6 (ni c.length-1))),[.op [.os (5,0) c]])):=by
 exact(zR Tryz.func158 rfl _).trans (by kernel_rfl)
theorem YQ (a0_0 a0_1 a0_2:List D):V 54 [.agg [.rs (5,0) a0_0,.rs (4,0) a0_1,.rs (3,0) a0_2]] =
 ck1 55 [.agg [.rs (5,0) a0_0]] fun a=>(br (!a)
 (some ((.bool false),[]))
 (
 br (decide (ni a0_1.length>400))
 (some ((.bool false),[]))
 (
 br (decide (ni a0_2.length>20))
 (some ((.bool false),[]))
 (GD (ni a0_1.length) (0) a0_0 a0_1 a0_2)))):=by
 exact(zR Tryz.func54 rfl _).trans (by kernel_rfl)
theorem KR (p0 p1:Int)(p2 p3 p4:List D):GD p0 p1 p2 p3 p4 =
 br (decide (p1<p0))
 (ck1 123 [.agg [.rs (5,0) p2,.rs (4,0) p3,.rs (3,0) p4],iN p1] fun a=>(br (!a)
 (some ((.bool false),[]))
 (GD p0 (w6 (p1+1)) p2 p3 p4)))
 (Gj p4 (ni p4.length) (0) p2 p3 p4):=by
 exact(zQ _ _ _).trans (by kernel_rfl)
theorem Xn (p l d:List D)(h:Int)(x:List D):V 231 [.op [.os (5,0) p,.os (4,0) l,.os (3,0) d,iN h],.rs (1,0) x] =
 br (decide (ni x.length>4))
 (CI x (0) (1) [] p l d)
 (CI x (0) h [] p l d):=by
 exact(zR Tryz.func231 rfl _).trans (by kernel_rfl)
theorem Og (l p:List D):V 135 [.rs (1,0) l,.fn 136 [.bp [.rs (5,0) p]]] =
 Ir 188 [.rs (1,0) l,(.fn 136 [(.bp [.rs (5,0) p])])] fun a=>(some ((.bool (decide (a>=0))),[])):=by
 exact(zR Tryz.func135 rfl _).trans (by kernel_rfl)
theorem Xw (a0_0:List D):V 70 [.agg [.rs (5,0) a0_0]] =
 AY 69 [(iN (ni a0_0.length))] fun a=>(Aj (0) a0_0 a):=by
 exact(zR Tryz.func70 rfl _).trans (by kernel_rfl)
theorem MH (a0_:List D):V 183 [.os (1,0) a0_] =
 Ck (0) (w6 (ni a0_.length-1)) a0_:=by
 exact(zR Tryz.func183 rfl _).trans (by kernel_rfl)
end Go.Eng
/-! the functions as the interpreter has them -/
namespace Go.Eng
open Go.Proofs Go.Proofs.Tryz
set_option maxRecDepth 100000
theorem acr (p:List D)(n:Int)(l:List D):V 246 [.op [.os (5,0) p],iN n,.rs (1,0) l] =
 grd (decide (0<=0)&&decide (0<ni l.length)) (dd l 0 fun a=>
 asI .i64 a fun b=>grd (decide (0<=b)&&decide (b<ni p.length)) (dd p b.toNat fun c=>
 tk2 c fun d e f g h=>(br (decide (n<=5))
 (
 grd (decide (0<=1)&&decide (1<ni l.length)) (dd l 1 fun i=>
 asI .i64 i fun j=>grd (decide (0<=j)&&decide (j<ni p.length)) (dd p j.toNat fun k=>
 tk2 k fun m o q r s=>(afP 250 [iN n,.agg [iN d,iN e,.str f,iN g,iN h],.agg [iN m,iN o,.str q,iN r,iN s]] fun t u v w x y=>(((br (y != 0)
 (some ((.tup [iN (-1),iN y]),[.op [.os (5,0) p]]))
 (AP 158 [.op [.os (5,0) p],.agg [iN t,iN u,.str v,iN w,iN x]] fun z A=>((some ((.tup [iN z,iN y]),[.op [.os (5,0) A]])))))))))))
 (
 br (n==6)
 (
 grd (decide (0<=0)&&decide (0<ni l.length)) (dd l 0 fun i=>
 asI .i64 i fun j=>grd (decide (0<=1)&&decide (1<ni l.length)) (dd l 1 fun k=>
 asI .i64 k fun m=>AP 158 [.op [.os (5,0) p],(.agg [iN (5),iN (0),.str ({ data:=#[] }),iN j,iN m])] fun o q=>((some ((.tup [iN o,iN (0)]),[.op [.os (5,0) q]]))))))
 (
 br (decide (n<=8))
 (
 br (d != 5)
 (some ((.tup [iN (-1),iN (3)]),[.op [.os (5,0) p]]))
 (
 br (n==7)
 (some ((.tup [iN g,iN (0)]),[.op [.os (5,0) p]]))
 (some ((.tup [iN h,iN (0)]),[.op [.os (5,0) p]]))))
 (
 br (n==9)
 (ck2 251 [.bool (d==1)] fun i j k m o=>((AP 158 [.op [.os (5,0) p],.agg [iN i,iN j,.str k,iN m,iN o]] fun q r=>((some ((.tup [iN q,iN (0)]),[.op [.os (5,0) r]]))))))
 (
 br (n==10)
 (ck2 251 [.bool (d==5)] fun i j k m o=>((AP 158 [.op [.os (5,0) p],.agg [iN i,iN j,.str k,iN m,iN o]] fun q r=>((some ((.tup [iN q,iN (0)]),[.op [.os (5,0) r]]))))))
 (
 br (n==11)
 (AY 252 [.agg [.rs (5,0) p]] fun i=>(grd (decide (0<=0)&&decide (0<ni l.length)) (dd l 0 fun j=>
 asI .i64 j fun k=>grd (decide (0<=k)&&decide (k<ni i.length)) (dd i k.toNat fun m=>
 asI .i64 m fun o=>grd (decide (0<=1)&&decide (1<ni l.length)) (dd l 1 fun q=>
 asI .i64 q fun r=>grd (decide (0<=r)&&decide (r<ni i.length)) (dd i r.toNat fun s=>
 asI .i64 s fun t=>ck2 251 [.bool (o==t)] fun u v w x y=>((AP 158 [.op [.os (5,0) p],.agg [iN u,iN v,.str w,iN x,iN y]] fun z A=>((some ((.tup [iN z,iN (0)]),[.op [.os (5,0) A]])))))))))))
 (
 br (d==2)
 (ck2 251 [.bool (e==0)] fun i j k m o=>((AP 158 [.op [.os (5,0) p],.agg [iN i,iN j,.str k,iN m,iN o]] fun q r=>((some ((.tup [iN q,iN (0)]),[.op [.os (5,0) r]]))))))
 (ck2 251 [.bool false] fun i j k m o=>((AP 158 [.op [.os (5,0) p],.agg [iN i,iN j,.str k,iN m,iN o]] fun q r=>((some ((.tup [iN q,iN (0)]),[.op [.os (5,0) r]]))))))))))))))):=by
 exact(zR Tryz.func246 rfl _).trans (by kernel_rfl)
theorem Ut (p0:ByteArray)(p1:Int)(p2 p3 p4 p5:List D):AL p0 p1 p2 p3 p4 p5 =
 br (decide (p1<ni (ByteArray.size p0)))
 (
 grd (decide (0<=p1)&&decide (p1<ni (ByteArray.size p0))) (br (bt p0 p1==32)
 (AL p0 (w6 (p1+1)) p2 p3 p4 p5)
 (
 br (bt p0 p1==40)
 (grd (decide
 (ni
 (List.length
 (p4 ++
 [D.agg
 [iN p1,
 D.os
 (TypeInfo.size (Tables.types (Program.toTables Tryz.prog))[3],
 match rZ Tryz.prog (3) with
 |true=>0
 |false=>1)
 []]])) <=
 LIM)) (nam (p4 ++
 [D.agg
 [iN p1,
 D.os
 (TypeInfo.size (Tables.types (Program.toTables Tryz.prog))[3],
 match rZ Tryz.prog (3) with
 |true=>0
 |false=>1)
 []]]) fun a=>
 AL p0 (w6 (p1+1)) p2 p3 a p5))
 (
 br (bt p0 p1==41)
 (
 br (w6 (ni p4.length-1)==0)
 (Fi 147 [.agg [.rs (5,0) p2]] fun a=>((some ((.tup [.agg [.os (5,0) a],.os (1,0) p3,iN (5),iN p1]),[]))))
 (
 grd (decide (0<=w6 (ni p4.length-1))&&decide (w6 (ni p4.length-1)<ni p4.length)) (dd p4 (Int.toNat (w6 (ni p4.length-1))) fun a=>
 asAgg a fun b=>dd b 1 fun c=>
 jH (1,0) c fun d=>asAgg a fun e=>AP 210 [.op [.os (5,0) p5],.rs (1,0) d] fun f g=>((grd (df (List.length (List.set p4 (Int.toNat (w6 (ni p4.length-1))) (D.agg (List.take 1 e++[D.dead]++List.drop 2 e)))) none (some (w6 (ni p4.length-1)))) (grd (decide (0<=w6 (w6 (ni p4.length-1)-1))&&decide (w6 (w6 (ni p4.length-1)-1)<ni (Int.toNat (w6 (ni p4.length-1))))&&decide (0+Int.toNat (w6 (ni p4.length-1))<=List.length (List.set p4 (Int.toNat (w6 (ni p4.length-1))) (D.agg (List.take 1 e++[D.dead]++List.drop 2 e))))) (dd (List.set p4 (Int.toNat (w6 (ni p4.length-1))) (D.agg (List.take 1 e++[D.dead]++List.drop 2 e))) (0+Int.toNat (w6 (w6 (ni p4.length-1)-1))) fun h=>
 asAgg h fun i=>dd i 1 fun j=>
 jH (1,0) j fun k=>asAgg h fun l=>grd (decide (ni (List.length (k++[iN f]))<=LIM)) (nam (k++[iN f]) fun m=>
 grd (decide (0<=w6 (w6 (ni p4.length-1)-1))&&decide (w6 (w6 (ni p4.length-1)-1)<ni (Int.toNat (w6 (ni p4.length-1))))&&decide (0+Int.toNat (w6 (ni p4.length-1))<=List.length (List.set (List.set p4 (Int.toNat (w6 (ni p4.length-1))) (D.agg (List.take 1 e++[D.dead]++List.drop 2 e))) (0+Int.toNat (w6 (w6 (ni p4.length-1)-1))) (D.agg (List.take 1 l++[D.dead]++List.drop 2 l))))) (dd (List.set (List.set p4 (Int.toNat (w6 (ni p4.length-1))) (D.agg (List.take 1 e++[D.dead]++List.drop 2 e))) (0+Int.toNat (w6 (w6 (ni p4.length-1)-1))) (D.agg (List.take 1 l++[D.dead]++List.drop 2 l))) (0+Int.toNat (w6 (w6 (ni p4.length-1)-1))) fun n=>
 asAgg n fun o=>nam (List.set (List.set (List.set p4 (Int.toNat (w6 (ni p4.length-1))) (D.agg (List.take 1 e++[D.dead]++List.drop 2 e))) (0+Int.toNat (w6 (w6 (ni p4.length-1)-1))) (D.agg (List.take 1 l++[D.dead]++List.drop 2 l))) (0+Int.toNat (w6 (w6 (ni p4.length-1)-1)))
 (D.agg
 (List.take 1 o ++
 [D.os
 (TypeInfo.size (Tables.types (Program.toTables Tryz.prog))[3],
 match rZ Tryz.prog (3) with
 |true=>0
 |false=>1)
 m] ++
 List.drop 2 o))) fun p=>
 AE p0 (Int.toNat (w6 (ni p4.length-1))) (w6 (p1+1)) p2 p3 p g)))))))))
 (ck1 211 [.int .u8 (bt p0 p1)] fun a=>(br a
 (DF p0 p1 (w6 (ni p4.length-1)) p1 p2 p3 p4 p5)
 (Fi 147 [.agg [.rs (5,0) p2]] fun b=>((some ((.tup [.agg [.os (5,0) b],.os (1,0) p3,iN (2),iN p1]),[]))))))))))
 (
 br (decide (ni p4.length>1))
 (Fi 147 [.agg [.rs (5,0) p2]] fun a=>((grd (decide (0<=w6 (ni p4.length-1))&&decide (w6 (ni p4.length-1)<ni p4.length)) (dd p4 (Int.toNat (w6 (ni p4.length-1))) fun b=>
 asAgg b fun c=>dd c 0 fun d=>
 asI .i64 d fun e=>some ((.tup [.agg [.os (5,0) a],.os (1,0) p3,iN (4),iN e]),[])))))
 (ck1 60 [.agg [.rs (5,0) p5]] fun a=>(br (!a)
 (Fi 147 [.agg [.rs (5,0) p2]] fun b=>((some ((.tup [.agg [.os (5,0) b],.os (1,0) p3,iN (6),iN (0)]),[]))))
 (
 grd (decide (0<=0)&&decide (0<ni p4.length)) (dd p4 0 fun b=>
 asAgg b fun c=>dd c 1 fun d=>
 jH (1,0) d fun e=>asAgg b fun f=>grd (decide (ni (List.length ([]++e))<=LIM)) (nam ([]++e) fun g=>
 some ((.tup [.agg [.os (5,0) p5],.os (1,0) g,iN (0),(iN (ni (ByteArray.size p0)))]),[]))))))):=by
 exact(zQ _ _ _).trans (by kernel_rfl)
theorem Xo :V 213 [] =
 some ((.os (1,0) [.str ({ data:=#[40,100,101,102,105,110,101,32,40,102,32,110,41,32,40,105,102,32,40,60,32,110,32,50,41,32,110,32,40,43,32,40,102,32,40,45,32,110,32,49,41,41,32,40,102,32,40,45,32,110,32,50,41,41,41,41,41,32,40,102,32,54,41] }),(.str ({ data:=List.toArray (List.append [40,100,101,102,105,110,101,32,40,117,112,32,110,41,32,40,105,102,32,40,60,32,110,32,51,41,32,40,100,111,32,40] [112,114,105,110,116,32,110,41,32,40,117,112,32,40,43,32,110,32,49,41,41,41,32,110,41,41,32,40,117,112,32,48,41]) })),.str ({ data:=#[40,108,101,116,32,120,32,53,32,40,108,101,116,32,102,32,40,102,110,32,40,121,41,32,40,43,32,120,32,121,41,41,32,40,112,114,105,110,116,32,40,102,32,52,41,41,41,41] }),.str ({ data:=#[40,112,114,105,110,116,32,40,99,97,108,108,99,99,32,40,102,110,32,40,107,41,32,40,100,111,32,40,107,32,55,41,32,56,41,41,41,41] }),(.str ({ data:=List.toArray (List.append [40,100,101,102,105,110,101,32,40,109,97,112,32,102,32,108,41,32,40,105,102,32,40,110,117,108,108,63,32,108,41,32,40,41,32,40,99,111,110,115,32,40,102,32,40,99,97,114,32,108,41,41,32,40,109,97,112,32,102] [32,40,99,100,114,32,108,41,41,41,41,41,32,40,112,114,105,110,116,32,40,109,97,112,32,40,102,110,32,40,120,41,32,40,42,32,120,32,120,41,41,32,40,113,117,111,116,101,32,40,49,32,50,32,51,41,41,41,41]) })),.str ({ data:=#[40,100,111,32,40,115,112,97,119,110,32,40,102,110,32,40,41,32,40,100,111,32,40,112,114,105,110,116,32,49,41,32,40,112,114,105,110,116,32,50,41,41,41,41,32,40,112,114,105,110,116,32,51,41,41] }),(.str ({ data:=List.toArray (List.append [40,108,101,116,32,112,32,40,115,112,97,119,110,32,40,102,110,32,40,41,32,40,112,114,105,110,116,32,40,114,101,99,118,41] [41,41,41,32,40,100,111,32,40,115,101,110,100,32,112,32,40,113,117,111,116,101,32,40,97,32,98,41,41,41,32,48,41,41]) })),(.str ({ data:=List.toArray (List.append [40,108,101,116,32,112,32,40,115,112,97,119,110,32,40,102,110,32,40,41,32,40,108,101,116,32,102,32,40,114,101,99,118,41,32,40,112,114,105,110,116,32,40,102] [32,53,41,41,41,41,41,32,40,108,101,116,32,122,32,57,32,40,115,101,110,100,32,112,32,40,102,110,32,40,120,41,32,40,43,32,120,32,122,41,41,41,41,41]) })),.str ({ data:=#[40,100,111,32,40,112,114,105,110,116,32,49,41,32,40,103,111,32,49,41,32,40,112,114,105,110,116,32,50,41,32,40,103,111,32,48,41,32,40,112,114,105,110,116,32,51,41,41] }),(.str ({ data:=List.toArray (List.append [40,108,101,116,32,109,101,32,40,115,101,108,102,41,32,40,100,111,32,40,115,112,97,119,110,32,40,102,110,32,40,41,32,40,100,111,32,40] [103,111,32,49,41,32,40,115,101,110,100,32,109,101,32,52,50,41,41,41,41,32,40,112,114,105,110,116,32,40,114,101,99,118,41,41,41,41]) })),(.str ({ data:=List.toArray (List.append [40,100,101,102,105,110,101,32,40,108,111,111,112,32,110,41,32,40,105,102,32,40,61,32,110,32,48,41,32,40,112,114,105,110,116,32,40] [113,117,111,116,101,32,101,110,100,41,41,32,40,108,111,111,112,32,40,45,32,110,32,49,41,41,41,41,32,40,108,111,111,112,32,57,41]) })),.str ({ data:=#[40,112,114,105,110,116,32,40,99,97,114,32,40,113,117,111,116,101,32,40,41,41,41,41] }),.str ({ data:=#[40,112,114,105,110,116,32,40,102,32,49,41,41] }),.str ({ data:=#[40,43,32,49,32,35,116,41] }),.str ({ data:=#[40,112,114,105,110,116,32,40,99,111,110,115,32,49,32,40,99,111,110,115,32,50,32,40,41,41,41,41] }),(.str ({ data:=List.toArray (List.append (List.append [40,100,101,102,105,110,101,32,40,112,105,110,103,32,112,32,110,41,32,40,105,102,32,40,60,32,110,32,49,41,32,48,32,40,100,111,32,40,115,101,110,100,32,112,32] [110,41,32,40,112,114,105,110,116,32,40,114,101,99,118,41,41,32,40,112,105,110,103,32,112,32,40,45,32,110,32,49,41,41,41,41,41,32,40,108,101,116,32,109,101,32]) (List.append [40,115,101,108,102,41,32,40,112,105,110,103,32,40,115,112,97,119,110,32,40,102,110,32,40,41,32,40,100,111,32,40,103,111,32,49,41,32,40,115,101,110,100,32,109,101] [32,40,43,32,49,48,32,40,114,101,99,118,41,41,41,32,40,115,101,110,100,32,109,101,32,40,43,32,49,48,32,40,114,101,99,118,41,41,41,41,41,41,32,50,41,41])) })),(.str ({ data:=List.toArray (List.append [40,108,101,116,32,107,32,40,99,97,108,108,99,99,32,40,102,110,32,40,99,41,32,99,41,41,32,40,105,102,32,40,112,97,105,114,63] [32,107,41,32,40,112,114,105,110,116,32,40,99,97,114,32,107,41,41,32,40,107,32,40,113,117,111,116,101,32,40,53,41,41,41,41,41]) })),(.str ({ data:=List.toArray (List.append [40,108,101,116,32,112,32,40,115,112,97,119,110,32,40,102,110,32,40,41,32,40,100,111,32,40,103,111,32,49,41,32,40,108,101,116,32,107,32,40,114,101,99,118,41,32,40,107,32,56] [41,41,41,41,41,32,40,112,114,105,110,116,32,40,99,97,108,108,99,99,32,40,102,110,32,40,107,41,32,40,100,111,32,40,115,101,110,100,32,112,32,107,41,32,51,41,41,41,41,41]) }))]),[]):=by
 exact(zR Tryz.func213 rfl _).trans (by kernel_rfl)
theorem Ou (p:List D)(m1 m2 m3 m4 m5 m6 m7:Int)(cp cl cd:List D)(n:Int)(l:List D):V 206 [.op [.os (5,0) p,iN m1,iN m2,iN m3,iN m4,iN m5,iN m6,iN m7,.rs (5,0) cp,.rs (4,0) cl,.rs (3,0) cd],iN n,.rs (1,0) l] =
 br (ni l.length != 1)
 (some ((iN (2)),[.op [.os (5,0) p,iN m1,iN m2,iN m3,iN m4,iN m5,iN m6,iN m7,.rs (5,0) cp,.rs (4,0) cl,.rs (3,0) cd]]))
 (aeG 119 [.op [.os (5,0) p],iN n] fun a b c=>(((br (!b)
 (some ((iN (7)),[.op [.os (5,0) c,iN m1,iN m2,iN m3,iN m4,iN m5,iN m6,iN m7,.rs (5,0) cp,.rs (4,0) cl,.rs (3,0) cd]]))
 (
 br (ni a.length != 4)
 (some ((iN (7)),[.op [.os (5,0) c,iN m1,iN m2,iN m3,iN m4,iN m5,iN m6,iN m7,.rs (5,0) cp,.rs (4,0) cl,.rs (3,0) cd]]))
 (
 grd (decide (0<=0)&&decide (0<ni a.length)) (dd a 0 fun d=>
 asI .i64 d fun e=>grd (decide (0<=e)&&decide (e<ni c.length)) (dd c e.toNat fun f=>
 asAgg f fun g=>dd g 0 fun h=>
 asI .i64 h fun i=>br (i != 3)
 (some ((iN (7)),[.op [.os (5,0) c,iN m1,iN m2,iN m3,iN m4,iN m5,iN m6,iN m7,.rs (5,0) cp,.rs (4,0) cl,.rs (3,0) cd]]))
 (
 grd (decide (0<=0)&&decide (0<ni a.length)) (dd a 0 fun j=>
 asI .i64 j fun k=>grd (decide (0<=k)&&decide (k<ni c.length)) (dd c k.toNat fun m=>
 asAgg m fun o=>dd o 1 fun q=>
 asI .i64 q fun r=>ck1 57 [.agg [.rs (5,0) cp,.rs (4,0) cl,.rs (3,0) cd],iN r] fun s=>(br (!s)
 (some ((iN (7)),[.op [.os (5,0) c,iN m1,iN m2,iN m3,iN m4,iN m5,iN m6,iN m7,.rs (5,0) cp,.rs (4,0) cl,.rs (3,0) cd]]))
 (
 grd (decide (0<=0)&&decide (0<ni a.length)) (dd a 0 fun t=>
 asI .i64 t fun u=>grd (decide (0<=u)&&decide (u<ni c.length)) (dd c u.toNat fun v=>
 asAgg v fun w=>dd w 1 fun x=>
 asI .i64 x fun y=>grd (decide (0<=1)&&decide (1<ni a.length)) (dd a 1 fun z=>
 asI .i64 z fun A=>grd (decide (0<=2)&&decide (2<ni a.length)) (dd a 2 fun B=>
 asI .i64 B fun C=>grd (decide (0<=3)&&decide (3<ni a.length)) (dd a 3 fun E=>
 asI .i64 E fun F=>grd (decide (0<=0)&&decide (0<ni l.length)) (dd l 0 fun G=>
 asI .i64 G fun H=>Vf 185 [.op [.os (5,0) c,iN y,iN A,iN C,iN F,iN m5,iN m6,iN m7,.rs (5,0) cp,.rs (4,0) cl,.rs (3,0) cd],iN H] fun I J K L M N O P Q R S=>(((some ((iN (0)),[.op [.os (5,0) I,iN J,iN K,iN L,iN M,iN N,iN O,iN P,.rs (5,0) Q,.rs (4,0) R,.rs (3,0) S]]))))))))))))))))))))))):=by
 exact(zR Tryz.func206 rfl _).trans (by kernel_rfl)
theorem QO (p:List D)(m1 m2 m3 m4 m5 m6 m7:Int)(cp cl cd:List D)(f:Int)(l:List D):V 184 [.op [.os (5,0) p,iN m1,iN m2,iN m3,iN m4,iN m5,iN m6,iN m7,.rs (5,0) cp,.rs (4,0) cl,.rs (3,0) cd],iN f,.rs (1,0) l] =
 grd (decide (0<=f)&&decide (f<ni p.length)) (dd p f.toNat fun a=>
 tk2 a fun b c d e g=>(br (b==6)
 (LQ 204 [.op [.os (5,0) p,iN m1,iN m2,iN m3,iN m4,iN m5,iN m6,iN m7,.rs (5,0) cp,.rs (4,0) cl,.rs (3,0) cd],.agg [iN b,iN c,.str d,iN e,iN g],.rs (1,0) l] fun h i j k m n o q r s t u=>((some ((iN h),[.op [.os (5,0) i,iN j,iN k,iN m,iN n,iN o,iN q,iN r,.rs (5,0) s,.rs (4,0) t,.rs (3,0) u]]))))
 (
 br (b==8)
 (LQ 205 [.op [.os (5,0) p,iN m1,iN m2,iN m3,iN m4,iN m5,iN m6,iN m7,.rs (5,0) cp,.rs (4,0) cl,.rs (3,0) cd],iN c,.rs (1,0) l] fun h i j k m n o q r s t u=>((some ((iN h),[.op [.os (5,0) i,iN j,iN k,iN m,iN n,iN o,iN q,iN r,.rs (5,0) s,.rs (4,0) t,.rs (3,0) u]]))))
 (
 br (b==7)
 (LQ 206 [.op [.os (5,0) p,iN m1,iN m2,iN m3,iN m4,iN m5,iN m6,iN m7,.rs (5,0) cp,.rs (4,0) cl,.rs (3,0) cd],iN e,.rs (1,0) l] fun h i j k m n o q r s t u=>((some ((iN h),[.op [.os (5,0) i,iN j,iN k,iN m,iN n,iN o,iN q,iN r,.rs (5,0) s,.rs (4,0) t,.rs (3,0) u]]))))
 (some ((iN (3)),[.op [.os (5,0) p,iN m1,iN m2,iN m3,iN m4,iN m5,iN m6,iN m7,.rs (5,0) cp,.rs (4,0) cl,.rs (3,0) cd]])))))):=by
 exact(zR Tryz.func184 rfl _).trans (by kernel_rfl)
theorem Xk (a0_0:List D)(a0_1 a0_2 a1_0 a1_1:Int)(a1_2:ByteArray)(a1_3 a1_4:Int):V 156 [.op [.rs (1,0) a0_0,iN a0_1,iN a0_2],.agg [iN a1_0,iN a1_1,.str a1_2,iN a1_3,iN a1_4]] =
 ck9 76 [.op [.rs (1,0) a0_0,iN a0_1,iN a0_2],iN (8)] fun a b c d=>((br (a==0)
 (ck9 76 [.op [.rs (1,0) b,iN c,iN d],iN (11)] fun e f g h=>((some ((.agg [iN e,iN a1_1,.str a1_2,iN a1_3,iN a1_4]),[.op [.rs (1,0) f,iN g,iN h]]))))
 (
 br (a==1)
 (ck9 76 [.op [.rs (1,0) b,iN c,iN d],iN (20)] fun e f g h=>((some ((.agg [iN a1_0,iN a1_1,.str a1_2,(iN (w6 (e-1))),iN a1_4]),[.op [.rs (1,0) f,iN g,iN h]]))))
 (
 br (a==2)
 (ck9 76 [.op [.rs (1,0) b,iN c,iN d],iN (20)] fun e f g h=>((some ((.agg [iN a1_0,iN a1_1,.str a1_2,iN a1_3,(iN (w6 (e-1)))]),[.op [.rs (1,0) f,iN g,iN h]]))))
 (
 br (a==3)
 (ck9 122 [.op [.rs (1,0) b,iN c,iN d],(.rs (1,0) [iN (-1),iN (2),iN (99),iN (100),iN (1000000000),iN (1000000001),iN (-1000000000),iN (-1000000001)])] fun e f g h=>((some ((.agg [iN a1_0,iN e,.str a1_2,iN a1_3,iN a1_4]),[.op [.rs (1,0) f,iN g,iN h]]))))
 (
 br (a==4)
 (QJ 75 [.op [.rs (1,0) b,iN c,iN d],(.rs (1,0) [.str ({ data:=#[] }),.str ({ data:=#[97] }),.str ({ data:=#[65,98] }),.str ({ data:=#[97,98,99,100,101,102,103,104,105,106,107,108] }),.str ({ data:=#[97,98,99,100,101,102,103,104,105,106,107,108,109] }),.str ({ data:=#[97,49] })])] fun e f g h=>((some ((.agg [iN a1_0,iN a1_1,.str e,iN a1_3,iN a1_4]),[.op [.rs (1,0) f,iN g,iN h]]))))
 (some ((.agg [iN a1_0,iN a1_1,.str a1_2,iN a1_3,iN a1_4]),[.op [.rs (1,0) b,iN c,iN d]])))))))):=by
 exact(zR Tryz.func156 rfl _).trans (by kernel_rfl)
theorem Vz (a0_ a1_0 a1_1:Int)(a1_2:ByteArray)(a1_3 a1_4 a2_0 a2_1:Int)(a2_2:ByteArray)(a2_3 a2_4:Int):V 250 [iN a0_,.agg [iN a1_0,iN a1_1,.str a1_2,iN a1_3,iN a1_4],.agg [iN a2_0,iN a2_1,.str a2_2,iN a2_3,iN a2_4]] =
 br (a1_0 != 3)
 (some ((.tup [.agg [iN (0),iN (0),.str ({ data:=#[] }),iN (0),iN (0)],iN (3)]),[]))
 (
 br (a2_0 != 3)
 (some ((.tup [.agg [iN (0),iN (0),.str ({ data:=#[] }),iN (0),iN (0)],iN (3)]),[]))
 (
 br (a0_==2)
 (ck1 62 [(iN (w6 (a1_1-a2_1))),iN (-1000000000),iN (1000000000)] fun a=>(br (!a)
 (some ((.tup [.agg [iN (0),iN (0),.str ({ data:=#[] }),iN (0),iN (0)],iN (4)]),[]))
 (some ((.tup [(.agg [iN (3),(iN (w6 (a1_1-a2_1))),.str ({ data:=#[] }),iN (0),iN (0)]),iN (0)]),[]))))
 (
 br (a0_==3)
 (ck1 62 [(iN (w6 (a1_1*a2_1))),iN (-1000000000),iN (1000000000)] fun a=>(br (!a)
 (some ((.tup [.agg [iN (0),iN (0),.str ({ data:=#[] }),iN (0),iN (0)],iN (4)]),[]))
 (some ((.tup [(.agg [iN (3),(iN (w6 (a1_1*a2_1))),.str ({ data:=#[] }),iN (0),iN (0)]),iN (0)]),[]))))
 (
 br (a0_==4)
 (ck2 251 [(.bool (decide (a1_1<a2_1)))] fun a b c d e=>((some ((.tup [.agg [iN a,iN b,.str c,iN d,iN e],iN (0)]),[]))))
 (
 br (a0_==5)
 (ck2 251 [.bool (a1_1==a2_1)] fun a b c d e=>((some ((.tup [.agg [iN a,iN b,.str c,iN d,iN e],iN (0)]),[]))))
 (ck1 62 [(iN (w6 (a1_1+a2_1))),iN (-1000000000),iN (1000000000)] fun a=>(br (!a)
 (some ((.tup [.agg [iN (0),iN (0),.str ({ data:=#[] }),iN (0),iN (0)],iN (4)]),[]))
 (some ((.tup [(.agg [iN (3),(iN (w6 (a1_1+a2_1))),.str ({ data:=#[] }),iN (0),iN (0)]),iN (0)]),[]))))))))):=by
 exact(zR Tryz.func250 rfl _).trans (by kernel_rfl)
theorem Qb (p:List D)(m1 m2 m3 m4 m5 m6 m7:Int)(cp cl cd:List D)(k n:Int)(s:ByteArray)(a b:Int)(l:List D):V 204 [.op [.os (5,0) p,iN m1,iN m2,iN m3,iN m4,iN m5,iN m6,iN m7,.rs (5,0) cp,.rs (4,0) cl,.rs (3,0) cd],.agg [iN k,iN n,.str s,iN a,iN b],.rs (1,0) l] =
 grd (!decide (8=0)) (br (Int.tmod n (8) != ni l.length)
 (some ((iN (2)),[.op [.os (5,0) p,iN m1,iN m2,iN m3,iN m4,iN m5,iN m6,iN m7,.rs (5,0) cp,.rs (4,0) cl,.rs (3,0) cd]]))
 (grd (!decide (8=0)) (ck1 57 [.agg [.rs (5,0) cp,.rs (4,0) cl,.rs (3,0) cd],(iN (w6 (Int.tdiv n (8))))] fun c=>(br (!c)
 (some ((iN (7)),[.op [.os (5,0) p,iN m1,iN m2,iN m3,iN m4,iN m5,iN m6,iN m7,.rs (5,0) cp,.rs (4,0) cl,.rs (3,0) cd]]))
 (AP 157 [.op [.os (5,0) p],(.agg [iN (3),(iN (w6 (m1+1))),.str ({ data:=#[] }),iN (0),iN (0)])] fun d e=>((AP 222 [.op [.os (5,0) e],.rs (1,0) [iN d,iN m2,iN m3]] fun f g=>((AP 94 [.op [.os (5,0) g],iN f,iN m4] fun h i=>((AP 222 [.op [.os (5,0) i],.rs (1,0) l] fun j m=>((AP 94 [.op [.os (5,0) m],iN j,iN a] fun o q=>((AP 157 [.op [.os (5,0) q],(.agg [iN (1),iN (0),.str ({ data:=#[] }),iN (0),iN (0)])] fun r t=>((grd (!decide (8=0)) (some ((iN (0)),[(.op [.os (5,0) t,(iN (w6 (Int.tdiv n (8)))),iN r,iN o,iN h,iN m5,iN m6,iN m7,.rs (5,0) cp,.rs (4,0) cl,.rs (3,0) cd])]))))))))))))))))))):=by
 exact(zR Tryz.func204 rfl _).trans (by kernel_rfl)
theorem Vw (a0_0:List D)(a0_1 a0_2:Int)(a1_0:List D):V 91 [.op [.rs (1,0) a0_0,iN a0_1,iN a0_2],.agg [.rs (5,0) a1_0]] =
 br (ni a1_0.length==0)
 (ck9 122 [.op [.rs (1,0) a0_0,iN a0_1,iN a0_2],(.rs (1,0) [iN (-1),iN (0),(iN (ni a1_0.length))])] fun a b c d=>((some ((iN a),[.op [.rs (1,0) b,iN c,iN d]]))))
 (YO 155 [.op [.rs (1,0) a0_0,iN a0_1,iN a0_2],iN (20)] fun a b c d=>((br a
 (ck9 122 [.op [.rs (1,0) b,iN c,iN d],(.rs (1,0) [iN (-1),iN (0),(iN (ni a1_0.length))])] fun e f g h=>((some ((iN e),[.op [.rs (1,0) f,iN g,iN h]]))))
 (Ir 116 [(iN (ni a1_0.length)),iN (9)] fun e=>(ck9 76 [.op [.rs (1,0) b,iN c,iN d],iN e] fun f g h i=>((some ((iN (w6 (w6 (ni a1_0.length-1)-f))),[.op [.rs (1,0) g,iN h,iN i]])))))))):=by
 exact(zR Tryz.func91 rfl _).trans (by kernel_rfl)
theorem Iv (p0 p1 p2:Int)(p3 p4 p5:List D)(p6 p7:Int)(p8:ByteArray)(p9 p10:Int):AR p0 p1 p2 p3 p4 p5 p6 p7 p8 p9 p10 =
 br (decide (p2<p0))
 (
 grd (decide (0<=p2)&&decide (p2<ni p5.length)) (dd p5 p2.toNat fun a=>
 tk2 a fun b c d e f=>(br (b==p6&&(c==p7&&(kJ d p8&&(e==p9&&(f==p10&&true)))))
 (
 grd (decide (ni (List.length (p5++[D.agg [iN p6,iN p7,D.str p8,iN p9,iN p10]]))<=LIM)) (nam (p5++[D.agg [iN p6,iN p7,D.str p8,iN p9,iN p10]]) fun g=>
 grd (decide (ni (List.length (p4++[iN p2]))<=LIM)) (nam (p4++[iN p2]) fun h=>
 Cz (w6 (p0+1)) p3 h g)))
 (AR p0 p1 (w6 (p2+1)) p3 p4 p5 p6 p7 p8 p9 p10))))
 (
 grd (decide (ni (List.length (p5++[D.agg [iN p6,iN p7,D.str p8,iN p9,iN p10]]))<=LIM)) (nam (p5++[D.agg [iN p6,iN p7,D.str p8,iN p9,iN p10]]) fun a=>
 grd (decide (ni (List.length (p4++[iN p1]))<=LIM)) (nam (p4++[iN p1]) fun b=>
 Cz (w6 (p0+1)) p3 b a))):=by
 exact(zQ _ _ _).trans (by kernel_rfl)
theorem RI (a0_0 a0_1 a0_2 a1_0:List D)(a1_1 a1_2 a1_3 a1_4 a1_5 a1_6 a1_7:Int):V 20 [.agg [.rs (5,0) a0_0,.rs (4,0) a0_1,.rs (3,0) a0_2],.agg [.rs (5,0) a1_0,iN a1_1,iN a1_2,iN a1_3,iN a1_4,iN a1_5,iN a1_6,iN a1_7]] =
 ck1 15 [.agg [.rs (5,0) a0_0,.rs (4,0) a0_1,.rs (3,0) a0_2],(.agg [.rs (5,0) a1_0,iN a1_1,iN a1_2,iN a1_3,iN a1_4,iN a1_5,iN a1_6,iN a1_7])] fun a=>(br (!a)
 (some ((.tup [.str ({ data:=#[] }),.bool false]),[]))
 (ck7 28 [.agg [.rs (5,0) a1_0,iN a1_1,iN a1_2,iN a1_3,iN a1_4,iN a1_5,iN a1_6,iN a1_7]] fun b c d e f g h i=>((DP (0) c d e f g h i [] ([iN c,iN g,iN h,iN d,iN e,iN f,iN i]) b)))):=by
 exact(zR Tryz.func20 rfl _).trans (by kernel_rfl)
theorem Qd (a0_0:List D)(a0_1 a0_2:Int):V 192 [.op [.rs (1,0) a0_0,iN a0_1,iN a0_2]] =
 YO 155 [(
 .op [.rs (1,0) a0_0,iN a0_1,iN a0_2]),iN (4)] fun a b c d=>((br (!a)
 (AY 213 [] fun e=>(QJ 75 [.op [.rs (1,0) b,iN c,iN d],.rs (1,0) e] fun f g h i=>((some ((.str f),[.op [.rs (1,0) g,iN h,iN i]])))))
 (QJ 214 [.op [.rs (1,0) b,iN c,iN d],iN (3)] fun e f g h=>((some ((.str e),[.op [.rs (1,0) f,iN g,iN h]])))))):=by
 exact(zR Tryz.func192 rfl _).trans (by kernel_rfl)
theorem GF (p0 p1 p2 p3 p4 p5 p6 p7 p8:Int)(p9 p10 p11:List D):DL p0 p1 p2 p3 p4 p5 p6 p7 p8 p9 p10 p11 =
 br (decide (p1<p0))
 (
 grd (decide (0<=p1)&&decide (p1<ni p10.length)) (dd p10 p1.toNat fun a=>
 asI .i64 a fun b=>AY 67 [iN b] fun c=>(grd (decide (ni (List.length (p9++c))<=LIM)) (nam (p9++c) fun d=>
 DL p0 (w6 (p1+1)) p2 p3 p4 p5 p6 p7 p8 d p10 p11))))
 (AY 68 [.agg [.rs (5,0) p11]] fun a=>(grd (decide (ni (List.length (p9++a))<=LIM)) (nam (p9++a) fun b=>
 gN b fun c=>some ((.tup [.str c,.bool true]),[])))):=by
 exact(zQ _ _ _).trans (by kernel_rfl)
theorem Oh (p:List D)(m1 m2 m3 m4 m5 m6 m7:Int)(cp cl cd:List D)(k:Int):V 132 [.op [.os (5,0) p,iN m1,iN m2,iN m3,iN m4,iN m5,iN m6,iN m7,.rs (5,0) cp,.rs (4,0) cl,.rs (3,0) cd],iN k] =
 ck1 57 [.agg [.rs (5,0) cp,.rs (4,0) cl,.rs (3,0) cd],(iN (w6 (m1+1)))] fun a=>(br (!a)
 (some ((iN (7)),[.op [.os (5,0) p,iN m1,iN m2,iN m3,iN m4,iN m5,iN m6,iN m7,.rs (5,0) cp,.rs (4,0) cl,.rs (3,0) cd]]))
 (Cy (w6 (k+1)) (0) m1 m2 m3 m4 m5 m6 m7 cp cl cd [] p)):=by
 exact(zR Tryz.func132 rfl _).trans (by kernel_rfl)
theorem UG (a0_0:List D)(a0_1 a0_2:Int)(a1_:List D):V 122 [.op [.rs (1,0) a0_0,iN a0_1,iN a0_2],.rs (1,0) a1_] =
 ck9 76 [.op [.rs (1,0) a0_0,iN a0_1,iN a0_2],(iN (ni a1_.length))] fun a b c d=>((grd (decide (0<=a)&&decide (a<ni a1_.length)) (dd a1_ a.toNat fun e=>
 asI .i64 e fun f=>some ((iN f),[.op [.rs (1,0) b,iN c,iN d]])))):=by
 exact(zR Tryz.func122 rfl _).trans (by kernel_rfl)
theorem Iu (p0:List D)(p1:ByteArray)(p2 p3:Int):D6 p0 p1 p2 p3 =
 br (decide (p3<p2))
 (
 grd (decide (0<=p3)&&decide (p3<ni p0.length)) (dd p0 p3.toNat fun a=>
 tk1 a fun b c d=>(ck1 179 [.agg [.str b,iN c,iN d],(.bp [.str p1])] fun e=>(br e
 (some ((iN p3),[]))
 (D6 p0 p1 p2 (w6 (p3+1)))))))
 (some ((iN (-1)),[])):=by
 exact(zQ _ _ _).trans (by kernel_rfl)
theorem ZA (cp cl cd p:List D)(m1 m2 m3 m4 m5 m6 m7 k nx:Int):V 219 [.agg [.rs (5,0) cp,.rs (4,0) cl,.rs (3,0) cd],.op [.os (5,0) p,iN m1,iN m2,iN m3,iN m4,iN m5,iN m6,iN m7],iN k,iN nx] =
 grd (decide (0<=k)&&decide (k<=LIM)) (GW nx (w6 (k-1)) m1 m2 m3 m4 m5 m6 m7 cp cl cd (List.replicate k.toNat (iN (0))) p):=by
 exact(zR Tryz.func219 rfl _).trans (by kernel_rfl)
theorem RF (b:List D)(i:Int)(k:Bool) :V 190 [.op [.os (1,0) b,iN i,.bool k]] =
 agK 209 [.rs (1,0) b,iN i] fun a c d=>((br (!d)
 (some ((.str ({ data:=#[] })),[.op [.os (1,0) b,iN i,.bool false]]))
 (some ((.str a),[.op [.os (1,0) b,iN c,.bool k]])))):=by
 exact(zR Tryz.func190 rfl _).trans (by kernel_rfl)
theorem ZL (a0_0 a1_:List D):V 86 [.agg [.rs (5,0) a0_0],.rs (1,0) a1_] =
 AY 149 [.agg [.rs (5,0) a0_0],.rs (1,0) a1_] fun a=>(aav 148 [.op [.os (5,0) []],(.agg [.rs (5,0) a0_0]),.rs (1,0) a] fun b c=>((GX a1_ (0) b [] c))):=by
 exact(zR Tryz.func86 rfl _).trans (by kernel_rfl)
theorem KY (p0:Int)(p1 p2 p3:List D):GK p0 p1 p2 p3 =
 br (decide (p0<ni p2.length))
 (ck1 127 [.agg [.rs (5,0) p1,.rs (4,0) p2,.rs (3,0) p3],iN p0] fun a=>(br (!a)
 (some ((.bool false),[]))
 (GK (w6 (p0+1)) p1 p2 p3)))
 (GL (0) p1 p2 p3):=by
 exact(zQ _ _ _).trans (by kernel_rfl)
theorem Xh (a0_0 a1_:List D):V 193 [.agg [.rs (5,0) a0_0],.rs (1,0) a1_] =
 ck1 60 [.agg [.rs (5,0) a0_0]] fun a=>(br (!a)
 (some ((.tup [.agg [.os (5,0) [],.os (4,0) [],.os (3,0) []],iN (3),iN (0)]),[]))
 (Gk a1_ (0) a0_0)):=by
 exact(zR Tryz.func193 rfl _).trans (by kernel_rfl)
theorem Tz (a0_:Int):V 211 [.int .u8 a0_] =
 ck1 180 [.int .u8 a0_] fun a=>(br a
 (some ((.bool true),[]))
 (ck1 226 [.int .u8 a0_] fun b=>(br b
 (some ((.bool true),[]))
 (some ((.bool (a0_==35)),[]))))):=by
 exact(zR Tryz.func211 rfl _).trans (by kernel_rfl)
theorem Xi (a0_:ByteArray):V 139 [.str a0_] =
 AY 69 [(iN (ni (ByteArray.size a0_)))] fun a=>(grd (decide (ni (List.length (a++iv a0_))<=LIM)) (nam (a++iv a0_) fun b=>
 some ((.os (1,0) b),[]))):=by
 exact(zR Tryz.func139 rfl _).trans (by kernel_rfl)
theorem Kt (a0_:List D)(a1_:Int):V 203 [.rs (1,0) a0_,.int .u8 a1_] =
 Ir 221 [.rs (1,0) a0_,.int .u8 a1_] fun a=>(some ((.bool (decide (a>=0))),[])):=by
 exact(zR Tryz.func203 rfl _).trans (by kernel_rfl)
theorem RL (a0_0:List D)(a0_1 a0_2:Int):V 142 [.op [.rs (1,0) a0_0,iN a0_1,iN a0_2]] =
 CJ (0) a0_0 a0_1 a0_2:=by
 exact(zR Tryz.func142 rfl _).trans (by kernel_rfl)
theorem Zh (a0_:ByteArray):V 232 [.str a0_] =
 AY 239 [] fun a=>(GQ a0_ (1) a):=by
 exact(zR Tryz.func232 rfl _).trans (by kernel_rfl)
theorem YV (a0_0:List D):V 55 [.agg [.rs (5,0) a0_0]] =
 GG a0_0 (ni a0_0.length) (0) a0_0:=by
 exact(zR Tryz.func55 rfl _).trans (by kernel_rfl)
theorem adO (a0_:List D):V 12 [.rs (1,0) a0_] =
 some ((.bool (decide (ni a0_.length>1048576))),[]):=by
 exact(zR Tryz.func12 rfl _).trans (by kernel_rfl)

end Go.Eng
/-! the functions as the interpreter has them -/
namespace Go.Eng
open Go.Proofs Go.Proofs.Tryz
set_option maxRecDepth 100000
theorem TG (a0_0:List D)(a0_1 a0_2:Int):V 112 [.op [.rs (1,0) a0_0,iN a0_1,iN a0_2]] =
 aeM 142 [.op [.rs (1,0) a0_0,iN a0_1,iN a0_2]] fun a b c d e f=>(((Ir 129 [.agg [.rs (5,0) a,.rs (4,0) b,.rs (3,0) c],.str ({ data:=#[109,97,105,110] })] fun g=>(br (decide (g<0))
 (
 br (decide (ni c.length>0))
 (
 grd (decide (0<=0)&&decide (0<ni c.length)) (dd c 0 fun h=>
 asAgg h fun i=>dd i 0 fun j=>
 asS j fun k=>Uv 78 [.agg [.rs (5,0) a,.rs (4,0) b,.rs (3,0) c],.str k] fun l m n o p q r s t=>(((br (!t)
 (Uv 171 [.agg [.rs (5,0) a,.rs (4,0) b,.rs (3,0) c],(.agg [(.rs (5,0) [.agg [iN (1),iN (0),.str ({ data:=#[] }),iN (0),iN (0)],(.agg [iN (6),iN (0),.str ({ data:=#[] }),iN (0),iN (0)])])]),iN (1)] fun u v w x y z A B _=>(((ck9 76 [.op [.rs (1,0) d,iN e,iN f],iN (60)] fun C E F G=>((aaz 172 [.op [.rs (1,0) E,iN F,iN G],(.agg [.rs (5,0) a,.rs (4,0) b,.rs (3,0) c]),(.agg [.os (5,0) u,iN v,iN w,iN x,iN y,iN z,iN A,iN B]),iN C] fun H I J K L M N O P Q R=>(((some ((.tup [.agg [.rs (5,0) a,.rs (4,0) b,.rs (3,0) c],(.agg [.os (5,0) H,iN I,iN J,iN K,iN L,iN M,iN N,iN O])]),[.op [.rs (1,0) P,iN Q,iN R]]))))))))))
 (ck9 76 [.op [.rs (1,0) d,iN e,iN f],iN (60)] fun u v w x=>((aaz 172 [.op [.rs (1,0) v,iN w,iN x],(.agg [.rs (5,0) a,.rs (4,0) b,.rs (3,0) c]),(.agg [.os (5,0) l,iN m,iN n,iN o,iN p,iN q,iN r,iN s]),iN u] fun y z A B C E F G H I J=>(((some ((.tup [.agg [.rs (5,0) a,.rs (4,0) b,.rs (3,0) c],(.agg [.os (5,0) y,iN z,iN A,iN B,iN C,iN E,iN F,iN G])]),[.op [.rs (1,0) H,iN I,iN J]]))))))))))))
 (Uv 78 [(.agg [(.rs (
 5,0) a),.rs (4,0) b,.rs (3,0) c]),.str ({ data:=#[109,97,105,110] })] fun h i j k l m n o p=>(((br (!p)
 (Uv 171 [.agg [.rs (5,0) a,.rs (4,0) b,.rs (3,0) c],(.agg [(.rs (5,0) [.agg [iN (1),iN (0),.str ({ data:=#[] }),iN (0),iN (0)],(.agg [iN (6),iN (0),.str ({ data:=#[] }),iN (0),iN (0)])])]),iN (1)] fun q r s t u v w x _=>(((ck9 76 [.op [.rs (1,0) d,iN e,iN f],iN (60)] fun y z A B=>((aaz 172 [.op [.rs (1,0) z,iN A,iN B],(.agg [.rs (5,0) a,.rs (4,0) b,.rs (3,0) c]),(.agg [.os (5,0) q,iN r,iN s,iN t,iN u,iN v,iN w,iN x]),iN y] fun C E F G H I J K L M N=>(((some ((.tup [.agg [.rs (5,0) a,.rs (4,0) b,.rs (3,0) c],(.agg [.os (5,0) C,iN E,iN F,iN G,iN H,iN I,iN J,iN K])]),[.op [.rs (1,0) L,iN M,iN N]]))))))))))
 (ck9 76 [.op [.rs (1,0) d,iN e,iN f],iN (60)] fun q r s t=>((aaz 172 [.op [.rs (1,0) r,iN s,iN t],(.agg [.rs (5,0) a,.rs (4,0) b,.rs (3,0) c]),(.agg [.os (5,0) h,iN i,iN j,iN k,iN l,iN m,iN n,iN o]),iN q] fun u v w x y z A B C E F=>(((some ((.tup [.agg [.rs (5,0) a,.rs (4,0) b,.rs (3,0) c],(.agg [.os (5,0) u,iN v,iN w,iN x,iN y,iN z,iN A,iN B])]),[.op [.rs (1,0) C,iN E,iN F]]))))))))))))
 (Uv 78 [(.agg [(.rs (
 5,0) a),.rs (4,0) b,.rs (3,0) c]),.str ({ data:=#[109,97,105,110] })] fun h i j k l m n o p=>(((br (!p)
 (Uv 171 [.agg [.rs (5,0) a,.rs (4,0) b,.rs (3,0) c],(.agg [(.rs (5,0) [.agg [iN (1),iN (0),.str ({ data:=#[] }),iN (0),iN (0)],(.agg [iN (6),iN (0),.str ({ data:=#[] }),iN (0),iN (0)])])]),iN (1)] fun q r s t u v w x _=>(((ck9 76 [.op [.rs (1,0) d,iN e,iN f],iN (60)] fun y z A B=>((aaz 172 [.op [.rs (1,0) z,iN A,iN B],(.agg [.rs (5,0) a,.rs (4,0) b,.rs (3,0) c]),(.agg [.os (5,0) q,iN r,iN s,iN t,iN u,iN v,iN w,iN x]),iN y] fun C E F G H I J K L M N=>(((some ((.tup [.agg [.rs (5,0) a,.rs (4,0) b,.rs (3,0) c],(.agg [.os (5,0) C,iN E,iN F,iN G,iN H,iN I,iN J,iN K])]),[.op [.rs (1,0) L,iN M,iN N]]))))))))))
 (ck9 76 [.op [.rs (1,0) d,iN e,iN f],iN (60)] fun q r s t=>((aaz 172 [.op [.rs (1,0) r,iN s,iN t],(.agg [.rs (5,0) a,.rs (4,0) b,.rs (3,0) c]),(.agg [.os (5,0) h,iN i,iN j,iN k,iN l,iN m,iN n,iN o]),iN q] fun u v w x y z A B C E F=>(((some ((.tup [.agg [.rs (5,0) a,.rs (4,0) b,.rs (3,0) c],(.agg [.os (5,0) u,iN v,iN w,iN x,iN y,iN z,iN A,iN B])]),[.op [.rs (1,0) C,iN E,iN F]]))))))))))))))):=by
 exact(zR Tryz.func112 rfl _).trans (by kernel_rfl)
theorem Ki (p0:Int)(p1 p2:List D):Aj p0 p1 p2 =
 br (decide (p0<ni p1.length))
 (
 grd (decide (0<=p0)&&decide (p0<ni p1.length)) (dd p1 p0.toNat fun a=>
 tk2 a fun b c d e f=>(AY 69 [iN b] fun g=>(grd (decide (ni (List.length (p2++g))<=LIM)) (nam (p2++g) fun h=>
 br (b==2)
 (
 br (b==2)
 (AY 69 [iN c] fun i=>(grd (decide (ni (List.length (h++i))<=LIM)) (nam (h++i) fun j=>
 Aj (w6 (p0+1)) p1 j)))
 (
 br (b==3)
 (AY 69 [(iN (w6 (c+1000000000)))] fun i=>(grd (decide (ni (List.length (h++i))<=LIM)) (nam (h++i) fun j=>
 Aj (w6 (p0+1)) p1 j)))
 (
 br (b==4)
 (AY 139 [.str d] fun i=>(grd (decide (ni (List.length (h++i))<=LIM)) (nam (h++i) fun j=>
 Aj (w6 (p0+1)) p1 j)))
 (
 br (b==5)
 (AY 69 [iN e] fun i=>(grd (decide (ni (List.length (h++i))<=LIM)) (nam (h++i) fun j=>
 AY 69 [iN f] fun k=>(grd (decide (ni (List.length (j++k))<=LIM)) (nam (j++k) fun l=>
 Aj (w6 (p0+1)) p1 l)))))
 (
 br (b==6)
 (AY 69 [iN c] fun i=>(grd (decide (ni (List.length (h++i))<=LIM)) (nam (h++i) fun j=>
 AY 69 [iN e] fun k=>(grd (decide (ni (List.length (j++k))<=LIM)) (nam (j++k) fun l=>
 Aj (w6 (p0+1)) p1 l)))))
 (
 br (b==7)
 (AY 69 [iN e] fun i=>(grd (decide (ni (List.length (h++i))<=LIM)) (nam (h++i) fun j=>
 Aj (w6 (p0+1)) p1 j)))
 (Aj (w6 (p0+1)) p1 h)))))))
 (
 br (b==8)
 (
 br (b==8)
 (AY 69 [iN c] fun i=>(grd (decide (ni (List.length (h++i))<=LIM)) (nam (h++i) fun j=>
 Aj (w6 (p0+1)) p1 j)))
 (
 br (b==3)
 (AY 69 [(iN (w6 (c+1000000000)))] fun i=>(grd (decide (ni (List.length (h++i))<=LIM)) (nam (h++i) fun j=>
 Aj (w6 (p0+1)) p1 j)))
 (
 br (b==4)
 (AY 139 [.str d] fun i=>(grd (decide (ni (List.length (h++i))<=LIM)) (nam (h++i) fun j=>
 Aj (w6 (p0+1)) p1 j)))
 (
 br (b==5)
 (AY 69 [iN e] fun i=>(grd (decide (ni (List.length (h++i))<=LIM)) (nam (h++i) fun j=>
 AY 69 [iN f] fun k=>(grd (decide (ni (List.length (j++k))<=LIM)) (nam (j++k) fun l=>
 Aj (w6 (p0+1)) p1 l)))))
 (
 br (b==6)
 (AY 69 [iN c] fun i=>(grd (decide (ni (List.length (h++i))<=LIM)) (nam (h++i) fun j=>
 AY 69 [iN e] fun k=>(grd (decide (ni (List.length (j++k))<=LIM)) (nam (j++k) fun l=>
 Aj (w6 (p0+1)) p1 l)))))
 (
 br (b==7)
 (AY 69 [iN e] fun i=>(grd (decide (ni (List.length (h++i))<=LIM)) (nam (h++i) fun j=>
 Aj (w6 (p0+1)) p1 j)))
 (Aj (w6 (p0+1)) p1 h)))))))
 (
 br (b==9)
 (AY 69 [iN c] fun i=>(grd (decide (ni (List.length (h++i))<=LIM)) (nam (h++i) fun j=>
 Aj (w6 (p0+1)) p1 j)))
 (
 br (b==3)
 (AY 69 [(iN (w6 (c+1000000000)))] fun i=>(grd (decide (ni (List.length (h++i))<=LIM)) (nam (h++i) fun j=>
 Aj (w6 (p0+1)) p1 j)))
 (
 br (b==4)
 (AY 139 [.str d] fun i=>(grd (decide (ni (List.length (h++i))<=LIM)) (nam (h++i) fun j=>
 Aj (w6 (p0+1)) p1 j)))
 (
 br (b==5)
 (AY 69 [iN e] fun i=>(grd (decide (ni (List.length (h++i))<=LIM)) (nam (h++i) fun j=>
 AY 69 [iN f] fun k=>(grd (decide (ni (List.length (j++k))<=LIM)) (nam (j++k) fun l=>
 Aj (w6 (p0+1)) p1 l)))))
 (
 br (b==6)
 (AY 69 [iN c] fun i=>(grd (decide (ni (List.length (h++i))<=LIM)) (nam (h++i) fun j=>
 AY 69 [iN e] fun k=>(grd (decide (ni (List.length (j++k))<=LIM)) (nam (j++k) fun l=>
 Aj (w6 (p0+1)) p1 l)))))
 (
 br (b==7)
 (AY 69 [iN e] fun i=>(grd (decide (ni (List.length (h++i))<=LIM)) (nam (h++i) fun j=>
 Aj (w6 (p0+1)) p1 j)))
 (Aj (w6 (p0+1)) p1 h)))))))))))))
 (some ((.os (1,0) p2),[])):=by
 exact(zQ _ _ _).trans (by kernel_rfl)
theorem Za (a0_0 a0_1 a0_2 a1_0:List D)(a1_1 a1_2 a1_3 a1_4 a1_5 a1_6 a1_7:Int)(a2_0:List D)(a3_:Int):V 32 [.agg [.rs (5,0) a0_0,.rs (4,0) a0_1,.rs (3,0) a0_2],.agg [.rs (5,0) a1_0,iN a1_1,iN a1_2,iN a1_3,iN a1_4,iN a1_5,iN a1_6,iN a1_7],.agg [.rs (5,0) a2_0],iN a3_] =
 ck1 15 [.agg [.rs (5,0) a0_0,.rs (4,0) a0_1,.rs (3,0) a0_2],(.agg [.rs (5,0) a1_0,iN a1_1,iN a1_2,iN a1_3,iN a1_4,iN a1_5,iN a1_6,iN a1_7])] fun a=>(br (!a)
 (some ((.agg [.os (5,0) [],iN (0),iN (0),iN (0),iN (0),iN (3),iN (7),iN (0)]),[]))
 (
 br (a1_5 != 1)
 (ck7 85 [.agg [.rs (5,0) a1_0,iN a1_1,iN a1_2,iN a1_3,iN a1_4,iN a1_5,iN a1_6,iN a1_7]] fun b c d e f g h i=>((some ((.agg [.os (5,0) b,iN c,iN d,iN e,iN f,iN g,iN h,iN i]),[]))))
 (ck1 60 [.agg [.rs (5,0) a2_0]] fun b=>(br (!b)
 (ck7 85 [.agg [.rs (5,0) a1_0,iN a1_1,iN a1_2,iN a1_3,iN a1_4,iN a1_5,iN a1_6,iN a1_7]] fun c d e f g h i j=>((some ((.agg [.os (5,0) c,iN d,iN e,iN f,iN g,iN h,iN i,iN j]),[]))))
 (ck1 61 [.agg [.rs (5,0) a2_0],iN a3_] fun c=>(br (!c)
 (ck7 85 [.agg [.rs (5,0) a1_0,iN a1_1,iN a1_2,iN a1_3,iN a1_4,iN a1_5,iN a1_6,iN a1_7]] fun d e f g h i j k=>((some ((.agg [.os (5,0) d,iN e,iN f,iN g,iN h,iN i,iN j,iN k]),[]))))
 (ck7 85 [.agg [.rs (5,0) a1_0,iN a1_1,iN a1_2,iN a1_3,iN a1_4,iN a1_5,iN a1_6,iN a1_7]] fun d e f g h i j k=>((AP 96 [.op [.os (5,0) d],(.agg [.rs (5,0) a2_0]),iN a3_] fun l m=>((Uw 95 [.op [.os (5,0) m,iN e,iN f,iN g,iN h,iN i,iN j,iN k],iN l] fun n _ o p q _ _ _=>(((br (decide (w6 (a1_1+1)>=ni a0_1.length))
 (ck7 97 [.agg [.rs (5,0) a1_0,iN a1_1,iN a1_2,iN a1_3,iN a1_4,iN a1_5,iN a1_6,iN a1_7],iN (7)] fun r s t u v w x y=>((some ((.agg [.os (5,0) r,iN s,iN t,iN u,iN v,iN w,iN x,iN y]),[]))))
 (
 br (decide (ni n.length>3000))
 (ck7 97 [.agg [.rs (5,0) a1_0,iN a1_1,iN a1_2,iN a1_3,iN a1_4,iN a1_5,iN a1_6,iN a1_7],iN (6)] fun r s t u v w x y=>((some ((.agg [.os (5,0) r,iN s,iN t,iN u,iN v,iN w,iN x,iN y]),[]))))
 (some ((.agg [.os (5,0) n,(iN (w6 (a1_1+1))),iN o,iN p,iN q,iN (0),iN (0),iN (0)]),[]))))))))))))))))):=by
 exact(zR Tryz.func32 rfl _).trans (by kernel_rfl)
theorem J8 (p0:List D)(p1 p2:Int)(p3 p4:List D):Au p0 p1 p2 p3 p4 =
 br (decide (p2<p1))
 (
 grd (decide (0<=p2)&&decide (p2<ni p0.length)) (dd p0 p2.toNat fun a=>
 tk2 a fun b c d e f=>(br (b==5)
 (
 grd (decide (0<=e)&&decide (e<ni p4.length)) (dd p4 e.toNat fun g=>
 asI .i64 g fun h=>grd (decide (0<=f)&&decide (f<ni p4.length)) (dd p4 f.toNat fun i=>
 asI .i64 i fun j=>br (!jx p3 [iN b,iN c,D.str d,iN h,iN j])
 (
 grd (!jx p3 [iN b,iN c,D.str d,iN h,iN j]) (nam (xf p3 [iN b,iN c,D.str d,iN h,iN j] p2) fun k=>
 grd (decide (ni (List.length (p4++[iN p2]))<=LIM)) (nam (p4++[iN p2]) fun l=>
 Au p0 p1 (w6 (p2+1)) k l)))
 (
 grd (decide (ni (List.length (p4++[iN (od p3 [iN b,iN c,D.str d,iN h,iN j])]))<=LIM)) (nam (p4++[iN (od p3 [iN b,iN c,D.str d,iN h,iN j])]) fun k=>
 Au p0 p1 (w6 (p2+1)) p3 k)))))
 (
 br (b==6)
 (
 br (b==6)
 (
 grd (decide (0<=e)&&decide (e<ni p4.length)) (dd p4 e.toNat fun g=>
 asI .i64 g fun h=>br (!jx p3 [iN b,iN c,D.str d,iN h,iN f])
 (
 grd (!jx p3 [iN b,iN c,D.str d,iN h,iN f]) (nam (xf p3 [iN b,iN c,D.str d,iN h,iN f] p2) fun i=>
 grd (decide (ni (List.length (p4++[iN p2]))<=LIM)) (nam (p4++[iN p2]) fun j=>
 Au p0 p1 (w6 (p2+1)) i j)))
 (
 grd (decide (ni (List.length (p4++[iN (od p3 [iN b,iN c,D.str d,iN h,iN f])]))<=LIM)) (nam (p4++[iN (od p3 [iN b,iN c,D.str d,iN h,iN f])]) fun i=>
 Au p0 p1 (w6 (p2+1)) p3 i))))
 (
 br (!jx p3 [iN b,iN c,D.str d,iN e,iN f])
 (
 grd (!jx p3 [iN b,iN c,D.str d,iN e,iN f]) (nam (xf p3 [iN b,iN c,D.str d,iN e,iN f] p2) fun g=>
 grd (decide (ni (List.length (p4++[iN p2]))<=LIM)) (nam (p4++[iN p2]) fun h=>
 Au p0 p1 (w6 (p2+1)) g h)))
 (
 grd (decide (ni (List.length (p4++[iN (od p3 [iN b,iN c,D.str d,iN e,iN f])]))<=LIM)) (nam (p4++[iN (od p3 [iN b,iN c,D.str d,iN e,iN f])]) fun g=>
 Au p0 p1 (w6 (p2+1)) p3 g))))
 (
 br (b==7)
 (
 grd (decide (0<=e)&&decide (e<ni p4.length)) (dd p4 e.toNat fun g=>
 asI .i64 g fun h=>br (!jx p3 [iN b,iN c,D.str d,iN h,iN f])
 (
 grd (!jx p3 [iN b,iN c,D.str d,iN h,iN f]) (nam (xf p3 [iN b,iN c,D.str d,iN h,iN f] p2) fun i=>
 grd (decide (ni (List.length (p4++[iN p2]))<=LIM)) (nam (p4++[iN p2]) fun j=>
 Au p0 p1 (w6 (p2+1)) i j)))
 (
 grd (decide (ni (List.length (p4++[iN (od p3 [iN b,iN c,D.str d,iN h,iN f])]))<=LIM)) (nam (p4++[iN (od p3 [iN b,iN c,D.str d,iN h,iN f])]) fun i=>
 Au p0 p1 (w6 (p2+1)) p3 i))))
 (
 br (!jx p3 [iN b,iN c,D.str d,iN e,iN f])
 (
 grd (!jx p3 [iN b,iN c,D.str d,iN e,iN f]) (nam (xf p3 [iN b,iN c,D.str d,iN e,iN f] p2) fun g=>
 grd (decide (ni (List.length (p4++[iN p2]))<=LIM)) (nam (p4++[iN p2]) fun h=>
 Au p0 p1 (w6 (p2+1)) g h)))
 (
 grd (decide (ni (List.length (p4++[iN (od p3 [iN b,iN c,D.str d,iN e,iN f])]))<=LIM)) (nam (p4++[iN (od p3 [iN b,iN c,D.str d,iN e,iN f])]) fun g=>
 Au p0 p1 (w6 (p2+1)) p3 g))))))))
 (some ((.os (1,0) p4),[])):=by
 exact(zQ _ _ _).trans (by kernel_rfl)
theorem SK (p0:ByteArray)(p1 p2 p3:Int)(p4 p5 p6 p7:List D):DF p0 p1 p2 p3 p4 p5 p6 p7 =
 br (decide (p1<ni (ByteArray.size p0)))
 (grd (decide (0<=p1)&&decide (p1<ni (ByteArray.size p0))) (ck1 211 [.int .u8 (bt p0 p1)] fun a=>(br a
 (DF p0 (w6 (p1+1)) p2 p3 p4 p5 p6 p7)
 (grd (df (ByteArray.size p0) (some p3) (some p1)) (Vg 212 [(.str (ByteArray.extract p0 p3.toNat p1.toNat))] fun b c d e f g=>(((br (!g)
 (Fi 147 [.agg [.rs (5,0) p4]] fun h=>((some ((.tup [.agg [.os (5,0) h],.os (1,0) p5,iN (3),iN p3]),[]))))
 (
 grd (decide (0<=p2)&&decide (p2<ni p6.length)) (dd p6 p2.toNat fun h=>
 asAgg h fun i=>dd i 1 fun j=>
 jH (1,0) j fun k=>asAgg h fun l=>AP 158 [.op [.os (5,0) p7],.agg [iN b,iN c,.str d,iN e,iN f]] fun m n=>((grd (decide (ni (List.length (k++[iN m]))<=LIM)) (nam (k++[iN m]) fun o=>
 grd (decide (0<=p2)&&decide (p2<ni (List.length (List.set p6 p2.toNat (D.agg (List.take 1 l++[D.dead]++List.drop 2 l)))))) (dd (List.set p6 p2.toNat (D.agg (List.take 1 l++[D.dead]++List.drop 2 l))) p2.toNat fun p=>
 asAgg p fun q=>nam (List.set (List.set p6 p2.toNat (D.agg (List.take 1 l++[D.dead]++List.drop 2 l))) p2.toNat
 (D.agg
 (List.take 1 q ++
 [D.os
 (TypeInfo.size (Tables.types (Program.toTables Tryz.prog))[3],
 match rZ Tryz.prog (3) with
 |true=>0
 |false=>1)
 o] ++
 List.drop 2 q))) fun r=>
 AL p0 p1 p4 p5 r n))))))))))))))
 (grd (df (ByteArray.size p0) (some p3) (some p1)) (Vg 212 [(.str (ByteArray.extract p0 p3.toNat p1.toNat))] fun a b c d e f=>(((br (!f)
 (Fi 147 [.agg [.rs (5,0) p4]] fun g=>((some ((.tup [.agg [.os (5,0) g],.os (1,0) p5,iN (3),iN p3]),[]))))
 (
 grd (decide (0<=p2)&&decide (p2<ni p6.length)) (dd p6 p2.toNat fun g=>
 asAgg g fun h=>dd h 1 fun i=>
 jH (1,0) i fun j=>asAgg g fun k=>AP 158 [.op [.os (5,0) p7],.agg [iN a,iN b,.str c,iN d,iN e]] fun l m=>((grd (decide (ni (List.length (j++[iN l]))<=LIM)) (nam (j++[iN l]) fun n=>
 grd (decide (0<=p2)&&decide (p2<ni (List.length (List.set p6 p2.toNat (D.agg (List.take 1 k++[D.dead]++List.drop 2 k)))))) (dd (List.set p6 p2.toNat (D.agg (List.take 1 k++[D.dead]++List.drop 2 k))) p2.toNat fun o=>
 asAgg o fun p=>nam (List.set (List.set p6 p2.toNat (D.agg (List.take 1 k++[D.dead]++List.drop 2 k))) p2.toNat
 (D.agg
 (List.take 1 p ++
 [D.os
 (TypeInfo.size (Tables.types (Program.toTables Tryz.prog))[3],
 match rZ Tryz.prog (3) with
 |true=>0
 |false=>1)
 n] ++
 List.drop 2 p))) fun q=>
 AL p0 p1 p4 p5 q m))))))))))):=by
 exact(zQ _ _ _).trans (by kernel_rfl)
theorem Tv (a0_0:List D)(a0_1 a0_2 a1_:Int):V 197 [.op [.rs (1,0) a0_0,iN a0_1,iN a0_2],iN a1_] =
 br (a1_==0)
 (aax 201 [.op [.rs (1,0) a0_0,iN a0_1,iN a0_2]] fun a b c d e f g h=>(((some ((.agg [iN a,iN b,.str c,iN d,iN e]),[.op [.rs (1,0) f,iN g,iN h]])))))
 (YO 155 [.op [.rs (1,0) a0_0,iN a0_1,iN a0_2],iN (2)] fun a b c d=>((br a
 (aax 201 [.op [.rs (1,0) b,iN c,iN d]] fun e f g h i j k l=>(((some ((.agg [iN e,iN f,.str g,iN h,iN i]),[.op [.rs (1,0) j,iN k,iN l]])))))
 (Ir 116 [iN a1_,iN (5)] fun e=>(ck9 76 [.op [.rs (1,0) b,iN c,iN d],iN e] fun f g h i=>((ck9 76 [.op [.rs (1,0) g,iN h,iN i],iN (8)] fun j k l m=>((br (j==0)
 (ck9 76 [.op [.rs (1,0) k,iN l,iN m],iN (9)] fun n o p q=>((some ((.agg [iN (6),iN n,.str ({ data:=#[] }),(iN (w6 (w6 (a1_-1)-f))),iN (0)]),[.op [.rs (1,0) o,iN p,iN q]]))))
 (
 br (j==1)
 (some ((.agg [iN (7),iN (0),.str ({ data:=#[] }),(iN (w6 (w6 (a1_-1)-f))),iN (0)]),[.op [.rs (1,0) k,iN l,iN m]]))
 (Ir 116 [iN a1_,iN (4)] fun n=>(ck9 76 [.op [.rs (1,0) k,iN l,iN m],iN n] fun o p q r=>((some ((.agg [iN (5),iN (0),.str ({ data:=#[] }),(iN (w6 (w6 (a1_-1)-f))),(iN (w6 (w6 (a1_-1)-o)))]),[.op [.rs (1,0) p,iN q,iN r]]))))))))))))))):=by
 exact(zR Tryz.func197 rfl _).trans (by kernel_rfl)
theorem Zo (a0_0 a0_1:Int)(a0_2:ByteArray)(a0_3 a0_4 a1_:Int):V 130 [.agg [iN a0_0,iN a0_1,.str a0_2,iN a0_3,iN a0_4],iN a1_] =
 ck1 62 [iN a0_3,iN (0),(iN (w6 (a1_-1)))] fun a=>(ck1 62 [iN a0_4,iN (0),(iN (w6 (a1_-1)))] fun b=>(br (a0_0==1)
 (some ((.bool (a0_0==1&&(a0_1==0&&(kJ a0_2 { data:=#[] }&&(a0_3==0&&(a0_4==0&&true)))))),[]))
 (
 br (a0_0==2)
 (ck1 62 [iN a0_1,iN (0),iN (1)] fun c=>(br c
 (some ((.bool (a0_0==2&&(a0_1==a0_1&&(kJ a0_2 { data:=#[] }&&(a0_3==0&&(a0_4==0&&true)))))),[]))
 (some ((.bool false),[]))))
 (
 br (a0_0==3)
 (ck1 62 [iN a0_1,iN (-1000000000),iN (1000000000)] fun c=>(br c
 (some ((.bool (a0_0==3&&(a0_1==a0_1&&(kJ a0_2 { data:=#[] }&&(a0_3==0&&(a0_4==0&&true)))))),[]))
 (some ((.bool false),[]))))
 (
 br (a0_0==4)
 (ck1 128 [.str a0_2] fun c=>(br c
 (some ((.bool (a0_0==4&&(a0_1==0&&(kJ a0_2 a0_2&&(a0_3==0&&(a0_4==0&&true)))))),[]))
 (some ((.bool false),[]))))
 (
 br (a0_0==5)
 (
 br a
 (
 br b
 (
 br (a0_1==0)
 (some ((.bool (kJ a0_2 { data:=#[] })),[]))
 (some ((.bool false),[])))
 (some ((.bool false),[])))
 (some ((.bool false),[])))
 (
 br (a0_0==6)
 (
 br a
 (ck1 62 [iN a0_1,iN (0),iN (1000000000)] fun c=>(br c
 (
 br (a0_4==0)
 (some ((.bool (kJ a0_2 { data:=#[] })),[]))
 (some ((.bool false),[])))
 (some ((.bool false),[]))))
 (some ((.bool false),[])))
 (
 br (a0_0==7)
 (
 br a
 (
 br (a0_1==0)
 (
 br (a0_4==0)
 (some ((.bool (kJ a0_2 { data:=#[] })),[]))
 (some ((.bool false),[])))
 (some ((.bool false),[])))
 (some ((.bool false),[])))
 (
 br (a0_0==8)
 (ck1 62 [iN a0_1,iN (0),iN (99)] fun c=>(br c
 (some ((.bool (a0_0==8&&(a0_1==a0_1&&(kJ a0_2 { data:=#[] }&&(a0_3==0&&(a0_4==0&&true)))))),[]))
 (some ((.bool false),[]))))
 (
 br (a0_0==9)
 (ck1 62 [iN a0_1,iN (0),iN (1000000000)] fun c=>(br c
 (some ((.bool (a0_0==9&&(a0_1==a0_1&&(kJ a0_2 { data:=#[] }&&(a0_3==0&&(a0_4==0&&true)))))),[]))
 (some ((.bool false),[]))))
 (some ((.bool false),[])))))))))))):=by
 exact(zR Tryz.func130 rfl _).trans (by kernel_rfl)
theorem Ux (a0_0 a0_1 a0_2 a1_0:List D)(a1_1 a1_2 a1_3 a1_4 a1_5 a1_6 a1_7:Int):V 14 [.agg [.rs (5,0) a0_0,.rs (4,0) a0_1,.rs (3,0) a0_2],.agg [.rs (5,0) a1_0,iN a1_1,iN a1_2,iN a1_3,iN a1_4,iN a1_5,iN a1_6,iN a1_7]] =
 ck1 54 [.agg [.rs (5,0) a0_0,.rs (4,0) a0_1,.rs (3,0) a0_2]] fun a=>(br (!a)
 (some ((.bool false),[]))
 (ck1 55 [.agg [.rs (5,0) a1_0]] fun b=>(br (!b)
 (some ((.bool false),[]))
 (ck1 56 [.agg [.rs (5,0) a1_0],iN a1_2] fun c=>(br (!c)
 (some ((.bool false),[]))
 (ck1 56 [.agg [.rs (5,0) a1_0],iN a1_3] fun d=>(br (!d)
 (some ((.bool false),[]))
 (ck1 56 [.agg [.rs (5,0) a1_0],iN a1_4] fun e=>(br (!e)
 (some ((.bool false),[]))
 (
 br (a1_5==0)
 (ck1 57 [.agg [.rs (5,0) a0_0,.rs (4,0) a0_1,.rs (3,0) a0_2],iN a1_1] fun f=>(br f
 (
 br (a1_6==0)
 (some ((.bool (a1_7==0)),[]))
 (some ((.bool false),[])))
 (some ((.bool false),[]))))
 (
 br (a1_5==1)
 (ck1 57 [.agg [.rs (5,0) a0_0,.rs (4,0) a0_1,.rs (3,0) a0_2],iN a1_1] fun f=>(br f
 (ck1 58 [iN a1_6,iN (13),iN (19)] fun g=>(br g
 (
 br (a1_6 != 18)
 (ck1 56 [.agg [.rs (5,0) a1_0],iN a1_7] fun h=>(some ((.bool h),[])))
 (some ((.bool false),[])))
 (some ((.bool false),[]))))
 (some ((.bool false),[]))))
 (
 br (a1_5==2)
 (
 br (a1_1==0)
 (
 br (a1_6==0)
 (ck1 56 [.agg [.rs (5,0) a1_0],iN a1_7] fun f=>(some ((.bool f),[])))
 (some ((.bool false),[])))
 (some ((.bool false),[])))
 (
 br (a1_5==3)
 (
 br (a1_1==0)
 (ck1 58 [iN a1_6,iN (1),iN (7)] fun f=>(br f
 (some ((.bool (a1_7==0)),[]))
 (some ((.bool false),[]))))
 (some ((.bool false),[])))
 (some ((.bool false),[]))))))))))))))):=by
 exact(zR Tryz.func14 rfl _).trans (by kernel_rfl)
theorem YZ (a0_0 a0_1 a0_2 a1_0:List D)(a1_1 a1_2 a1_3 a1_4 a1_5 a1_6 a1_7 a2_:Int):V 22 [.agg [.rs (5,0) a0_0,.rs (4,0) a0_1,.rs (3,0) a0_2],.agg [.rs (5,0) a1_0,iN a1_1,iN a1_2,iN a1_3,iN a1_4,iN a1_5,iN a1_6,iN a1_7],iN a2_] =
 ck1 14 [.agg [.rs (5,0) a0_0,.rs (4,0) a0_1,.rs (3,0) a0_2],(.agg [.rs (5,0) a1_0,iN a1_1,iN a1_2,iN a1_3,iN a1_4,iN a1_5,iN a1_6,iN a1_7])] fun a=>(br (!a)
 (ck7 17 [.agg [.rs (5,0) a0_0,.rs (4,0) a0_1,.rs (3,0) a0_2],(.agg [.rs (5,0) a1_0,iN a1_1,iN a1_2,iN a1_3,iN a1_4,iN a1_5,iN a1_6,iN a1_7])] fun b c d e f g h i=>((some ((.tup [.agg [.os (5,0) b,iN c,iN d,iN e,iN f,iN g,iN h,iN i],iN (0)]),[]))))
 (ck7 63 [.agg [.rs (5,0) a1_0,iN a1_1,iN a1_2,iN a1_3,iN a1_4,iN a1_5,iN a1_6,iN a1_7]] fun b c d e f g h i=>((GJ a2_ (0) a0_0 a0_1 a0_2 c d e f g h i (0) (0) (0) (0) (0) (0) (0) b)))):=by
 exact(zR Tryz.func22 rfl _).trans (by kernel_rfl)
theorem KW (p0 p1:Int)(p2 p3 p4:List D)(p5 p6 p7 p8 p9 p10 p11 p12 p13 p14 p15 p16 p17 p18:Int)(p19:List D):GJ p0 p1 p2 p3 p4 p5 p6 p7 p8 p9 p10 p11 p12 p13 p14 p15 p16 p17 p18 p19 =
 br (p9==0)
 (
 br (decide (p1<mnI p0 (2000)))
 (ck7 64 [.agg [.rs (5,0) p2,.rs (4,0) p3,.rs (3,0) p4],(.agg [.rs (5,0) p19,iN p5,iN p6,iN p7,iN p8,iN p9,iN p10,iN p11])] fun a b c d e f g h=>((ck7 73 [.agg [.os (5,0) a,iN b,iN c,iN d,iN e,iN f,iN g,iN h]] fun i j k l m n o p=>((GJ p0 (w6 (p1+1)) p2 p3 p4 j k l m n o p p12 p13 p14 p15 p16 p17 p18 i)))))
 (some ((.tup [.agg [.os (5,0) p19,iN p5,iN p6,iN p7,iN p8,iN p9,iN p10,iN p11],iN p1]),[])))
 (some ((.tup [.agg [.os (5,0) p19,iN p5,iN p6,iN p7,iN p8,iN p9,iN p10,iN p11],iN p1]),[])):=by
 exact(zQ _ _ _).trans (by kernel_rfl)
theorem Jm (p0:Int)(p1 p2 p3:List D):Cz p0 p1 p2 p3 =
 br (decide (p0<ni p1.length))
 (
 grd (decide (0<=p0)&&decide (p0<ni p1.length)) (dd p1 p0.toNat fun a=>
 tk2 a fun b c d e f=>(br (b==5)
 (
 grd (decide (0<=e)&&decide (e<ni p2.length)) (dd p2 e.toNat fun g=>
 asI .i64 g fun h=>grd (decide (0<=f)&&decide (f<ni p2.length)) (dd p2 f.toNat fun i=>
 asI .i64 i fun j=>AR p0 p0 (0) p1 p2 p3 b c d h j)))
 (
 br (b==6)
 (
 br (b==6)
 (
 grd (decide (0<=e)&&decide (e<ni p2.length)) (dd p2 e.toNat fun g=>
 asI .i64 g fun h=>AR p0 p0 (0) p1 p2 p3 b c d h f))
 (AR p0 p0 (0) p1 p2 p3 b c d e f))
 (
 br (b==7)
 (
 grd (decide (0<=e)&&decide (e<ni p2.length)) (dd p2 e.toNat fun g=>
 asI .i64 g fun h=>AR p0 p0 (0) p1 p2 p3 b c d h f))
 (AR p0 p0 (0) p1 p2 p3 b c d e f))))))
 (some ((.os (1,0) p2),[])):=by
 exact(zQ _ _ _).trans (by kernel_rfl)
theorem Ml (p0 p1:ByteArray)(p2 p3:Int):CQ p0 p1 p2 p3 =
 br (decide (p3<ni (ByteArray.size p1)))
 (grd (decide (0<=p3)&&decide (p3<ni (ByteArray.size p1))) (ck1 226 [.int .u8 (bt p1 p3)] fun a=>(br (!a)
 (some ((.tup [iN (0),.bool false]),[]))
 (grd (decide (0<=p3)&&decide (p3<ni (ByteArray.size p1))) (CQ p0 p1 (w6 (w6 (w6 (10*p2)+w6 (bt p1 p3))-48)) (w6 (p3+1)))))))
 (
 br (ni (ByteArray.size p1) != ni (ByteArray.size p0))
 (aaw 202 [(iN (w6 (0-p2)))] fun a=>(br (kJ a p0)
 (ck1 62 [(iN (w6 (0-p2))),iN (-1000000000),iN (1000000000)] fun b=>(some ((.tup [(iN (w6 (0-p2))),.bool b]),[])))
 (some ((.tup [(iN (w6 (0-p2))),.bool false]),[]))))
 (aaw 202 [iN p2] fun a=>(br (kJ a p0)
 (ck1 62 [iN p2,iN (-1000000000),iN (1000000000)] fun b=>(some ((.tup [iN p2,.bool b]),[])))
 (some ((.tup [iN p2,.bool false]),[]))))):=by
 exact(zQ _ _ _).trans (by kernel_rfl)
theorem PU (p0:Int)(p1 p2:List D):Fw p0 p1 p2 =
 grd (decide (0<=p0)&&decide (p0<ni p1.length)) (dd p1 p0.toNat fun a=>
 asAgg a fun b=>dd b 0 fun c=>
 asI .i64 c fun d=>br (d==5)
 (
 grd (decide (0<=p0)&&decide (p0<ni p1.length)) (dd p1 p0.toNat fun e=>
 asAgg e fun f=>dd f 3 fun g=>
 asI .i64 g fun h=>grd (decide (ni (List.length (p2++[iN h]))<=LIM)) (nam (p2++[iN h]) fun i=>
 grd (decide (0<=p0)&&decide (p0<ni p1.length)) (dd p1 p0.toNat fun j=>
 asAgg j fun k=>dd k 4 fun l=>
 asI .i64 l fun m=>Fw m p1 i))))
 (
 grd (decide (0<=p0)&&decide (p0<ni p1.length)) (dd p1 p0.toNat fun e=>
 asAgg e fun f=>dd f 0 fun g=>
 asI .i64 g fun h=>br (h != 1)
 (some ((.tup [.os (1,0) [],.bool false]),[]))
 (some ((.tup [.os (1,0) p2,.bool true]),[]))))):=by
 exact(zQ _ _ _).trans (by kernel_rfl)
theorem GN (p0 p1 p2 p3 p4 p5 p6 p7:Int)(p8 p9 p10:List D):DP p0 p1 p2 p3 p4 p5 p6 p7 p8 p9 p10 =
 br (decide (p0<ni p9.length))
 (
 grd (decide (0<=p0)&&decide (p0<ni p9.length)) (dd p9 p0.toNat fun a=>
 asI .i64 a fun b=>AY 69 [iN b] fun c=>(grd (decide (ni (List.length (p8++c))<=LIM)) (nam (p8++c) fun d=>
 DP (w6 (p0+1)) p1 p2 p3 p4 p5 p6 p7 d p9 p10))))
 (AY 70 [.agg [.rs (5,0) p10]] fun a=>(grd (decide (ni (List.length (p8++a))<=LIM)) (nam (p8++a) fun b=>
 gN b fun c=>some ((.tup [.str c,.bool true]),[])))):=by
 exact(zQ _ _ _).trans (by kernel_rfl)
theorem W7 (a0_:List D)(a1_:Int):V 209 [.rs (1,0) a0_,iN a1_] =
 afT 140 [.rs (1,0) a0_,iN a1_] fun a b c=>((br (!c)
 (some ((.tup [.str ({ data:=#[] }),iN (0),.bool false]),[]))
 (
 br (decide (a>w6 (ni a0_.length-b)))
 (some ((.tup [.str ({ data:=#[] }),iN (0),.bool false]),[]))
 (grd (df a0_.length (some b) (some (w6 (b+a)))) (gN (xL (xK a0_ (w6 (b+a))) b) fun d=>some ((.tup [.str d,(iN (w6 (b+a))),.bool true]),[])))))):=by
 exact(zR Tryz.func209 rfl _).trans (by kernel_rfl)
theorem Mq (p0:List D)(p1:ByteArray)(p2 p3:Int):I8 p0 p1 p2 p3 =
 grd (decide (0<=p2)&&decide (p2<ni p0.length)) (dd p0 p2.toNat fun a=>
 kY (1,0) a fun b=>br (decide (p3<ni b.length))
 (
 grd (decide (0<=p2)&&decide (p2<ni p0.length)) (dd p0 p2.toNat fun c=>
 kY (1,0) c fun d=>grd (decide (0<=p3)&&decide (p3<ni d.length)) (dd d p3.toNat fun e=>
 asS e fun f=>br (kJ f p1)
 (some ((.tup [iN p2,iN p3]),[]))
 (I8 p0 p1 p2 (w6 (p3+1))))))
 (Gb p0 p1 (w6 (p2+1)))):=by
 exact(zQ _ _ _).trans (by kernel_rfl)
theorem Q8 (p0:Int)(p1:List D):GI p0 p1 =
 br (decide (p0>127))
 (
 grd (!decide (128=0)) (grd (decide (ni (List.length (p1++[D.int IntKind.u8 (IntKind.wrap IntKind.u8 (w6 (Int.tmod p0 (128)+128)))]))<=LIM)) (nam (p1++[D.int IntKind.u8 (IntKind.wrap IntKind.u8 (w6 (Int.tmod p0 (128)+128)))]) fun a=>
 grd (!decide (128=0)) (GI (w6 (Int.tdiv p0 (128))) a))))
 (
 grd (decide (ni (List.length (p1++[D.int IntKind.u8 (IntKind.wrap IntKind.u8 p0)]))<=LIM)) (nam (p1++[D.int IntKind.u8 (IntKind.wrap IntKind.u8 p0)]) fun a=>
 some ((.os (1,0) a),[]))):=by
 exact(zQ _ _ _).trans (by kernel_rfl)
theorem Lk (p0:List D)(p1 p2:Int)(p3:List D):GU p0 p1 p2 p3 =
 br (decide (p2>=0))
 (
 grd (decide (0<=p2)&&decide (p2<ni p0.length)) (dd p0 p2.toNat fun a=>
 asI .i64 a fun b=>AP 158 [.op [.os (5,0) p3],(.agg [iN (5),iN (0),.str ({ data:=#[] }),iN b,iN p1])] fun c d=>((GU p0 c (w6 (p2-1)) d))))
 (some ((iN p1),[.op [.os (5,0) p3]])):=by
 exact(zQ _ _ _).trans (by kernel_rfl)
theorem Vl (p:List D)(k n:Int)(s:ByteArray)(a b:Int):V 157 [.op [.os (5,0) p],.agg [iN k,iN n,.str s,iN a,iN b]] =
 grd (decide (ni (List.length (p++[D.agg [iN k,iN n,D.str s,iN a,iN b]]))<=LIM)) (nam (p++[D.agg [iN k,iN n,D.str s,iN a,iN b]]) fun c=>
 some ((iN (w6 (ni c.length-1))),[.op [.os (5,0) c]])):=by
 exact(zR Tryz.func157 rfl _).trans (by kernel_rfl)
theorem Tn (b:List D)(i:Int)(k:Bool) :V 71 [.op [.os (1,0) b,iN i,.bool k]] =
 afT 140 [.rs (1,0) b,iN i] fun a c d=>((br (!d)
 (some ((iN (0)),[.op [.os (1,0) b,iN i,.bool false]]))
 (some ((iN a),[.op [.os (1,0) b,iN c,.bool k]])))):=by
 exact(zR Tryz.func71 rfl _).trans (by kernel_rfl)
theorem RK (a0_0:List D)(a0_1 a0_2:Int):V 154 [.op [.rs (1,0) a0_0,iN a0_1,iN a0_2]] =
 ck9 76 [.op [.rs (1,0) a0_0,iN a0_1,iN a0_2],iN (16)] fun a b c d=>((JJ a (0) b c d)):=by
 exact(zR Tryz.func154 rfl _).trans (by kernel_rfl)
theorem Zd (a0_0 a0_1 a0_2:List D):V 59 [.agg [.rs (5,0) a0_0,.rs (4,0) a0_1,.rs (3,0) a0_2]] =
 ck1 60 [.agg [.rs (5,0) a0_0]] fun a=>(br (!a)
 (some ((.bool false),[]))
 (
 br (decide (ni a0_1.length>400))
 (some ((.bool false),[]))
 (
 br (decide (ni a0_2.length>20))
 (some ((.bool false),[]))
 (GK (0) a0_0 a0_1 a0_2)))):=by
 exact(zR Tryz.func59 rfl _).trans (by kernel_rfl)
theorem Eo (p0:List D)(p1 p2 p3:Int):Cj p0 p1 p2 p3 =
 br (decide (p3<p2))
 (
 grd (decide (0<=p3)&&decide (p3<ni p0.length)) (dd p0 p3.toNat fun a=>
 asI .u8 a fun b=>br (p1==b)
 (some ((iN p3),[]))
 (Cj p0 p1 p2 (w6 (p3+1)))))
 (some ((iN (-1)),[])):=by
 exact(zQ _ _ _).trans (by kernel_rfl)
theorem ZK (p q t:List D):V 148 [.op [.os (5,0) p],.agg [.rs (5,0) q],.rs (1,0) t] =
 grd (decide (0<=ni q.length)&&decide (ni q.length<=LIM)) (BZ t (0) q (List.replicate (Int.toNat (ni q.length)) (iN (0))) p):=by
 exact(zR Tryz.func148 rfl _).trans (by kernel_rfl)
theorem W8 (a0_:ByteArray):V 138 [.str a0_] =
 AY 67 [(iN (ni (ByteArray.size a0_)))] fun a=>(grd (decide (ni (List.length (a++iv a0_))<=LIM)) (nam (a++iv a0_) fun b=>
 some ((.os (1,0) b),[]))):=by
 exact(zR Tryz.func138 rfl _).trans (by kernel_rfl)
theorem Y9 (a0_ a1_ a2_:Int):V 58 [iN a0_,iN a1_,iN a2_] =
 br (decide (a0_>=a1_))
 (some ((.bool (decide (a0_<=a2_))),[]))
 (some ((.bool false),[])):=by
 exact(zR Tryz.func58 rfl _).trans (by kernel_rfl)
theorem Xl (a0_:Int):V 226 [.int .u8 a0_] =
 br (decide (a0_>=48))
 (some ((.bool (decide (a0_<=57))),[]))
 (some ((.bool false),[])):=by
 exact(zR Tryz.func226 rfl _).trans (by kernel_rfl)
end Go.Eng
