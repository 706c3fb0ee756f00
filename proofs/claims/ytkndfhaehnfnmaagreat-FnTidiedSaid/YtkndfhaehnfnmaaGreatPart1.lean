/- the program and the reference on plain data, part 1 -/
import Derived.Test.YtkndfhaehnfnmaaGreatEngC
import Derived.Test.YtkndfhaehnfnmaaGreatProg
/-! bytes,texts,digits: plain facts -/
namespace Go.Eng
noncomputable section

def mk (l:List UInt8):ByteArray:=⟨l.toArray⟩
theorem z8 (l:List UInt8):(mk l).size=l.length:=by simp[mk,ByteArray.size]
theorem Wx (a b:List UInt8):mk a++mk b=mk (a++b):=by
 apply ByteArray.ext
 simp[mk]
theorem Yl (l:List UInt8):(mk l).data.toList=l:=by simp[mk]
theorem ZP (s:ByteArray):mk s.data.toList=s:=by
 apply ByteArray.ext
 simp[mk]
theorem mk_inj {a b:List UInt8}:mk a=mk b↔a=b:=by
 constructor
 ·intro h
  have:=congrArg (fun s=>s.data.toList) h
  simpa[Yl]using this
 ·rintro rfl;rfl
theorem Sq (s:ByteArray):∀(k i:Nat) (acc:List UInt8),k=s.size-i->ByteArray.toList.loop s i acc=acc.reverse++s.data.toList.drop i
 |0,i,acc,h=>by
  unfold ByteArray.toList.loop
  have hs:s.data.toList.length=s.size:=by rw[Array.length_toList];rfl
  rw[if_neg (by omega),List.drop_of_length_le (by omega),List.append_nil]
 |k+1,i,acc,h=>by
  unfold ByteArray.toList.loop
  have hs:s.data.toList.length=s.size:=by rw[Array.length_toList];rfl
  rw[if_pos (by omega),Sq s k (i+1) _ (by omega)]
  have hi:i<s.data.toList.length:=by omega
  rw[List.drop_eq_getElem_cons hi]
  have hi':i<s.data.size:=by simpa using hi
  have hg:s.get! i=s.data.toList[i]:=by
   show s.data[i]! = _
   rw[getElem!_pos s.data i hi',Array.getElem_toList]
  rw[hg]
  simp
theorem Sn (s:ByteArray):s.toList=s.data.toList:=by
 have:=Sq s s.size 0 [] (by omega)
 rw[List.reverse_nil,List.nil_append,List.drop_zero]at this
 exact this
theorem DK (x y:ByteArray):kJ x y=decide (x=y):=by
 unfold kJ
 rw[Sn,Sn]
 by_cases h:x=y
 ·subst h;simp
 ·have h2:¬x.data.toList=y.data.toList:=by
   intro e;apply h;rw[<-ZP x,<-ZP y,e]
  rw[decide_eq_false h]
  exact beq_eq_false_iff_ne.2 h2
theorem Q9 (a b:List UInt8):kJ (mk a) (mk b)=decide (a=b):=by
 rw[DK];simp only[mk_inj]
abbrev eU (b:UInt8):D:=.int .u8 (b.toNat:Int)
theorem VZ {l:List UInt8}{i:Nat}{x:UInt8}(h:l[i]? = some x):bt (mk l) (i:Int)=(x.toNat:Int):=by
 simp only[bt,Yl,Int.toNat_natCast]
 rw[List.getD_eq_getElem?_getD,h];rfl
theorem JY (l:List UInt8)(a b:Nat):(mk l).extract a b=mk ((l.drop a).take (b-a)):=by
 apply ByteArray.ext
 simp[mk,ByteArray.data_extract,List.extract_eq_take_drop]
theorem acg (l:List UInt8):iv (mk l)=l.map eU:=by simp[iv,Yl]
theorem abh {R:Type}(l:List UInt8)(K:ByteArray->Option R):gN (l.map eU) K=K (mk l):=by
 have hm:∀(f:D->Option UInt8),(∀x:UInt8,f (eU x)=some x)->∀l:List UInt8,(l.map eU).mapM f=some l:=by
  intro f hf l
  induction l with
  |nil=>rfl
  |cons x l ih=>rw[List.map_cons,List.mapM_cons,hf,ih];rfl
 unfold gN
 rw[hm _ (fun x=>by simp[])];rfl
theorem abi {R:Type}(n:Int)(K:ByteArray->Option R):gN [.int .u8 n] K=K (mk [UInt8.ofNat n.toNat]):=rfl
theorem YP {n:Int}(h0:0<=n)(h1:n<256):IntKind.wrap .u8 n=n:=by
 simp[IntKind.wrap,IntKind.bits,IntKind.signed];omega

def LN (n:Nat):List UInt8:=if n<10 then [UInt8.ofNat (48+n)] else LN (n / 10)++[UInt8.ofNat (48+n % 10)]
termination_by n
def MH (n:Int):List UInt8:=if n<0 then 45::LN n.natAbs else LN n.natAbs
theorem Dp {n:Nat}(h:n<10):LN n=[UInt8.ofNat (48+n)]:=by rw[LN,if_pos h]
theorem Ny {n:Nat}(h:¬n<10):LN n=LN (n / 10)++[UInt8.ofNat (48+n % 10)]:=by rw[LN,if_neg h]
theorem Zf:∀(k n:Nat),n<10 ^ (k+1)->(LN n).length<=k+1
 |0,n,h=>by rw[Dp (by simpa using h)];simp
 |k+1,n,h=>by
  by_cases h10:n<10
  ·rw[Dp h10];simp
  ·rw[Ny h10]
   have:=Zf k (n / 10) (by rw[Nat.pow_succ]at h;omega)
   simp;omega
theorem adx (n:Nat):0<(LN n).length:=by
 by_cases h10:n<10
 ·rw[Dp h10];simp
 ·rw[Ny h10];simp
end
end Go.Eng
/-! the functions as the interpreter has them: loop heads -/
namespace Go.Eng
noncomputable section
open Go.Proofs Go.Proofs.Tryz
set_option maxRecDepth 100000
def cf0:Cfg:={ ext:=fun _=>none,own:=fun f=>match f with|13=>false|23=>false|27=>false|30=>false|43=>false|44=>false|51=>false|52=>false|112=>false|_=>true,mode:=fun f i=>match f,i with|40,0=>.mut|41,0=>.mut|49,0=>.mut|108,0=>.mut|109,0=>.mut|110,0=>.mut|169,0=>.mut|183,0=>.mut|73,0=>.mv|162,0=>.mv|101,1=>.mv|172,2=>.mv|_,_=>.ro }
abbrev iN:Int->D:=D.int IntKind.i64
abbrev tk1 {R:Type}(x:D)(K:Int->Int->Int->ByteArray->Option R):Option R:=asAgg x fun l=>unc l fun x0 l0=>asI .i64 x0 fun v0=>unc l0 fun x1 l1=>asI .i64 x1 fun v1=>unc l1 fun x2 l2=>asI .i64 x2 fun v2=>unc l2 fun x3 l3=>asS x3 fun v3=>unn l3 (K v0 v1 v2 v3)
@[congr] theorem ag3 {R:Type}{x y:D}(h:x=y)(K:_):tk1 (R:=R) x K=tk1 y K:=by rw[h]
abbrev tk2 {R:Type}(x:D)(K:Int->Int->ByteArray->Int->Int->Option R):Option R:=asAgg x fun l=>unc l fun x0 l0=>asI .i64 x0 fun v0=>unc l0 fun x1 l1=>asI .i64 x1 fun v1=>unc l1 fun x2 l2=>asS x2 fun v2=>unc l2 fun x3 l3=>asI .i64 x3 fun v3=>unc l3 fun x4 l4=>asI .i64 x4 fun v4=>unn l4 (K v0 v1 v2 v3 v4)
@[congr] theorem ag4 {R:Type}{x y:D}(h:x=y)(K:_):tk2 (R:=R) x K=tk2 y K:=by rw[h]
abbrev tk3 {R:Type}(x:D)(K:ByteArray->Int->Int->Option R):Option R:=asAgg x fun l=>unc l fun x0 l0=>asS x0 fun v0=>unc l0 fun x1 l1=>asI .i64 x1 fun v1=>unc l1 fun x2 l2=>asI .i64 x2 fun v2=>unn l2 (K v0 v1 v2)
@[congr] theorem ag5 {R:Type}{x y:D}(h:x=y)(K:_):tk3 (R:=R) x K=tk3 y K:=by rw[h]
abbrev tk4 {R:Type}(x:D)(K:List D->List D->List D->Int->Option R):Option R:=o9 x fun l=>unc l fun x0 l0=>jH (5,0) x0 fun v0=>unc l0 fun x1 l1=>jH (4,0) x1 fun v1=>unc l1 fun x2 l2=>jH (3,0) x2 fun v2=>unc l2 fun x3 l3=>asI .i64 x3 fun v3=>unn l3 (K v0 v1 v2 v3)
@[congr] theorem ag6 {R:Type}{x y:D}(h:x=y)(K:_):tk4 (R:=R) x K=tk4 y K:=by rw[h]
abbrev tk5 {R:Type}(x:D)(K:List D->Bool->Option R):Option R:=jr x fun l=>unc l fun x0 l0=>jH (1,0) x0 fun v0=>unc l0 fun x1 l1=>asB x1 fun v1=>unn l1 (K v0 v1)
@[congr] theorem ag7 {R:Type}{x y:D}(h:x=y)(K:_):tk5 (R:=R) x K=tk5 y K:=by rw[h]
abbrev tk6 {R:Type}(x:D)(K:Int->Bool->Option R):Option R:=jr x fun l=>unc l fun x0 l0=>asI .i64 x0 fun v0=>unc l0 fun x1 l1=>asB x1 fun v1=>unn l1 (K v0 v1)
@[congr] theorem ag8 {R:Type}{x y:D}(h:x=y)(K:_):tk6 (R:=R) x K=tk6 y K:=by rw[h]
abbrev tk7 {R:Type}(x:D)(K:List D->Int->Int->Int->Int->Int->Int->Int->Option R):Option R:=o9 x fun l=>unc l fun x0 l0=>jH (5,0) x0 fun v0=>unc l0 fun x1 l1=>asI .i64 x1 fun v1=>unc l1 fun x2 l2=>asI .i64 x2 fun v2=>unc l2 fun x3 l3=>asI .i64 x3 fun v3=>unc l3 fun x4 l4=>asI .i64 x4 fun v4=>unc l4 fun x5 l5=>asI .i64 x5 fun v5=>unc l5 fun x6 l6=>asI .i64 x6 fun v6=>unc l6 fun x7 l7=>asI .i64 x7 fun v7=>unn l7 (K v0 v1 v2 v3 v4 v5 v6 v7)
@[congr] theorem ag9 {R:Type}{x y:D}(h:x=y)(K:_):tk7 (R:=R) x K=tk7 y K:=by rw[h]
abbrev tk8 {R:Type}(x:D)(K:List D->Int->Int->Int->Int->Int->Int->Int->List D->List D->List D->Option R):Option R:=o9 x fun l=>unc l fun x0 l0=>jH (5,0) x0 fun v0=>unc l0 fun x1 l1=>asI .i64 x1 fun v1=>unc l1 fun x2 l2=>asI .i64 x2 fun v2=>unc l2 fun x3 l3=>asI .i64 x3 fun v3=>unc l3 fun x4 l4=>asI .i64 x4 fun v4=>unc l4 fun x5 l5=>asI .i64 x5 fun v5=>unc l5 fun x6 l6=>asI .i64 x6 fun v6=>unc l6 fun x7 l7=>asI .i64 x7 fun v7=>unc l7 fun x8 l8=>kY (5,0) x8 fun v8=>unc l8 fun x9 l9=>kY (4,0) x9 fun v9=>unc l9 fun x10 l10=>kY (3,0) x10 fun v10=>unn l10 (K v0 v1 v2 v3 v4 v5 v6 v7 v8 v9 v10)
@[congr] theorem aha {R:Type}{x y:D}(h:x=y)(K:_):tk8 (R:=R) x K=tk8 y K:=by rw[h]
abbrev tk9 {R:Type}(x:D)(K:ByteArray->Bool->Option R):Option R:=jr x fun l=>unc l fun x0 l0=>asS x0 fun v0=>unc l0 fun x1 l1=>asB x1 fun v1=>unn l1 (K v0 v1)
@[congr] theorem ahb {R:Type}{x y:D}(h:x=y)(K:_):tk9 (R:=R) x K=tk9 y K:=by rw[h]
abbrev ae5 {R:Type}(x:D)(K:Int->Int->Option R):Option R:=jr x fun l=>unc l fun x0 l0=>asI .i64 x0 fun v0=>unc l0 fun x1 l1=>asI .i64 x1 fun v1=>unn l1 (K v0 v1)
@[congr] theorem agS {R:Type}{x y:D}(h:x=y)(K:_):ae5 (R:=R) x K=ae5 y K:=by rw[h]
abbrev afB {R:Type}(x:D)(K:Int->List D->Bool->Option R):Option R:=jr x fun l=>unc l fun x0 l0=>asI .i64 x0 fun v0=>unc l0 fun x1 l1=>jH (1,0) x1 fun v1=>unc l1 fun x2 l2=>asB x2 fun v2=>unn l2 (K v0 v1 v2)
@[congr] theorem agT {R:Type}{x y:D}(h:x=y)(K:_):afB (R:=R) x K=afB y K:=by rw[h]
abbrev uu:A:=.undef
abbrev V:=Vn Tryz.prog cf0
abbrev ck1 {R:Type}(f:Nat)(ds:List D)(K:Int->List D->List D->List D->Int->Option R):Option R:=jy V f ds fun v0 v1=>asI .i64 v0 fun v2=>unc v1 fun v3 v4=>tk4 v3 fun v8 v11 v14 v17=>(unn v4 (K v2 v8 v11 v14 v17))
abbrev ck2 {R:Type}(f:Nat)(ds:List D)(K:List D->List D->List D->Int->Option R):Option R:=jy V f ds fun v0 v1=>jr v0 fun v2=>unn v2 (unc v1 fun v3 v4=>tk4 v3 fun v8 v11 v14 v17=>(unn v4 (K v8 v11 v14 v17)))
abbrev ck3 {R:Type}(f:Nat)(ds:List D)(K:List D->Bool->Option R):Option R:=jy V f ds fun v0 v1=>tk5 v0 fun v5 v8=>(unn v1 (K v5 v8))
abbrev ck4 {R:Type}(f:Nat)(ds:List D)(K:List D->List D->List D->List D->Int->Option R):Option R:=jy V f ds fun v0 v1=>jH (1,0) v0 fun v2=>unc v1 fun v3 v4=>tk4 v3 fun v8 v11 v14 v17=>(unn v4 (K v2 v8 v11 v14 v17))
abbrev ck5 {R:Type}(f:Nat)(ds:List D)(K:List D->Int->Int->Int->Int->Int->Int->Int->Option R):Option R:=jy V f ds fun v0 v1=>asAgg v0 fun v2=>unc v2 fun v3 v4=>jH (5,0) v3 fun v5=>unc v4 fun v6 v7=>asI .i64 v6 fun v8=>unc v7 fun v9 v10=>asI .i64 v9 fun v11=>unc v10 fun v12 v13=>asI .i64 v12 fun v14=>unc v13 fun v15 v16=>asI .i64 v15 fun v17=>unc v16 fun v18 v19=>asI .i64 v18 fun v20=>unc v19 fun v21 v22=>asI .i64 v21 fun v23=>unc v22 fun v24 v25=>asI .i64 v24 fun v26=>unn v25 (unn v1 (K v5 v8 v11 v14 v17 v20 v23 v26))
abbrev ck6 {R:Type}(f:Nat)(ds:List D)(K:Bool->Option R):Option R:=jy V f ds fun v0 v1=>asB v0 fun v2=>unn v1 (K v2)
abbrev ck7 {R:Type}(f:Nat)(ds:List D)(K:Int->List D->Int->Int->Option R):Option R:=jy V f ds fun v0 v1=>asI .i64 v0 fun v2=>unc v1 fun v3 v4=>o9 v3 fun v5=>unc v5 fun v6 v7=>kY (1,0) v6 fun v8=>unc v7 fun v9 v10=>asI .i64 v9 fun v11=>unc v10 fun v12 v13=>asI .i64 v12 fun v14=>unn v13 (unn v4 (K v2 v8 v11 v14))
abbrev ck8 {R:Type}(f:Nat)(ds:List D)(K:List D->Option R):Option R:=jy V f ds fun v0 v1=>asAgg v0 fun v2=>unc v2 fun v3 v4=>jH (5,0) v3 fun v5=>unn v4 (unn v1 (K v5))
abbrev ck9 {R:Type}(f:Nat)(ds:List D)(K:Int->List D->Option R):Option R:=jy V f ds fun v0 v1=>asI .i64 v0 fun v2=>unc v1 fun v3 v4=>o9 v3 fun v5=>unc v5 fun v6 v7=>jH (5,0) v6 fun v8=>unn v7 (unn v4 (K v2 v8))
abbrev YW {R:Type}(f:Nat)(ds:List D)(K:Int->Bool->List D->Int->Int->Int->Int->Int->Int->Int->Option R):Option R:=jy V f ds fun v0 v1=>tk6 v0 fun v5 v8=>(unc v1 fun v9 v10=>tk7 v9 fun v14 v17 v20 v23 v26 v29 v32 v35=>(unn v10 (K v5 v8 v14 v17 v20 v23 v26 v29 v32 v35)))
abbrev PN {R:Type}(f:Nat)(ds:List D)(K:Int->List D->Int->Int->Int->Int->Int->Int->Int->Option R):Option R:=jy V f ds fun v0 v1=>asI .i64 v0 fun v2=>unc v1 fun v3 v4=>tk7 v3 fun v8 v11 v14 v17 v20 v23 v26 v29=>(unn v4 (K v2 v8 v11 v14 v17 v20 v23 v26 v29))
abbrev Xi {R:Type}(f:Nat)(ds:List D)(K:Int->Bool->List D->Int->Int->Int->Int->Int->Int->Int->List D->List D->List D->Option R):Option R:=jy V f ds fun v0 v1=>tk6 v0 fun v5 v8=>(unc v1 fun v9 v10=>tk8 v9 fun v14 v17 v20 v23 v26 v29 v32 v35 v38 v41 v44=>(unn v10 (K v5 v8 v14 v17 v20 v23 v26 v29 v32 v35 v38 v41 v44)))
abbrev aer {R:Type}(f:Nat)(ds:List D)(K:List D->Option R):Option R:=jy V f ds fun v0 v1=>jr v0 fun v2=>unn v2 (unc v1 fun v3 v4=>jH (1,0) v3 fun v5=>unn v4 (K v5))
abbrev Lf {R:Type}(f:Nat)(ds:List D)(K:Int->List D->Int->Int->Int->Int->Int->Int->Int->List D->List D->List D->Option R):Option R:=jy V f ds fun v0 v1=>asI .i64 v0 fun v2=>unc v1 fun v3 v4=>tk8 v3 fun v8 v11 v14 v17 v20 v23 v26 v29 v32 v35 v38=>(unn v4 (K v2 v8 v11 v14 v17 v20 v23 v26 v29 v32 v35 v38))
abbrev JU {R:Type}(f:Nat)(ds:List D)(K:Int->Int->ByteArray->Int->Int->Option R):Option R:=jy V f ds fun v0 v1=>tk2 v0 fun v5 v8 v11 v14 v17=>(unn v1 (K v5 v8 v11 v14 v17))
abbrev FE {R:Type}(f:Nat)(ds:List D)(K:Int->Option R):Option R:=jy V f ds fun v0 v1=>asI .i64 v0 fun v2=>unn v1 (K v2)
abbrev aes {R:Type}(f:Nat)(ds:List D)(K:Int->Int->ByteArray->Int->Int->Int->Option R):Option R:=jy V f ds fun v0 v1=>jr v0 fun v2=>unc v2 fun v3 v4=>tk2 v3 fun v8 v11 v14 v17 v20=>(unc v4 fun v21 v22=>asI .i64 v21 fun v23=>unn v22 (unn v1 (K v8 v11 v14 v17 v20 v23)))
abbrev Dk {R:Type}(f:Nat)(ds:List D)(K:List D->Option R):Option R:=jy V f ds fun v0 v1=>jH (1,0) v0 fun v2=>unn v1 (K v2)
abbrev adm {R:Type}(f:Nat)(ds:List D)(K:List D->Bool->List D->Option R):Option R:=jy V f ds fun v0 v1=>tk5 v0 fun v5 v8=>(unc v1 fun v9 v10=>o9 v9 fun v11=>unc v11 fun v12 v13=>jH (5,0) v12 fun v14=>unn v13 (unn v10 (K v5 v8 v14)))
abbrev TE {R:Type}(f:Nat)(ds:List D)(K:List D->Int->Int->Int->Int->Int->Int->Int->List D->List D->List D->Option R):Option R:=jy V f ds fun v0 v1=>jr v0 fun v2=>unn v2 (unc v1 fun v3 v4=>tk8 v3 fun v8 v11 v14 v17 v20 v23 v26 v29 v32 v35 v38=>(unn v4 (K v8 v11 v14 v17 v20 v23 v26 v29 v32 v35 v38)))
abbrev aaO {R:Type}(f:Nat)(ds:List D)(K:List D->List D->Option R):Option R:=jy V f ds fun v0 v1=>jH (1,0) v0 fun v2=>unc v1 fun v3 v4=>o9 v3 fun v5=>unc v5 fun v6 v7=>jH (5,0) v6 fun v8=>unn v7 (unn v4 (K v2 v8))
abbrev Vk {R:Type}(f:Nat)(ds:List D)(K:List D->Int->Int->Int->Int->Int->Int->Int->Bool->Option R):Option R:=jy V f ds fun v0 v1=>jr v0 fun v2=>unc v2 fun v3 v4=>asAgg v3 fun v5=>unc v5 fun v6 v7=>jH (5,0) v6 fun v8=>unc v7 fun v9 v10=>asI .i64 v9 fun v11=>unc v10 fun v12 v13=>asI .i64 v12 fun v14=>unc v13 fun v15 v16=>asI .i64 v15 fun v17=>unc v16 fun v18 v19=>asI .i64 v18 fun v20=>unc v19 fun v21 v22=>asI .i64 v21 fun v23=>unc v22 fun v24 v25=>asI .i64 v24 fun v26=>unc v25 fun v27 v28=>asI .i64 v27 fun v29=>unn v28 (unc v4 fun v30 v31=>asB v30 fun v32=>unn v31 (unn v1 (K v8 v11 v14 v17 v20 v23 v26 v29 v32)))
abbrev SC {R:Type}(f:Nat)(ds:List D)(K:List D->Int->Int->Int->Int->Int->Int->Int->Option R):Option R:=jy V f ds fun v0 v1=>jr v0 fun v2=>unn v2 (unc v1 fun v3 v4=>tk7 v3 fun v8 v11 v14 v17 v20 v23 v26 v29=>(unn v4 (K v8 v11 v14 v17 v20 v23 v26 v29)))
abbrev TG {R:Type}(f:Nat)(ds:List D)(K:Int->Int->ByteArray->Int->Int->Bool->Option R):Option R:=jy V f ds fun v0 v1=>jr v0 fun v2=>unc v2 fun v3 v4=>tk2 v3 fun v8 v11 v14 v17 v20=>(unc v4 fun v21 v22=>asB v21 fun v23=>unn v22 (unn v1 (K v8 v11 v14 v17 v20 v23)))
abbrev aaP {R:Type}(f:Nat)(ds:List D)(K:ByteArray->Bool->Option R):Option R:=jy V f ds fun v0 v1=>jr v0 fun v2=>unc v2 fun v3 v4=>asS v3 fun v5=>unc v4 fun v6 v7=>asB v6 fun v8=>unn v7 (unn v1 (K v5 v8))
abbrev YX {R:Type}(f:Nat)(ds:List D)(K:ByteArray->Option R):Option R:=jy V f ds fun v0 v1=>asS v0 fun v2=>unn v1 (K v2)
abbrev adn {R:Type}(f:Nat)(ds:List D)(K:ByteArray->Bool->List D->List D->List D->Int->Option R):Option R:=jy V f ds fun v0 v1=>tk9 v0 fun v5 v8=>(unc v1 fun v9 v10=>tk4 v9 fun v14 v17 v20 v23=>(unn v10 (K v5 v8 v14 v17 v20 v23)))
abbrev aci {R:Type}(f:Nat)(ds:List D)(K:Int->Int->Option R):Option R:=jy V f ds fun v0 v1=>ae5 v0 fun v5 v8=>(unn v1 (K v5 v8))
abbrev ado {R:Type}(f:Nat)(ds:List D)(K:Int->List D->Bool->Option R):Option R:=jy V f ds fun v0 v1=>afB v0 fun v5 v8 v11=>(unn v1 (K v5 v8 v11))
abbrev acj {R:Type}(f:Nat)(ds:List D)(K:Int->Int->List D->Option R):Option R:=jy V f ds fun v0 v1=>ae5 v0 fun v5 v8=>(unc v1 fun v9 v10=>o9 v9 fun v11=>unc v11 fun v12 v13=>jH (5,0) v12 fun v14=>unn v13 (unn v10 (K v5 v8 v14)))
abbrev adp {R:Type}(f:Nat)(ds:List D)(K:List D->List D->Int->Int->Option R):Option R:=jy V f ds fun v0 v1=>jr v0 fun v2=>unc v2 fun v3 v4=>asAgg v3 fun v5=>unc v5 fun v6 v7=>jH (5,0) v6 fun v8=>unn v7 (unc v4 fun v9 v10=>jH (1,0) v9 fun v11=>unc v10 fun v12 v13=>asI .i64 v12 fun v14=>unc v13 fun v15 v16=>asI .i64 v15 fun v17=>unn v16 (unn v1 (K v8 v11 v14 v17)))
abbrev adq {R:Type}(f:Nat)(ds:List D)(K:List D->List D->List D->Int->Int->Option R):Option R:=jy V f ds fun v0 v1=>jr v0 fun v2=>unc v2 fun v3 v4=>asAgg v3 fun v5=>unc v5 fun v6 v7=>jH (5,0) v6 fun v8=>unc v7 fun v9 v10=>jH (4,0) v9 fun v11=>unc v10 fun v12 v13=>jH (3,0) v12 fun v14=>unn v13 (unc v4 fun v15 v16=>asI .i64 v15 fun v17=>unc v16 fun v18 v19=>asI .i64 v18 fun v20=>unn v19 (unn v1 (K v8 v11 v14 v17 v20)))
abbrev aaQ {R:Type}(f:Nat)(ds:List D)(K:Int->Bool->Option R):Option R:=jy V f ds fun v0 v1=>tk6 v0 fun v5 v8=>(unn v1 (K v5 v8))
abbrev YZ {R:Type}(f:Nat)(ds:List D)(K:Int->Int->ByteArray->Int->Int->List D->Int->Int->Option R):Option R:=jy V f ds fun v0 v1=>asAgg v0 fun v2=>unc v2 fun v3 v4=>asI .i64 v3 fun v5=>unc v4 fun v6 v7=>asI .i64 v6 fun v8=>unc v7 fun v9 v10=>asS v9 fun v11=>unc v10 fun v12 v13=>asI .i64 v12 fun v14=>unc v13 fun v15 v16=>asI .i64 v15 fun v17=>unn v16 (unc v1 fun v18 v19=>o9 v18 fun v20=>unc v20 fun v21 v22=>kY (1,0) v21 fun v23=>unc v22 fun v24 v25=>asI .i64 v24 fun v26=>unc v25 fun v27 v28=>asI .i64 v27 fun v29=>unn v28 (unn v19 (K v5 v8 v11 v14 v17 v23 v26 v29)))
abbrev afp {R:Type}(f:Nat)(ds:List D)(K:List D->Int->Int->Option R):Option R:=jy V f ds fun v0 v1=>o9 v0 fun v2=>unc v2 fun v3 v4=>kY (1,0) v3 fun v5=>unc v4 fun v6 v7=>asI .i64 v6 fun v8=>unc v7 fun v9 v10=>asI .i64 v9 fun v11=>unn v10 (unn v1 (K v5 v8 v11))
abbrev aet {R:Type}(f:Nat)(ds:List D)(K:List D->List D->List D->List D->Int->Int->Int->Int->Int->Int->Int->List D->Int->Int->Option R):Option R:=jy V f ds fun v0 v1=>jr v0 fun v2=>unc v2 fun v3 v4=>asAgg v3 fun v5=>unc v5 fun v6 v7=>nk (5,0) v6 fun v8=>unc v7 fun v9 v10=>nk (4,0) v9 fun v11=>unc v10 fun v12 v13=>nk (3,0) v12 fun v14=>unn v13 (unc v4 fun v15 v16=>asAgg v15 fun v17=>unc v17 fun v18 v19=>nk (5,0) v18 fun v20=>unc v19 fun v21 v22=>asI .i64 v21 fun v23=>unc v22 fun v24 v25=>asI .i64 v24 fun v26=>unc v25 fun v27 v28=>asI .i64 v27 fun v29=>unc v28 fun v30 v31=>asI .i64 v30 fun v32=>unc v31 fun v33 v34=>asI .i64 v33 fun v35=>unc v34 fun v36 v37=>asI .i64 v36 fun v38=>unc v37 fun v39 v40=>asI .i64 v39 fun v41=>unn v40 (unn v16 (unc v1 fun v42 v43=>o9 v42 fun v44=>unc v44 fun v45 v46=>kY (1,0) v45 fun v47=>unc v46 fun v48 v49=>asI .i64 v48 fun v50=>unc v49 fun v51 v52=>asI .i64 v51 fun v53=>unn v52 (unn v43 (K v8 v11 v14 v20 v23 v26 v29 v32 v35 v38 v41 v47 v50 v53)))))
abbrev afq {R:Type}(f:Nat)(ds:List D)(K:List D->Option R):Option R:=jy V f ds fun v0 v1=>jH (5,0) v0 fun v2=>unn v1 (K v2)
abbrev adr {R:Type}(f:Nat)(ds:List D)(K:List D->List D->List D->List D->Int->Int->Option R):Option R:=jy V f ds fun v0 v1=>asAgg v0 fun v2=>unc v2 fun v3 v4=>jH (5,0) v3 fun v5=>unc v4 fun v6 v7=>jH (4,0) v6 fun v8=>unc v7 fun v9 v10=>jH (3,0) v9 fun v11=>unn v10 (unc v1 fun v12 v13=>o9 v12 fun v14=>unc v14 fun v15 v16=>kY (1,0) v15 fun v17=>unc v16 fun v18 v19=>asI .i64 v18 fun v20=>unc v19 fun v21 v22=>asI .i64 v21 fun v23=>unn v22 (unn v13 (K v5 v8 v11 v17 v20 v23)))
abbrev ads {R:Type}(f:Nat)(ds:List D)(K:List D->List D->Int->Int->Option R):Option R:=jy V f ds fun v0 v1=>asAgg v0 fun v2=>unc v2 fun v3 v4=>jH (5,0) v3 fun v5=>unn v4 (unc v1 fun v6 v7=>o9 v6 fun v8=>unc v8 fun v9 v10=>kY (1,0) v9 fun v11=>unc v10 fun v12 v13=>asI .i64 v12 fun v14=>unc v13 fun v15 v16=>asI .i64 v15 fun v17=>unn v16 (unn v7 (K v5 v11 v14 v17)))
abbrev Xj {R:Type}(f:Nat)(ds:List D)(K:Bool->List D->Int->Int->Option R):Option R:=jy V f ds fun v0 v1=>asB v0 fun v2=>unc v1 fun v3 v4=>o9 v3 fun v5=>unc v5 fun v6 v7=>kY (1,0) v6 fun v8=>unc v7 fun v9 v10=>asI .i64 v9 fun v11=>unc v10 fun v12 v13=>asI .i64 v12 fun v14=>unn v13 (unn v4 (K v2 v8 v11 v14))
abbrev PO {R:Type}(f:Nat)(ds:List D)(K:ByteArray->List D->Int->Int->Option R):Option R:=jy V f ds fun v0 v1=>asS v0 fun v2=>unc v1 fun v3 v4=>o9 v3 fun v5=>unc v5 fun v6 v7=>kY (1,0) v6 fun v8=>unc v7 fun v9 v10=>asI .i64 v9 fun v11=>unc v10 fun v12 v13=>asI .i64 v12 fun v14=>unn v13 (unn v4 (K v2 v8 v11 v14))
abbrev adt {R:Type}(f:Nat)(ds:List D)(K:List D->List D->Option R):Option R:=jy V f ds fun v0 v1=>jr v0 fun v2=>unc v2 fun v3 v4=>asAgg v3 fun v5=>unc v5 fun v6 v7=>jH (5,0) v6 fun v8=>unn v7 (unc v4 fun v9 v10=>jH (1,0) v9 fun v11=>unn v10 (unn v1 (K v8 v11)))
abbrev afr {R:Type}(f:Nat)(ds:List D)(K:List D->List D->List D->List D->Int->Int->Int->Int->Int->Int->Int->Int->Option R):Option R:=jy V f ds fun v0 v1=>jr v0 fun v2=>unc v2 fun v3 v4=>asAgg v3 fun v5=>unc v5 fun v6 v7=>nk (5,0) v6 fun v8=>unc v7 fun v9 v10=>nk (4,0) v9 fun v11=>unc v10 fun v12 v13=>nk (3,0) v12 fun v14=>unn v13 (unc v4 fun v15 v16=>asAgg v15 fun v17=>unc v17 fun v18 v19=>nk (5,0) v18 fun v20=>unc v19 fun v21 v22=>asI .i64 v21 fun v23=>unc v22 fun v24 v25=>asI .i64 v24 fun v26=>unc v25 fun v27 v28=>asI .i64 v27 fun v29=>unc v28 fun v30 v31=>asI .i64 v30 fun v32=>unc v31 fun v33 v34=>asI .i64 v33 fun v35=>unc v34 fun v36 v37=>asI .i64 v36 fun v38=>unc v37 fun v39 v40=>asI .i64 v39 fun v41=>unn v40 (unc v16 fun v42 v43=>asI .i64 v42 fun v44=>unn v43 (unn v1 (K v8 v11 v14 v20 v23 v26 v29 v32 v35 v38 v41 v44))))
abbrev Y0 {R:Type}(f:Nat)(ds:List D)(K:List D->Int->Int->Int->Int->Int->Int->Int->List D->Int->Int->Option R):Option R:=jy V f ds fun v0 v1=>asAgg v0 fun v2=>unc v2 fun v3 v4=>jH (5,0) v3 fun v5=>unc v4 fun v6 v7=>asI .i64 v6 fun v8=>unc v7 fun v9 v10=>asI .i64 v9 fun v11=>unc v10 fun v12 v13=>asI .i64 v12 fun v14=>unc v13 fun v15 v16=>asI .i64 v15 fun v17=>unc v16 fun v18 v19=>asI .i64 v18 fun v20=>unc v19 fun v21 v22=>asI .i64 v21 fun v23=>unc v22 fun v24 v25=>asI .i64 v24 fun v26=>unn v25 (unc v1 fun v27 v28=>o9 v27 fun v29=>unc v29 fun v30 v31=>kY (1,0) v30 fun v32=>unc v31 fun v33 v34=>asI .i64 v33 fun v35=>unc v34 fun v36 v37=>asI .i64 v36 fun v38=>unn v37 (unn v28 (K v5 v8 v11 v14 v17 v20 v23 v26 v32 v35 v38)))
section
variable {R:Type}{f:Nat}{ds es:List D}
@[congr] theorem agU (h:ds=es)(K:_):ck1 (R:=R) f ds K=ck1 f es K:=by rw[h]
@[congr] theorem agV (h:ds=es)(K:_):ck2 (R:=R) f ds K=ck2 f es K:=by rw[h]
@[congr] theorem agW (h:ds=es)(K:_):ck3 (R:=R) f ds K=ck3 f es K:=by rw[h]
@[congr] theorem agX (h:ds=es)(K:_):ck4 (R:=R) f ds K=ck4 f es K:=by rw[h]
@[congr] theorem agY (h:ds=es)(K:_):ck5 (R:=R) f ds K=ck5 f es K:=by rw[h]
@[congr] theorem agZ (h:ds=es)(K:_):ck6 (R:=R) f ds K=ck6 f es K:=by rw[h]
@[congr] theorem ag0 (h:ds=es)(K:_):ck7 (R:=R) f ds K=ck7 f es K:=by rw[h]
@[congr] theorem ag1 (h:ds=es)(K:_):ck8 (R:=R) f ds K=ck8 f es K:=by rw[h]
@[congr] theorem ag2 (h:ds=es)(K:_):ck9 (R:=R) f ds K=ck9 f es K:=by rw[h]
@[congr] theorem af8 (h:ds=es)(K:_):YW (R:=R) f ds K=YW f es K:=by rw[h]
@[congr] theorem af9 (h:ds=es)(K:_):PN (R:=R) f ds K=PN f es K:=by rw[h]
@[congr] theorem aga (h:ds=es)(K:_):Xi (R:=R) f ds K=Xi f es K:=by rw[h]
@[congr] theorem agb (h:ds=es)(K:_):aer (R:=R) f ds K=aer f es K:=by rw[h]
@[congr] theorem agc (h:ds=es)(K:_):Lf (R:=R) f ds K=Lf f es K:=by rw[h]
@[congr] theorem agd (h:ds=es)(K:_):JU (R:=R) f ds K=JU f es K:=by rw[h]
@[congr] theorem age (h:ds=es)(K:_):FE (R:=R) f ds K=FE f es K:=by rw[h]
@[congr] theorem agf (h:ds=es)(K:_):aes (R:=R) f ds K=aes f es K:=by rw[h]
@[congr] theorem agh (h:ds=es)(K:_):Dk (R:=R) f ds K=Dk f es K:=by rw[h]
@[congr] theorem agi (h:ds=es)(K:_):adm (R:=R) f ds K=adm f es K:=by rw[h]
@[congr] theorem agj (h:ds=es)(K:_):TE (R:=R) f ds K=TE f es K:=by rw[h]
@[congr] theorem agk (h:ds=es)(K:_):aaO (R:=R) f ds K=aaO f es K:=by rw[h]
@[congr] theorem agl (h:ds=es)(K:_):Vk (R:=R) f ds K=Vk f es K:=by rw[h]
@[congr] theorem agm (h:ds=es)(K:_):SC (R:=R) f ds K=SC f es K:=by rw[h]
@[congr] theorem agn (h:ds=es)(K:_):TG (R:=R) f ds K=TG f es K:=by rw[h]
@[congr] theorem ago (h:ds=es)(K:_):aaP (R:=R) f ds K=aaP f es K:=by rw[h]
@[congr] theorem agp (h:ds=es)(K:_):YX (R:=R) f ds K=YX f es K:=by rw[h]
@[congr] theorem agq (h:ds=es)(K:_):adn (R:=R) f ds K=adn f es K:=by rw[h]
@[congr] theorem agr (h:ds=es)(K:_):aci (R:=R) f ds K=aci f es K:=by rw[h]
@[congr] theorem ags (h:ds=es)(K:_):ado (R:=R) f ds K=ado f es K:=by rw[h]
@[congr] theorem agt (h:ds=es)(K:_):acj (R:=R) f ds K=acj f es K:=by rw[h]
@[congr] theorem agu (h:ds=es)(K:_):adp (R:=R) f ds K=adp f es K:=by rw[h]
@[congr] theorem agv (h:ds=es)(K:_):adq (R:=R) f ds K=adq f es K:=by rw[h]
@[congr] theorem agw (h:ds=es)(K:_):aaQ (R:=R) f ds K=aaQ f es K:=by rw[h]
@[congr] theorem agx (h:ds=es)(K:_):YZ (R:=R) f ds K=YZ f es K:=by rw[h]
@[congr] theorem agy (h:ds=es)(K:_):afp (R:=R) f ds K=afp f es K:=by rw[h]
@[congr] theorem agz (h:ds=es)(K:_):aet (R:=R) f ds K=aet f es K:=by rw[h]
@[congr] theorem agA (h:ds=es)(K:_):afq (R:=R) f ds K=afq f es K:=by rw[h]
@[congr] theorem agB (h:ds=es)(K:_):adr (R:=R) f ds K=adr f es K:=by rw[h]
@[congr] theorem agC (h:ds=es)(K:_):ads (R:=R) f ds K=ads f es K:=by rw[h]
@[congr] theorem agD (h:ds=es)(K:_):Xj (R:=R) f ds K=Xj f es K:=by rw[h]
@[congr] theorem agE (h:ds=es)(K:_):PO (R:=R) f ds K=PO f es K:=by rw[h]
@[congr] theorem agF (h:ds=es)(K:_):adt (R:=R) f ds K=adt f es K:=by rw[h]
@[congr] theorem agH (h:ds=es)(K:_):afr (R:=R) f ds K=afr f es K:=by rw[h]
@[congr] theorem agI (h:ds=es)(K:_):Y0 (R:=R) f ds K=Y0 f es K:=by rw[h]
end
abbrev R:=Rn Tryz.prog cf0
def Gy (p0:List D)(p1:Int)(p2 p3 p4 p5:List D)(p6 p7 p8 p9 p10 p11 p12:Int)(p13:List D)(p14 p15 p16 p17 p18 p19 p20:Int):Option Ret:=R 3 Tryz.f3 [] (zK Tryz.f3 12) ⟨[.d (.rs (1,0) p0),uu,uu,.ref 0 0 0,uu,uu,.ref 1 0 0,.ref 2 0 0,.d (iN p1),uu,uu,uu,uu,uu,uu,uu,uu,uu,uu,uu,uu,uu,uu,uu,uu,uu,uu,uu,uu,uu,uu,uu,uu,uu,uu,uu,uu,uu,uu,uu,uu,uu,uu,uu,uu,uu,uu,uu,uu,uu,uu,uu,uu,uu,uu,uu,uu,uu,uu,uu,uu,uu,uu,uu,uu,uu,uu,uu,uu,uu,uu,uu,uu,uu,uu,uu,uu,uu,uu,uu,uu],[(0,some (.var [.d (.rs (5,0) p2),.d (.rs (4,0) p3),.d (.rs (3,0) p4)])),(1,some (.var [.d (.rs (5,0) p5),.d (iN p6),.d (iN p7),.d (iN p8),.d (iN p9),.d (iN p10),.d (iN p11),.d (iN p12)])),(2,some (.var [.d (.rs (5,0) p13),.d (iN p14),.d (iN p15),.d (iN p16),.d (iN p17),.d (iN p18),.d (iN p19),.d (iN p20)]))],3,[]⟩
def Bm (p0:List D)(p1:Int)(p2 p3 p4:List D)(p5 p6 p7 p8 p9 p10 p11 p12 p13 p14 p15 p16 p17 p18:Int)(p19 p20:List D):Option Ret:=R 3 Tryz.f3 [] (zK Tryz.f3 12) ⟨[.d (.rs (1,0) p0),uu,uu,.ref 0 0 0,uu,uu,.ref 1 0 0,.ref 2 0 0,.d (iN p1),uu,uu,uu,uu,uu,uu,uu,uu,uu,uu,uu,uu,uu,uu,uu,uu,uu,uu,uu,uu,uu,uu,uu,uu,uu,uu,uu,uu,uu,uu,uu,uu,uu,uu,uu,uu,uu,uu,uu,uu,uu,uu,uu,uu,uu,uu,uu,uu,uu,uu,uu,uu,uu,uu,uu,uu,uu,uu,uu,uu,uu,uu,uu,uu,uu,uu,uu,uu,uu,uu,uu,uu],[(0,some (.var [.d (.rs (5,0) p2),.d (.rs (4,0) p3),.d (.rs (3,0) p4)])),(1,some (.var [.asl 3 none,.d (iN p5),.d (iN p6),.d (iN p7),.d (iN p8),.d (iN p9),.d (iN p10),.d (iN p11)])),(2,some (.var [.asl 4 none,.d (iN p12),.d (iN p13),.d (iN p14),.d (iN p15),.d (iN p16),.d (iN p17),.d (iN p18)])),(3,some (.arr (5,0) p19)),(4,some (.arr (5,0) p20))],5,[]⟩
def Dv (p0 p1 p2 p3 p4 p5 p6 p7 p8:Int)(p9 p10 p11:List D):Option Ret:=R 19 Tryz.f19 [] (zK Tryz.f19 6) ⟨[uu,uu,uu,.ref 0 0 0,uu,uu,.asl 1 none,uu,uu,uu,uu,uu,uu,uu,uu,uu,uu,uu,uu,uu,uu,uu,uu,uu,uu,uu,uu,uu,uu,uu,.asl 2 none,.d (iN p0),.d (iN p1),uu,uu,uu,uu,uu,uu,uu,uu,uu,uu,uu,uu,uu,uu],[(0,some (.var [.asl 3 none,.d (iN p2),.d (iN p3),.d (iN p4),.d (iN p5),.d (iN p6),.d (iN p7),.d (iN p8)])),(1,some (.arr (1,0) p9)),(2,some (.arr (1,0) p10)),(3,some (.arr (5,0) p11))],4,[]⟩
def Iq (p0:List D)(p1 p2:Int):Option Ret:=R 51 Tryz.f51 [] (zK Tryz.f51 3) ⟨[.d (.rs (1,0) p0),uu,uu,.d (iN p1),.d (iN p2),uu,uu,uu,uu,uu,uu,uu,uu,uu,uu,uu,uu,uu,uu,uu,uu,uu,uu,uu,uu,uu,uu,uu,uu,uu,uu,uu],[],0,[]⟩
def Gt (p0 p1:Int)(p2 p3 p4:List D):Option Ret:=R 54 Tryz.f54 [] (zK Tryz.f54 4) ⟨[uu,.ref 0 0 0,uu,uu,uu,uu,uu,uu,uu,uu,uu,uu,uu,uu,uu,uu,uu,uu,uu,uu,uu,uu,uu,uu,.d (iN p0),.d (iN p1),uu,uu,uu,uu,uu,uu,uu,uu,uu,uu,uu,uu,uu,uu,uu,uu,uu,uu,uu,uu,uu,uu,uu,uu,uu,uu,uu,uu,uu,uu,uu,uu,uu,uu,uu,uu,uu,uu,uu,uu,uu,uu,uu,uu],[(0,some (.var [.d (.rs (5,0) p2),.d (.rs (4,0) p3),.d (.rs (3,0) p4)]))],1,[]⟩
def Ga (p0:List D)(p1 p2:Int)(p3 p4 p5:List D):Option Ret:=R 54 Tryz.f54 [] (zK Tryz.f54 10) ⟨[uu,.ref 0 0 0,uu,uu,uu,uu,uu,uu,uu,uu,uu,uu,uu,uu,uu,uu,uu,uu,uu,uu,uu,uu,uu,uu,uu,uu,uu,uu,uu,uu,uu,uu,uu,uu,.d (.rs (3,0) p0),.d (iN p1),.d (iN p2),uu,uu,uu,uu,uu,uu,uu,uu,uu,uu,uu,uu,uu,uu,uu,uu,uu,uu,uu,uu,uu,uu,uu,uu,uu,uu,uu,uu,uu,uu,uu,uu,uu],[(0,some (.var [.d (.rs (5,0) p3),.d (.rs (4,0) p4),.d (.rs (3,0) p5)]))],1,[]⟩
def Gv (p0:List D)(p1 p2:Int)(p3:List D):Option Ret:=R 55 Tryz.f55 [] (zK Tryz.f55 2) ⟨[uu,.ref 0 0 0,uu,uu,uu,uu,.d (.rs (5,0) p0),.d (iN p1),.d (iN p2),uu,uu,uu,uu,uu,uu,uu,uu,uu,uu,uu,uu,uu],[(0,some (.var [.d (.rs (5,0) p3)]))],1,[]⟩
def Gz (p0:Int)(p1 p2 p3:List D):Option Ret:=R 59 Tryz.f59 [] (zK Tryz.f59 4) ⟨[uu,.ref 0 0 0,uu,.d (iN p0),uu,uu,uu,uu,uu,uu,uu,uu,uu,uu,uu,uu,uu,uu,uu,uu,uu,uu,uu,uu,uu,uu,uu,uu,uu,uu,uu,uu,uu,uu,uu,uu,uu,uu,uu,uu,uu,uu,uu,uu,uu,uu,uu,uu,uu,uu,uu,uu,uu,uu,uu,uu,uu,uu,uu,uu,uu,uu,uu,uu,uu,uu,uu,uu,uu,uu,uu,uu,uu],[(0,some (.var [.d (.rs (5,0) p1),.d (.rs (4,0) p2),.d (.rs (3,0) p3)]))],1,[]⟩
def GA (p0:Int)(p1 p2 p3:List D):Option Ret:=R 59 Tryz.f59 [] (zK Tryz.f59 9) ⟨[uu,.ref 0 0 0,uu,uu,.d (iN p0),uu,uu,uu,uu,uu,uu,uu,uu,uu,uu,uu,uu,uu,uu,uu,uu,uu,uu,uu,uu,uu,uu,uu,uu,uu,uu,uu,uu,uu,uu,uu,uu,uu,uu,uu,uu,uu,uu,uu,uu,uu,uu,uu,uu,uu,uu,uu,uu,uu,uu,uu,uu,uu,uu,uu,uu,uu,uu,uu,uu,uu,uu,uu,uu,uu,uu,uu,uu],[(0,some (.var [.d (.rs (5,0) p1),.d (.rs (4,0) p2),.d (.rs (3,0) p3)]))],1,[]⟩
def GB (p0:Int)(p1:List D):Option Ret:=R 60 Tryz.f60 [] (zK Tryz.f60 2) ⟨[uu,.ref 0 0 0,uu,.d (iN p0),uu,uu,uu,uu,uu,uu,uu,uu,uu,uu,uu,uu,uu,uu,uu,uu,uu,uu,uu],[(0,some (.var [.d (.rs (5,0) p1)]))],1,[]⟩
def Jv (p0:List D)(p1 p2:Int)(p3 p4 p5:List D):Option Ret:=R 66 Tryz.f66 [] (zK Tryz.f66 5) ⟨[uu,uu,uu,uu,.ref 0 0 0,uu,.ref 1 0 0,.asl 2 none,.asl 3 none,uu,uu,uu,uu,uu,uu,uu,.d (.rs (1,0) p0),.d (iN p1),.d (iN p2),uu,uu,uu,uu,uu,uu,uu,uu,uu,uu,uu,uu,uu],[(0,some (.var [.d .nl])),(1,some (.var [.asl 4 none])),(2,some (.arr (1,0) p3)),(3,some (.arr (1,0) p4)),(4,some (.arr (5,0) p5))],5,[]⟩
def Gx (p0:Int)(p1:List D):Option Ret:=R 67 Tryz.f67 [] (zK Tryz.f67 4) ⟨[.d (iN p0),uu,uu,.asl 0 none,uu,uu,uu,uu,uu,uu,uu,uu,uu,uu,uu,uu,uu,uu,uu,uu,uu,uu,uu],[(0,some (.arr (1,0) p1))],1,[]⟩
def Ae (p0:List D)(p1 p2:Int)(p3:List D):Option Ret:=R 68 Tryz.f68 [] (zK Tryz.f68 3) ⟨[uu,uu,uu,.asl 0 none,uu,uu,uu,uu,uu,uu,uu,.d (.rs (5,0) p0),.d (iN p1),.d (iN p2),uu,uu,uu,uu,uu,uu,uu,uu,uu,uu,uu,uu,uu,uu,uu,uu,uu,uu,uu,uu,uu,uu,uu,uu,uu,uu,uu,uu,uu,uu,uu,uu,uu,uu,uu,uu,uu,uu,uu,uu,uu,uu,uu,uu,uu,uu,uu,uu,uu,uu,uu,uu,uu,uu,uu,uu,uu,uu,uu,uu,uu,uu,uu,uu,uu,uu,uu],[(0,some (.arr (1,0) p3))],1,[]⟩
def CJ (p0:Int)(p1:List D)(p2 p3:Int)(p4:List D):Option Ret:=R 90 Tryz.f90 [87] (zK Tryz.f90 8) ⟨[uu,uu,.ref 0 0 0,.ref 1 0 0,uu,.d (iN p0),uu,uu,uu,uu,uu,uu,uu,uu,uu,uu,uu,uu,uu,uu,uu,uu,uu,uu,uu,uu,uu,uu,uu,uu,uu,uu,uu,uu,uu,uu,uu,uu,uu,uu,uu,uu,uu,uu,uu,uu,uu,uu,uu,uu,uu,uu],[(0,some (.var [.d .nl])),(1,some (.var [.asl 3 none])),(2,some (.var [.d (.rs (1,0) p1),.d (iN p2),.d (iN p3)])),(3,some (.arr (5,0) p4))],4,[.ref 2 0 0]⟩
def Dw (p0:Int)(p1 p2:List D):Option Ret:=R 119 Tryz.f119 [((Go.Func.params Tryz.f119).toList.getD 0 0)] (zK Tryz.f119 2) ⟨[.ref 0 0 0,.d (iN p0),uu,uu,uu,uu,.asl 1 none,uu,uu,uu,uu,uu,uu,uu,uu,uu,uu,uu,uu,uu,uu,uu,uu,uu,uu,uu,uu,uu,uu,uu,uu,uu,uu,uu,uu,uu,uu,uu,uu,uu,uu,uu,uu,uu,uu,uu],[(0,some (.var [.asl 2 none])),(1,some (.arr (1,0) p1)),(2,some (.arr (5,0) p2))],3,[.ref 0 0 0]⟩
def EH (p0:ByteArray)(p1 p2:Int):Option Ret:=R 124 Tryz.f124 [] (zK Tryz.f124 4) ⟨[.d (.str p0),uu,uu,uu,uu,uu,uu,uu,uu,.d (iN p1),.d (iN p2),uu,uu,uu,uu,uu,uu,uu,uu],[],0,[]⟩
def EU (p0:ByteArray)(p1:Int):Option Ret:=R 128 Tryz.f128 [] (zK Tryz.f128 2) ⟨[.d (.str p0),uu,uu,.d (iN p1),uu,uu,uu,uu,uu,uu,uu,uu,uu,uu,uu,uu,uu,uu],[],0,[]⟩
def Ip (p0:ByteArray)(p1:Int)(p2 p3 p4:List D):Option Ret:=R 129 Tryz.f129 [] (zK Tryz.f129 2) ⟨[uu,.d (.str p0),.ref 0 0 0,uu,uu,.d (iN p1),uu,uu,uu,uu,uu,uu,uu,uu,uu,uu,uu,uu,uu,uu,uu,uu],[(0,some (.var [.d (.rs (5,0) p2),.d (.rs (4,0) p3),.d (.rs (3,0) p4)]))],1,[]⟩
def Cu (p0 p1 p2 p3 p4 p5 p6 p7 p8:Int)(p9 p10 p11 p12 p13:List D):Option Ret:=R 132 Tryz.f132 [((Go.Func.params Tryz.f132).toList.getD 0 0)] (zK Tryz.f132 5) ⟨[.ref 0 0 0,uu,uu,uu,uu,.asl 1 none,uu,uu,uu,uu,uu,uu,uu,uu,uu,uu,uu,uu,uu,uu,uu,uu,.d (iN p0),.d (iN p1),uu,uu,uu,uu,uu,uu,uu,uu,uu,uu,uu,uu,uu,uu,uu,uu,uu,uu,uu,uu,uu,uu],[(0,some (.var [.asl 2 none,.d (iN p2),.d (iN p3),.d (iN p4),.d (iN p5),.d (iN p6),.d (iN p7),.d (iN p8),.d (.rs (5,0) p9),.d (.rs (4,0) p10),.d (.rs (3,0) p11)])),(1,some (.arr (1,0) p12)),(2,some (.arr (5,0) p13))],3,[.ref 0 0 0]⟩
def AF (p0:List D)(p1 p2:Int)(p3 p4 p5:List D):Option Ret:=R 137 Tryz.f137 [((Go.Func.params Tryz.f137).toList.getD 0 0)] (zK Tryz.f137 4) ⟨[.ref 0 0 0,uu,uu,uu,uu,uu,uu,.asl 1 none,.asl 2 none,uu,uu,uu,uu,uu,uu,uu,uu,uu,uu,.d (.rs (5,0) p0),.d (iN p1),.d (iN p2),uu,uu,uu,uu,uu,uu,uu,uu,uu,uu,uu,uu,uu,uu,uu,uu,uu,uu,uu,uu,uu,uu,uu,uu,uu,uu,uu,uu,uu,uu,uu,uu,uu,uu,uu,uu,uu,uu,uu,uu,uu,uu,uu,uu,uu],[(0,some (.var [.asl 3 none])),(1,some (.arr (1,0) p3)),(2,some (.arr (1,0) p4)),(3,some (.arr (5,0) p5))],4,[.ref 0 0 0]⟩
def CE (p0:Int)(p1:List D)(p2 p3:Int):Option Ret:=R 142 Tryz.f142 [87] (zK Tryz.f142 2) ⟨[.ref 0 0 0,uu,.ref 1 0 0,.d (iN p0),uu,uu,uu,uu,uu,uu,uu,uu,uu,uu,uu,uu,uu,uu,uu,uu,uu,uu,uu,uu,uu,uu,uu,uu,uu,uu,uu,uu,uu,uu,uu,uu,uu,uu,uu,uu,uu,uu,uu,uu,uu,uu,uu,uu,uu,uu,uu,uu,uu,uu,uu,uu,uu,uu,uu,uu],[(0,some (.var [.d (.rs (1,0) p1),.d (iN p2),.d (iN p3)])),(1,some (.var [.d .nl,.d .nl,.d .nl]))],2,[.ref 0 0 0]⟩
def BV (p0:List D)(p1:Int)(p2 p3 p4:List D):Option Ret:=R 148 Tryz.f148 [((Go.Func.params Tryz.f148).toList.getD 0 0)] (zK Tryz.f148 3) ⟨[.ref 0 0 0,uu,.d (.rs (1,0) p0),uu,.ref 1 0 0,uu,uu,.asl 2 none,.d (iN p1),uu,uu,uu,uu,uu,uu,uu,uu,uu,uu,uu,uu,uu,uu,uu,uu,uu,uu,uu,uu,uu,uu,uu,uu,uu,uu,uu,uu,uu,uu,uu,uu,uu,uu,uu,uu,uu,uu,uu,uu,uu,uu,uu,uu,uu,uu,uu,uu,uu,uu,uu,uu,uu,uu],[(0,some (.var [.asl 3 none])),(1,some (.var [.d (.rs (5,0) p2)])),(2,some (.arr (1,0) p3)),(3,some (.arr (5,0) p4))],4,[.ref 0 0 0]⟩
def Ee (p0:List D)(p1:Int)(p2 p3:List D):Option Ret:=R 149 Tryz.f149 [] (zK Tryz.f149 3) ⟨[uu,.d (.rs (1,0) p0),.ref 0 0 0,uu,uu,.asl 1 none,.d (iN p1),uu,uu,uu,uu,uu,uu,uu,uu,uu,uu,uu,uu,uu,uu,uu,uu,uu,uu,uu,uu,uu,uu,uu,uu,uu,uu,uu,uu,uu,uu,uu,uu,uu,uu,uu,uu,uu,uu,uu,uu,uu,uu,uu,uu,uu,uu,uu,uu,uu,uu,uu,uu,uu,uu,uu,uu],[(0,some (.var [.d (.rs (5,0) p2)])),(1,some (.arr (1,0) p3))],2,[]⟩
def BG (p0:Int)(p1 p2:List D):Option Ret:=R 149 Tryz.f149 [] (zK Tryz.f149 7) ⟨[uu,uu,.ref 0 0 0,uu,uu,.asl 1 none,uu,.d (iN p0),uu,uu,uu,uu,uu,uu,uu,uu,uu,uu,uu,uu,uu,uu,uu,uu,uu,uu,uu,uu,uu,uu,uu,uu,uu,uu,uu,uu,uu,uu,uu,uu,uu,uu,uu,uu,uu,uu,uu,uu,uu,uu,uu,uu,uu,uu,uu,uu,uu,uu,uu,uu,uu,uu,uu],[(0,some (.var [.d (.rs (5,0) p1)])),(1,some (.arr (1,0) p2))],2,[]⟩
def Jp (p0 p1:Int)(p2:List D)(p3 p4:Int):Option Ret:=R 154 Tryz.f154 [87] (zK Tryz.f154 4) ⟨[.ref 0 0 0,uu,.ref 1 0 0,.ref 2 0 0,.d (iN p0),.d (iN p1),uu,uu,uu,uu,uu,uu,uu,uu,uu,uu,uu,uu,uu],[(0,some (.var [.d (.rs (1,0) p2),.d (iN p3),.d (iN p4)])),(1,some (.var [.d .nl])),(2,some (.var [.d .nl]))],3,[.ref 0 0 0]⟩
def CU (p0 p1:Int)(p2:List D)(p3 p4:Int)(p5:List D):Option Ret:=R 154 Tryz.f154 [87] (zK Tryz.f154 4) ⟨[.ref 0 0 0,uu,.ref 1 0 0,.ref 2 0 0,.d (iN p0),.d (iN p1),uu,uu,uu,uu,uu,uu,uu,uu,uu,uu,uu,uu,uu],[(0,some (.var [.d (.rs (1,0) p2),.d (iN p3),.d (iN p4)])),(1,some (.var [.d .nl])),(2,some (.var [.asl 3 none])),(3,some (.arr (5,0) p5))],4,[.ref 0 0 0]⟩
def FM (p0 p1:Int)(p2:List D)(p3 p4:Int)(p5 p6 p7:List D)(p8 p9 p10 p11 p12 p13 p14 p15 p16 p17 p18 p19 p20 p21:Int)(p22:List D):Option Ret:=R 172 Tryz.f172 [87] (zK Tryz.f172 2) ⟨[.ref 0 0 0,uu,uu,.d (iN p0),uu,.ref 1 0 0,.ref 2 0 0,uu,.ref 3 0 0,.d (iN p1),uu,uu,uu,uu,uu,uu,uu,uu,uu,uu,uu,uu,uu,uu,uu,uu,uu,uu,uu],[(0,some (.var [.d (.rs (1,0) p2),.d (iN p3),.d (iN p4)])),(1,some (.var [.d (.rs (5,0) p5),.d (.rs (4,0) p6),.d (.rs (3,0) p7)])),(2,some (.var [.asl 4 none,.d (iN p8),.d (iN p9),.d (iN p10),.d (iN p11),.d (iN p12),.d (iN p13),.d (iN p14)])),(3,some (.var [.d .nl,.d (iN p15),.d (iN p16),.d (iN p17),.d (iN p18),.d (iN p19),.d (iN p20),.d (iN p21)])),(4,some (.arr (5,0) p22))],5,[.ref 0 0 0]⟩
def DT (p0:List D)(p1:ByteArray)(p2 p3:Int):Option Ret:=R 178 Tryz.f178 [] (zK Tryz.f178 2) ⟨[.d (.rs (3,0) p0),.fn 179 [.rp (1,1) [.str p1] 0 0],uu,uu,uu,uu,uu,.d (iN p2),.d (iN p3),uu,uu,uu,uu,uu,uu,uu,uu,uu,uu],[],0,[]⟩
def Ci (p0 p1:Int)(p2:List D):Option Ret:=R 183 Tryz.f183 [96] (zK Tryz.f183 1) ⟨[.asl 0 none,uu,.d (iN p0),.d (iN p1),uu,uu,uu,uu,uu,uu,uu,uu,uu,uu,uu,uu,uu,uu,uu,uu,uu,uu,uu,uu,uu,uu,uu,uu],[(0,some (.arr (1,0) p2))],1,[.asl 0 none]⟩
def Dh (p0 p1:List D)(p2 p3:Int):Option Ret:=R 188 Tryz.f188 [] (zK Tryz.f188 2) ⟨[.d (.rs (1,0) p0),.fn 136 [.rp (1,1) [.rs (5,0) p1] 0 0],uu,uu,uu,uu,uu,.d (iN p2),.d (iN p3),uu,uu,uu,uu,uu,uu,uu,uu,uu,uu],[],0,[]⟩
def FH (p0:List D)(p1 p2:Int)(p3 p4:List D):Option Ret:=R 189 Tryz.f189 [] (zK Tryz.f189 3) ⟨[uu,uu,.ref 0 0 0,uu,uu,.asl 1 none,uu,uu,uu,uu,uu,uu,uu,uu,.d (.rs (1,0) p0),.d (iN p1),.d (iN p2),uu,uu,uu,uu,uu,uu,uu,uu,uu,uu,uu,uu,uu,uu,uu,uu,uu,uu,uu,uu,uu,uu,uu,uu,uu,uu,uu,uu,uu,uu,uu,uu,uu,uu,uu,uu,uu,uu,uu,uu,uu,uu,uu,uu,uu],[(0,some (.var [.d (.rs (5,0) p3)])),(1,some (.arr (1,0) p4))],2,[]⟩
def Cr (p0:Int)(p1 p2:List D):Option Ret:=R 189 Tryz.f189 [] (zK Tryz.f189 8) ⟨[uu,uu,.ref 0 0 0,uu,uu,.asl 1 none,uu,uu,.d (iN p0),uu,uu,uu,uu,uu,uu,uu,uu,uu,uu,uu,uu,uu,uu,uu,uu,uu,uu,uu,uu,uu,uu,uu,uu,uu,uu,uu,uu,uu,uu,uu,uu,uu,uu,uu,uu,uu,uu,uu,uu,uu,uu,uu,uu,uu,uu,uu,uu,uu,uu,uu,uu,uu],[(0,some (.var [.d (.rs (5,0) p1)])),(1,some (.arr (1,0) p2))],2,[]⟩
def AH (p0:ByteArray)(p1:Int)(p2 p3 p4 p5:List D):Option Ret:=R 191 Tryz.f191 [] (zK Tryz.f191 9) ⟨[uu,.d (.str p0),.ref 0 0 0,uu,.ref 1 0 0,uu,uu,uu,.asl 2 none,.ref 3 0 0,.asl 4 none,.d (iN p1),uu,uu,uu,uu,uu,uu,uu,uu,uu,uu,uu,uu,uu,uu,uu,uu,uu,uu,uu,uu,uu,uu,uu,uu,uu,uu,uu,uu,uu,uu,uu,uu,uu,uu,uu,uu,uu,uu,uu,uu,uu,uu,uu,uu,uu,uu,uu,uu,uu,uu,uu,uu,uu,uu,uu,uu,uu,uu,uu,uu,uu,uu,uu,uu,uu,uu,uu,uu,uu,uu,uu,uu,uu,uu,uu,uu,uu,uu,uu,uu,uu,uu,uu,uu,uu,uu,uu,uu,uu,uu,uu,uu,uu,uu,uu,uu,uu,uu,uu,uu,uu,uu,uu,uu,uu,uu,uu,uu,uu,uu,uu,uu,uu,uu,uu,uu,uu,uu,uu,uu,uu,uu,uu,uu,uu,uu,uu,uu,uu,uu,uu,uu,uu,uu,uu,uu,uu,uu,uu,uu,uu,uu,uu,uu,uu,uu,uu,uu,uu,uu,uu,uu,uu,uu,uu,uu,uu,uu],[(0,some (.var [.d (.rs (5,0) p2)])),(1,some (.var [.d .nl])),(2,some (.arr (1,0) p3)),(3,some (.var [.asl 5 none])),(4,some (.arr (2,2) p4)),(5,some (.arr (5,0) p5))],6,[]⟩
def AC (p0:ByteArray)(p1:Nat)(p2:Int)(p3 p4 p5 p6:List D):Option Ret:=R 191 Tryz.f191 [] (zK Tryz.f191 9) ⟨[uu,.d (.str p0),.ref 0 0 0,uu,.ref 1 0 0,uu,uu,uu,.asl 2 none,.ref 3 0 0,.asl 4 (some (0,p1)),.d (iN p2),uu,uu,uu,uu,uu,uu,uu,uu,uu,uu,uu,uu,uu,uu,uu,uu,uu,uu,uu,uu,uu,uu,uu,uu,uu,uu,uu,uu,uu,uu,uu,uu,uu,uu,uu,uu,uu,uu,uu,uu,uu,uu,uu,uu,uu,uu,uu,uu,uu,uu,uu,uu,uu,uu,uu,uu,uu,uu,uu,uu,uu,uu,uu,uu,uu,uu,uu,uu,uu,uu,uu,uu,uu,uu,uu,uu,uu,uu,uu,uu,uu,uu,uu,uu,uu,uu,uu,uu,uu,uu,uu,uu,uu,uu,uu,uu,uu,uu,uu,uu,uu,uu,uu,uu,uu,uu,uu,uu,uu,uu,uu,uu,uu,uu,uu,uu,uu,uu,uu,uu,uu,uu,uu,uu,uu,uu,uu,uu,uu,uu,uu,uu,uu,uu,uu,uu,uu,uu,uu,uu,uu,uu,uu,uu,uu,uu,uu,uu,uu,uu,uu,uu,uu,uu,uu,uu,uu,uu],[(0,some (.var [.d (.rs (5,0) p3)])),(1,some (.var [.d .nl])),(2,some (.arr (1,0) p4)),(3,some (.var [.asl 5 none])),(4,some (.arr (2,2) p5)),(5,some (.arr (5,0) p6))],6,[]⟩
def Dn (p0:ByteArray)(p1 p2 p3:Int)(p4 p5 p6 p7:List D):Option Ret:=R 191 Tryz.f191 [] (zK Tryz.f191 27) ⟨[uu,.d (.str p0),.ref 0 0 0,uu,.ref 1 0 0,uu,uu,uu,.asl 2 none,.ref 3 0 0,.asl 4 none,.d (iN p1),.d (iN p2),uu,uu,.d (iN p3),uu,uu,uu,uu,uu,uu,uu,uu,uu,uu,uu,uu,uu,uu,uu,uu,uu,uu,uu,uu,uu,uu,uu,uu,uu,uu,uu,uu,uu,uu,uu,uu,uu,uu,uu,uu,uu,uu,uu,uu,uu,uu,uu,uu,uu,uu,uu,uu,uu,uu,uu,uu,uu,uu,uu,uu,uu,uu,uu,uu,uu,uu,uu,uu,uu,uu,uu,uu,uu,uu,uu,uu,uu,uu,uu,uu,uu,uu,uu,uu,uu,uu,uu,uu,uu,uu,uu,uu,uu,uu,uu,uu,uu,uu,uu,uu,uu,uu,uu,uu,uu,uu,uu,uu,uu,uu,uu,uu,uu,uu,uu,uu,uu,uu,uu,uu,uu,uu,uu,uu,uu,uu,uu,uu,uu,uu,uu,uu,uu,uu,uu,uu,uu,uu,uu,uu,uu,uu,uu,uu,uu,uu,uu,uu,uu,uu,uu,uu,uu,uu,uu,uu,uu,uu],[(0,some (.var [.d (.rs (5,0) p4)])),(1,some (.var [.d .nl])),(2,some (.arr (1,0) p5)),(3,some (.var [.asl 5 none])),(4,some (.arr (2,2) p6)),(5,some (.arr (5,0) p7))],6,[]⟩
def Cy (p0:ByteArray)(p1:Nat)(p2 p3 p4:Int)(p5 p6 p7 p8:List D):Option Ret:=R 191 Tryz.f191 [] (zK Tryz.f191 27) ⟨[uu,.d (.str p0),.ref 0 0 0,uu,.ref 1 0 0,uu,uu,uu,.asl 2 none,.ref 3 0 0,.asl 4 (some (0,p1)),.d (iN p2),.d (iN p3),uu,uu,.d (iN p4),uu,uu,uu,uu,uu,uu,uu,uu,uu,uu,uu,uu,uu,uu,uu,uu,uu,uu,uu,uu,uu,uu,uu,uu,uu,uu,uu,uu,uu,uu,uu,uu,uu,uu,uu,uu,uu,uu,uu,uu,uu,uu,uu,uu,uu,uu,uu,uu,uu,uu,uu,uu,uu,uu,uu,uu,uu,uu,uu,uu,uu,uu,uu,uu,uu,uu,uu,uu,uu,uu,uu,uu,uu,uu,uu,uu,uu,uu,uu,uu,uu,uu,uu,uu,uu,uu,uu,uu,uu,uu,uu,uu,uu,uu,uu,uu,uu,uu,uu,uu,uu,uu,uu,uu,uu,uu,uu,uu,uu,uu,uu,uu,uu,uu,uu,uu,uu,uu,uu,uu,uu,uu,uu,uu,uu,uu,uu,uu,uu,uu,uu,uu,uu,uu,uu,uu,uu,uu,uu,uu,uu,uu,uu,uu,uu,uu,uu,uu,uu,uu,uu,uu,uu,uu],[(0,some (.var [.d (.rs (5,0) p5)])),(1,some (.var [.d .nl])),(2,some (.arr (1,0) p6)),(3,some (.var [.asl 5 none])),(4,some (.arr (2,2) p7)),(5,some (.arr (5,0) p8))],6,[]⟩
def Gb (p0:List D)(p1:Int)(p2:List D):Option Ret:=R 193 Tryz.f193 [] (zK Tryz.f193 4) ⟨[uu,.d (.rs (1,0) p0),.ref 0 0 0,uu,.ref 1 0 0,uu,uu,.d (iN p1),uu,uu,uu,uu,uu,uu,uu,uu,uu,uu,uu,uu,uu,uu,uu,uu,uu,uu,uu,uu,uu,uu,uu,uu,uu,uu,uu,uu,uu,uu,uu,uu,uu,uu,uu,uu,uu,uu,uu,uu,uu,uu,uu,uu,uu,uu,uu,uu,uu,uu,uu,uu,uu,uu,uu,uu,uu,uu,uu,uu,uu,uu,uu,uu,uu,uu,uu,uu,uu,uu,uu,uu,uu,uu],[(0,some (.var [.d (.rs (5,0) p2)])),(1,some (.var [.d .nl,.d .nl,.d .nl]))],2,[]⟩
def GX (p0:List D)(p1 p2:Int)(p3:List D):Option Ret:=R 193 Tryz.f193 [] (zK Tryz.f193 10) ⟨[uu,.d (.rs (1,0) p0),uu,uu,.ref 0 0 0,uu,uu,uu,.ref 1 0 0,.d (iN p1),uu,uu,uu,uu,uu,uu,uu,uu,uu,uu,uu,uu,uu,uu,uu,uu,uu,uu,uu,uu,uu,uu,uu,uu,uu,uu,uu,uu,uu,uu,uu,uu,uu,uu,uu,uu,uu,uu,uu,uu,uu,uu,uu,uu,uu,uu,uu,uu,uu,uu,uu,uu,uu,uu,uu,uu,uu,uu,uu,uu,uu,uu,uu,uu,uu,uu,uu,uu,uu,uu,uu,uu],[(0,some (.var [.d .nl,.d .nl,.d .nl])),(1,some (.var [.asl 2 none,.d .nl,.d .nl,.d (iN p2)])),(2,some (.arr (5,0) p3))],3,[]⟩
def DV (p0:List D)(p1 p2:Int)(p3 p4 p5:List D):Option Ret:=R 193 Tryz.f193 [] (zK Tryz.f193 10) ⟨[uu,.d (.rs (1,0) p0),uu,uu,.ref 0 0 0,uu,uu,uu,.ref 1 0 0,.d (iN p1),uu,uu,uu,uu,uu,uu,uu,uu,uu,uu,uu,uu,uu,uu,uu,uu,uu,uu,uu,uu,uu,uu,uu,uu,uu,uu,uu,uu,uu,uu,uu,uu,uu,uu,uu,uu,uu,uu,uu,uu,uu,uu,uu,uu,uu,uu,uu,uu,uu,uu,uu,uu,uu,uu,uu,uu,uu,uu,uu,uu,uu,uu,uu,uu,uu,uu,uu,uu,uu,uu,uu,uu],[(0,some (.var [.d .nl,.d .nl,.d .nl])),(1,some (.var [.asl 2 none,.asl 3 none,.asl 4 none,.d (iN p2)])),(2,some (.arr (5,0) p3)),(3,some (.arr (4,0) p4)),(4,some (.arr (3,0) p5))],5,[]⟩
def Fp (p0:Int)(p1:ByteArray):Option Ret:=R 202 Tryz.f202 [] (zK Tryz.f202 6) ⟨[.d (iN p0),uu,uu,.d (.str p1),uu,uu,uu,uu,uu,uu,uu,uu,uu,uu,uu,uu,uu,uu,uu,uu,uu,uu,uu,uu,uu],[],0,[]⟩
def CT (p0 p1 p2 p3 p4 p5 p6 p7 p8:Int)(p9 p10 p11 p12:List D):Option Ret:=R 207 Tryz.f207 [((Go.Func.params Tryz.f207).toList.getD 0 0)] (zK Tryz.f207 1) ⟨[.ref 0 0 0,.d (iN p0),.d (iN p1),uu,uu,uu,uu,uu,uu,uu,uu,uu,uu,uu,uu,uu,uu,uu,uu,uu,uu,uu,uu,uu,uu,uu,uu,uu,uu,uu,uu,uu,uu,uu,uu,uu,uu,uu,uu,uu,uu,uu,uu,uu,uu,uu,uu,uu,uu,uu,uu,uu,uu,uu],[(0,some (.var [.asl 1 none,.d (iN p2),.d (iN p3),.d (iN p4),.d (iN p5),.d (iN p6),.d (iN p7),.d (iN p8),.d (.rs (5,0) p9),.d (.rs (4,0) p10),.d (.rs (3,0) p11)])),(1,some (.arr (5,0) p12))],2,[.ref 0 0 0]⟩
def GD (p0:List D)(p1 p2:Int)(p3:List D):Option Ret:=R 210 Tryz.f210 [((Go.Func.params Tryz.f210).toList.getD 0 0)] (zK Tryz.f210 3) ⟨[.ref 0 0 0,.d (.rs (1,0) p0),uu,uu,uu,.d (iN p1),.d (iN p2),uu,uu,uu,uu,uu,uu,uu,uu,uu,uu,uu,uu,uu,uu,uu,uu,uu,uu,uu],[(0,some (.var [.asl 1 none])),(1,some (.arr (5,0) p3))],2,[.ref 0 0 0]⟩
def Iu (p0 p1:Int)(p2:List D):Option Ret:=R 216 Tryz.f216 [] (zK Tryz.f216 1) ⟨[uu,.d (iN p0),.d (iN p1),.ref 0 0 0,uu,uu,uu,uu,uu,uu,uu,uu,uu,uu,uu,uu,uu,uu,uu,uu,uu,uu,uu,uu,uu,uu,uu,uu,uu,uu,uu,uu,uu,uu,uu,uu,uu,uu,uu,uu],[(0,some (.var [.d (.rs (5,0) p2)]))],1,[]⟩
def GF (p0 p1 p2 p3 p4 p5 p6 p7 p8:Int)(p9 p10 p11 p12 p13:List D):Option Ret:=R 219 Tryz.f219 [((Go.Func.params Tryz.f219).toList.getD 1 0)] (zK Tryz.f219 3) ⟨[uu,.ref 0 0 0,uu,.d (iN p0),.ref 1 0 0,uu,uu,uu,uu,.asl 2 none,.d (iN p1),uu,uu,uu,uu,uu,uu,uu,uu,uu,uu,uu,uu,uu,uu,uu,uu,uu,uu,uu,uu,uu,uu,uu,uu,uu,uu,uu,uu,uu,uu,uu,uu,uu,uu,uu,uu,uu,uu,uu,uu,uu,uu,uu],[(0,some (.var [.asl 3 none,.d (iN p2),.d (iN p3),.d (iN p4),.d (iN p5),.d (iN p6),.d (iN p7),.d (iN p8)])),(1,some (.var [.d (.rs (5,0) p9),.d (.rs (4,0) p10),.d (.rs (3,0) p11)])),(2,some (.arr (1,0) p12)),(3,some (.arr (5,0) p13))],4,[.ref 0 0 0]⟩
def Cg (p0:List D)(p1 p2 p3:Int):Option Ret:=R 221 Tryz.f221 [] (zK Tryz.f221 2) ⟨[.d (.rs (1,0) p0),.d (.int .u8 p1),uu,uu,uu,uu,uu,.d (iN p2),.d (iN p3),uu,uu,uu,uu,uu,uu,uu,uu,uu,uu],[],0,[]⟩
def Eu (p0:List D)(p1 p2:Int)(p3:List D):Option Ret:=R 222 Tryz.f222 [((Go.Func.params Tryz.f222).toList.getD 0 0)] (zK Tryz.f222 3) ⟨[.ref 0 0 0,.d (.rs (1,0) p0),uu,uu,uu,.d (iN p1),.d (iN p2),uu,uu,uu,uu,uu,uu,uu,uu,uu,uu,uu,uu,uu,uu,uu,uu,uu,uu],[(0,some (.var [.asl 1 none])),(1,some (.arr (5,0) p3))],2,[.ref 0 0 0]⟩
def AI (p0:Int)(p1 p2:List D)(p3 p4:Int)(p5:List D):Option Ret:=R 224 Tryz.f224 [((Go.Func.params Tryz.f224).toList.getD 0 0)] (zK Tryz.f224 2) ⟨[.ref 0 0 0,.d (iN p0),.d (.rs (1,0) p1),uu,uu,uu,uu,uu,uu,uu,uu,.d (.rs (1,0) p2),.d (iN p3),.d (iN p4),uu,uu,uu,uu,uu,uu,uu,uu,uu,uu,uu,uu,uu,uu,uu,uu,uu,uu,uu,uu,uu,uu,uu,uu,uu,uu,uu,uu,uu,uu,uu,uu,uu,uu,uu,uu,uu,uu,uu,uu,uu,uu,uu,uu,uu,uu,uu,uu,uu,uu,uu,uu,uu,uu,uu,uu,uu,uu,uu,uu,uu,uu,uu,uu,uu,uu,uu,uu,uu,uu,uu,uu,uu,uu],[(0,some (.var [.asl 1 none])),(1,some (.arr (5,0) p5))],2,[.ref 0 0 0]⟩
def Bv (p0:List D)(p1:ByteArray)(p2 p3:Int):Option Ret:=R 225 Tryz.f225 [] (zK Tryz.f225 2) ⟨[.d (.rs (1,0) p0),.d (.str p1),uu,uu,uu,uu,uu,.d (iN p2),.d (iN p3),uu,uu,uu,uu,uu,uu,uu,uu,uu,uu],[],0,[]⟩
def CG (p0 p1:ByteArray)(p2 p3:Int):Option Ret:=R 227 Tryz.f227 [] (zK Tryz.f227 8) ⟨[.d (.str p0),uu,uu,uu,.d (.str p1),.d (iN p2),.d (iN p3),uu,uu,uu,uu,uu,uu,uu,uu,uu,uu,uu,uu,uu,uu,uu,uu,uu,uu,uu,uu,uu,uu,uu,uu,uu,uu,uu,uu,uu,uu,uu,uu,uu,uu,uu,uu,uu,uu,uu,uu,uu,uu,uu,uu,uu,uu,uu,uu,uu,uu,uu,uu,uu,uu],[],0,[]⟩
def Fm (p0:Int)(p1 p2:List D):Option Ret:=R 228 Tryz.f228 [] (zK Tryz.f228 2) ⟨[uu,.d (iN p0),.ref 0 0 0,uu,uu,uu,.asl 1 none,uu,uu,uu,uu,uu,uu,uu,uu,uu,uu,uu,uu,uu,uu,uu,uu,uu,uu,uu,uu,uu,uu,uu,uu,uu,uu,uu,uu,uu,uu,uu,uu],[(0,some (.var [.d (.rs (5,0) p1)])),(1,some (.arr (1,0) p2))],2,[]⟩
def Dz (p0:ByteArray)(p1 p2:List D)(p3 p4:Int)(p5 p6 p7:List D):Option Ret:=R 229 Tryz.f229 [((Go.Func.params Tryz.f229).toList.getD 0 0)] (zK Tryz.f229 1) ⟨[.ref 0 0 0,.d (.str p0),.d (.rs (1,0) p1),.d (.rs (1,0) p2),uu,uu,uu,uu,.d (iN p3),uu,uu,uu,uu,uu,uu,uu,uu,uu,uu,uu,uu,uu,uu,uu,uu,uu,uu,uu,uu,uu,uu,uu,uu,uu,uu,uu,uu,uu,uu,uu,uu,uu,uu,uu,uu,uu,uu,uu,uu,uu,uu,uu,uu,uu,uu,uu,uu,uu,uu,uu,uu,uu,uu,uu],[(0,some (.var [.asl 1 none,.asl 2 none,.asl 3 none,.d (iN p4)])),(1,some (.arr (5,0) p5)),(2,some (.arr (4,0) p6)),(3,some (.arr (3,0) p7))],4,[.ref 0 0 0]⟩
def Cz (p0:List D)(p1 p2:Int)(p3 p4 p5 p6:List D):Option Ret:=R 231 Tryz.f231 [((Go.Func.params Tryz.f231).toList.getD 0 0)] (zK Tryz.f231 5) ⟨[.ref 0 0 0,.d (.rs (1,0) p0),uu,uu,uu,.asl 1 none,.d (iN p1),uu,uu,uu,uu,uu,uu,uu,uu,uu,uu,uu,uu,uu,uu,uu,uu,uu,uu,uu,uu,uu,uu,uu,uu,uu,uu,uu,uu,uu,uu,uu,uu,uu,uu,uu,uu,uu,uu,uu,uu,uu,uu,uu,uu,uu,uu,uu,uu,uu,uu,uu,uu,uu,uu,uu,uu,uu,uu,uu,uu,uu,uu,uu,uu,uu,uu,uu,uu,uu,uu,uu,uu,uu],[(0,some (.var [.asl 2 none,.asl 3 none,.asl 4 none,.d (iN p2)])),(1,some (.arr (1,0) p3)),(2,some (.arr (5,0) p4)),(3,some (.arr (4,0) p5)),(4,some (.arr (3,0) p6))],5,[.ref 0 0 0]⟩
def Cm (p0 p1:Int)(p2 p3 p4 p5:List D):Option Ret:=R 231 Tryz.f231 [((Go.Func.params Tryz.f231).toList.getD 0 0)] (zK Tryz.f231 12) ⟨[.ref 0 0 0,uu,uu,uu,uu,.asl 1 none,uu,uu,uu,.d (iN p0),uu,uu,uu,uu,uu,uu,uu,uu,uu,uu,uu,uu,uu,uu,uu,uu,uu,uu,uu,uu,uu,uu,uu,uu,uu,uu,uu,uu,uu,uu,uu,uu,uu,uu,uu,uu,uu,uu,uu,uu,uu,uu,uu,uu,uu,uu,uu,uu,uu,uu,uu,uu,uu,uu,uu,uu,uu,uu,uu,uu,uu,uu,uu,uu,uu,uu,uu,uu,uu,uu],[(0,some (.var [.asl 2 none,.asl 3 none,.asl 4 none,.d (iN p1)])),(1,some (.arr (1,0) p2)),(2,some (.arr (5,0) p3)),(3,some (.arr (4,0) p4)),(4,some (.arr (3,0) p5))],5,[.ref 0 0 0]⟩
def DD (p0 p1 p2:Int)(p3 p4 p5 p6:List D):Option Ret:=R 231 Tryz.f231 [((Go.Func.params Tryz.f231).toList.getD 0 0)] (zK Tryz.f231 15) ⟨[.ref 0 0 0,uu,uu,uu,uu,.asl 1 none,uu,uu,uu,.d (iN p0),.d (iN p1),uu,uu,uu,uu,uu,uu,uu,uu,uu,uu,uu,uu,uu,uu,uu,uu,uu,uu,uu,uu,uu,uu,uu,uu,uu,uu,uu,uu,uu,uu,uu,uu,uu,uu,uu,uu,uu,uu,uu,uu,uu,uu,uu,uu,uu,uu,uu,uu,uu,uu,uu,uu,uu,uu,uu,uu,uu,uu,uu,uu,uu,uu,uu,uu,uu,uu,uu,uu,uu],[(0,some (.var [.asl 2 none,.asl 3 none,.asl 4 none,.d (iN p2)])),(1,some (.arr (1,0) p3)),(2,some (.arr (5,0) p4)),(3,some (.arr (4,0) p5)),(4,some (.arr (3,0) p6))],5,[.ref 0 0 0]⟩
def GC (p0:ByteArray)(p1:Int)(p2:List D):Option Ret:=R 232 Tryz.f232 [] (zK Tryz.f232 3) ⟨[.d (.str p0),uu,uu,.asl 0 none,.d (iN p1),uu,uu,uu,uu,uu,uu,uu,uu,uu,uu,uu,uu],[(0,some (.arr (1,0) p2))],1,[]⟩
def EW (p0 p1:List D)(p2 p3:Int)(p4 p5 p6:List D):Option Ret:=R 236 Tryz.f236 [((Go.Func.params Tryz.f236).toList.getD 0 0)] (zK Tryz.f236 1) ⟨[.ref 0 0 0,.d (.rs (1,0) p0),.d (.rs (1,1) p1),uu,uu,uu,.d (iN p2),uu,uu,uu,uu,uu,uu,uu,uu,uu,uu,uu,uu,uu,uu,uu,uu,uu,uu,uu,uu,uu,uu,uu,uu,uu],[(0,some (.var [.asl 1 none,.asl 2 none,.asl 3 none,.d (iN p3)])),(1,some (.arr (5,0) p4)),(2,some (.arr (4,0) p5)),(3,some (.arr (3,0) p6))],4,[.ref 0 0 0]⟩
def CX (p0:List D)(p1 p2:Int)(p3 p4 p5 p6:List D):Option Ret:=R 244 Tryz.f244 [((Go.Func.params Tryz.f244).toList.getD 0 0)] (zK Tryz.f244 25) ⟨[.ref 0 0 0,uu,.d (.rs (1,1) p0),uu,uu,uu,uu,uu,uu,.asl 1 none,uu,uu,.d (iN p1),uu,uu,uu,uu,uu,uu,uu,uu,uu,uu,uu,uu,uu,uu,uu,uu,uu,uu,uu,uu,uu,uu,uu,uu,uu,uu,uu,uu,uu,uu,uu,uu,uu,uu,uu,uu,uu,uu,uu,uu,uu,uu,uu,uu,uu,uu,uu,uu,uu,uu,uu,uu,uu,uu,uu,uu,uu,uu,uu,uu,uu,uu,uu,uu,uu,uu,uu,uu,uu,uu,uu,uu,uu,uu,uu,uu,uu,uu,uu,uu,uu,uu,uu,uu,uu,uu,uu,uu,uu,uu,uu,uu,uu,uu,uu,uu,uu,uu,uu,uu,uu,uu,uu,uu,uu,uu,uu,uu,uu,uu,uu,uu,uu,uu,uu,uu,uu,uu,uu],[(0,some (.var [.asl 2 none,.asl 3 none,.asl 4 none,.d (iN p2)])),(1,some (.arr (1,0) p3)),(2,some (.arr (5,0) p4)),(3,some (.arr (4,0) p5)),(4,some (.arr (3,0) p6))],5,[.ref 0 0 0]⟩
def Al (p0:List D)(p1 p2:Int)(p3 p4:List D):Option Ret:=R 247 Tryz.f247 [] (zK Tryz.f247 4) ⟨[uu,uu,uu,.mp 0,.asl 1 none,uu,uu,uu,uu,uu,uu,uu,.d (.rs (5,0) p0),.d (iN p1),.d (iN p2),uu,uu,uu,uu,uu,uu,uu,uu,uu,uu,uu,uu,uu,uu,uu,uu,uu,uu,uu,uu,uu,uu,uu,uu,uu,uu,uu,uu,uu,uu,uu,uu,uu,uu,uu,uu,uu,uu,uu,uu,uu,uu,uu,uu,uu,uu,uu],[(0,some (.mp [iN 0,iN 0,.str ⟨#[]⟩,iN 0,iN 0] p3)),(1,some (.arr (1,0) p4))],2,[]⟩
def FK (p0:List D)(p1:ByteArray)(p2:Int):Option Ret:=R 248 Tryz.f248 [] (zK Tryz.f248 2) ⟨[.d (.rs (1,1) p0),.d (.str p1),uu,uu,uu,uu,.d (iN p2),uu,uu,uu,uu,uu,uu,uu,uu,uu,uu,uu,uu,uu,uu,uu,uu,uu,uu,uu,uu,uu,uu,uu,uu,uu,uu,uu],[],0,[]⟩
def Ir (p0:List D)(p1:ByteArray)(p2 p3:Int):Option Ret:=R 248 Tryz.f248 [] (zK Tryz.f248 5) ⟨[.d (.rs (1,1) p0),.d (.str p1),uu,uu,uu,uu,.d (iN p2),.d (iN p3),uu,uu,uu,uu,uu,uu,uu,uu,uu,uu,uu,uu,uu,uu,uu,uu,uu,uu,uu,uu,uu,uu,uu,uu,uu,uu],[],0,[]⟩
def Cw (p0:Int)(p1 p2 p3:List D):Option Ret:=R 252 Tryz.f252 [] (zK Tryz.f252 4) ⟨[uu,.ref 0 0 0,uu,.asl 1 none,.asl 2 none,.d (iN p0),uu,uu,uu,uu,uu,uu,uu,uu,uu,uu,uu,uu,uu,uu,uu,uu,uu,uu,uu,uu,uu,uu,uu,uu,uu,uu,uu,uu,uu,uu,uu,uu,uu,uu,uu,uu,uu,uu,uu,uu,uu,uu,uu,uu,uu,uu,uu,uu,uu,uu,uu,uu,uu,uu,uu,uu,uu,uu,uu,uu,uu,uu,uu,uu],[(0,some (.var [.d (.rs (5,0) p1)])),(1,some (.arr (1,0) p2)),(2,some (.arr (5,0) p3))],3,[]⟩
def AL (p0 p1 p2:Int)(p3 p4 p5:List D)(p6 p7:Int)(p8:ByteArray)(p9 p10:Int):Option Ret:=R 252 Tryz.f252 [] (zK Tryz.f252 16) ⟨[uu,.ref 0 0 0,uu,.asl 1 none,.asl 2 none,.d (iN p0),.ref 3 0 0,.d (iN p1),.d (iN p2),uu,uu,uu,uu,uu,uu,uu,uu,uu,uu,uu,uu,uu,uu,uu,uu,uu,uu,uu,uu,uu,uu,uu,uu,uu,uu,uu,uu,uu,uu,uu,uu,uu,uu,uu,uu,uu,uu,uu,uu,uu,uu,uu,uu,uu,uu,uu,uu,uu,uu,uu,uu,uu,uu,uu,uu,uu,uu,uu,uu,uu],[(0,some (.var [.d (.rs (5,0) p3)])),(1,some (.arr (1,0) p4)),(2,some (.arr (5,0) p5)),(3,some (.var [.d (iN p6),.d (iN p7),.d (.str p8),.d (iN p9),.d (iN p10)]))],4,[]⟩
end
end Go.Eng
/-! the functions as the interpreter has them -/
namespace Go.Eng
open Go.Proofs Go.Proofs.Tryz
set_option maxRecDepth 100000
theorem XQ (p l d:List D)(h:Int)(s:ByteArray)(x e:List D):V 249 [.op [.os (5,0) p,.os (4,0) l,.os (3,0) d,iN h],.str s,.rs (1,0) x,.rs (1,1) e] =
 shd (grd (
 df x.length (some (1)) none) (ck2 236 [.op [.os (5,0) p,.os (4,0) l,.os (3,0) d,iN h],(.rs (1,0) (xL x (1))),.rs (1,1) e] fun a b c f=>(((some ((.tup []),[.op [.os (5,0) a,.os (4,0) b,.os (3,0) c,iN f]])))))) fun T4:Option Ret=>shd (br (kJ s { data:=#[108,101,116] })
 (
 br (decide (ni x.length>=4))
 (grd (df x.length (some (1)) (some (2))) (ck4 231 [.op [.os (5,0) p,.os (4,0) l,.os (3,0) d,iN h],(.rs (1,0) (xL (xK x (2)) (1)))] fun a b c f g=>((grd (df x.length (some (3)) none) (ck2 254 [.op [.os (5,0) b,.os (4,0) c,.os (3,0) f,iN g],.rs (1,0) a,(.rs (1,0) (xL x (3))),.rs (1,1) e] fun i j k m=>(((grd (decide (0<=2)&&decide (2<ni x.length)) (dd x 2 fun n=>
 asI .i64 n fun o=>ck2 244 [.op [.os (5,0) i,.os (4,0) j,.os (3,0) k,iN m],iN o,.rs (1,1) e] fun q r t u=>(((ck1 237 [.op [.os (5,0) q,.os (4,0) r,.os (3,0) t,iN u],(.agg [iN (7),iN (0),iN (1),.str ({ data:=#[] })])] fun _ v w y z=>((some ((.tup []),[.op [.os (5,0) v,.os (4,0) w,.os (3,0) y,iN z]])))))))))))))))
 (some ((.tup []),[.op [.os (5,0) p,.os (4,0) l,.os (3,0) d,iN (1)]])))
 (some ((.tup []),[.op [.os (5,0) p,.os (4,0) l,.os (3,0) d,iN (1)]]))) fun T3:Option Ret=>shd (grd (decide (0<=1)&&decide (1<ni x.length)) (dd x 1 fun a=>
 asI .i64 a fun b=>ck2 244 [.op [.os (5,0) p,.os (4,0) l,.os (3,0) d,iN h],iN b,.rs (1,1) e] fun c f g i=>(((ck1 237 [.op [.os (5,0) c,.os (4,0) f,.os (3,0) g,iN i],(.agg [iN (4),iN (0),iN (0),.str ({ data:=#[] })])] fun j k m n o=>((grd (decide (0<=2)&&decide (2<ni x.length)) (dd x 2 fun q=>
 asI .i64 q fun r=>ck2 244 [.op [.os (5,0) k,.os (4,0) m,.os (3,0) n,iN o],iN r,.rs (1,1) e] fun t u v w=>(((ck1 237 [.op [.os (5,0) t,.os (4,0) u,.os (3,0) v,iN w],(.agg [iN (5),iN (0),iN (0),.str ({ data:=#[] })])] fun y z A B C=>((ck2 253 [.op [.os (5,0) z,.os (4,0) A,.os (3,0) B,iN C],iN j] fun E F G H=>(((grd (decide (0<=3)&&decide (3<ni x.length)) (dd x 3 fun I=>
 asI .i64 I fun J=>ck2 244 [.op [.os (5,0) E,.os (4,0) F,.os (3,0) G,iN H],iN J,.rs (1,1) e] fun K L M N=>(((ck2 253 [.op [.os (5,0) K,.os (4,0) L,.os (3,0) M,iN N],iN y] fun O P Q R=>(((some ((.tup []),[.op [.os (5,0) O,.os (4,0) P,.os (3,0) Q,iN R]])))))))))))))))))))))))) fun T2:Option Ret=>shd (br (kJ s { data:=#[102,110] })
 (
 br (decide (ni x.length>=3))
 (
 grd (decide (0<=1)&&decide (1<ni x.length)) (dd x 1 fun a=>
 asI .i64 a fun b=>ck3 228 [.agg [.rs (5,0) p],iN b] fun c f=>((br (!f)
 (some ((.tup []),[.op [.os (5,0) p,.os (4,0) l,.os (3,0) d,iN (1)]]))
 (ck4 231 [.op [.os (5,0) p,.os (4,0) l,.os (3,0) d,iN h],.rs (1,0) c] fun g i j k m=>((grd (df x.length (some (2)) none) (ck2 254 [.op [.os (5,0) i,.os (4,0) j,.os (3,0) k,iN m],.rs (1,0) g,(.rs (1,0) (xL x (2))),.rs (1,1) e] fun n o q r=>(((some ((.tup []),[.op [.os (5,0) n,.os (4,0) o,.os (3,0) q,iN r]]))))))))))))
 T3)
 T3) fun T1:Option Ret=>
 br (kJ s { data:=#[113,117,111,116,101] })
 (
 br (ni x.length==2)
 (
 grd (decide (0<=1)&&decide (1<ni x.length)) (dd x 1 fun a=>
 asI .i64 a fun b=>ck1 237 [.op [.os (5,0) p,.os (4,0) l,.os (3,0) d,iN h],(.agg [iN (1),iN b,iN (0),.str ({ data:=#[] })])] fun _ c f g i=>((some ((.tup []),[.op [.os (5,0) c,.os (4,0) f,.os (3,0) g,iN i]])))))
 (
 br (kJ s { data:=#[105,102] })
 (
 br (ni x.length==4)
 T2
 (
 br (kJ s { data:=#[100,111] })
 (
 br (decide (ni x.length>=2))
 T4
 T1)
 T1))
 (
 br (kJ s { data:=#[100,111] })
 (
 br (decide (ni x.length>=2))
 T4
 T1)
 T1)))
 (
 br (kJ s { data:=#[105,102] })
 (
 br (ni x.length==4)
 T2
 (
 br (kJ s { data:=#[100,111] })
 (
 br (decide (ni x.length>=2))
 T4
 T1)
 T1))
 (
 br (kJ s { data:=#[100,111] })
 (
 br (decide (ni x.length>=2))
 T4
 T1)
 T1)):=by
 exact (zR Tryz.func249 rfl _).trans (by kernel_rfl)
theorem QC (p:List D)(m1 m2 m3 m4 m5 m6 m7:Int) :V 218 [.op [.os (5,0) p,iN m1,iN m2,iN m3,iN m4,iN m5,iN m6,iN m7]] =
 grd (decide (0<=m2)&&decide (m2<ni p.length)) (dd p m2.toNat fun a=>
 tk2 a fun b _ _ c d=>(br (b != 5)
 (some ((.tup [iN (0),.bool false]),[.op [.os (5,0) p,iN m1,iN m2,iN m3,iN m4,iN m5,iN m6,iN m7]]))
 (some ((.tup [iN c,.bool true]),[.op [.os (5,0) p,iN m1,iN d,iN m3,iN m4,iN m5,iN m6,iN m7]])))):=by
 exact (zR Tryz.func218 rfl _).trans (by kernel_rfl)
theorem SK :V 176 [] =
 some ((.os (1,0) [.str ({ data:=#[43] }),.str ({ data:=#[45] }),.str ({ data:=#[42] }),.str ({ data:=#[60] }),.str ({ data:=#[61] }),.str ({ data:=#[99,111,110,115] }),.str ({ data:=#[99,97,114] }),.str ({ data:=#[99,100,114] }),.str ({ data:=#[110,117,108,108,63] }),.str ({ data:=#[112,97,105,114,63] }),.str ({ data:=#[101,113,63] }),.str ({ data:=#[110,111,116] }),.str ({ data:=#[112,114,105,110,116] }),.str ({ data:=#[115,101,108,102] }),.str ({ data:=#[115,101,110,100] }),.str ({ data:=#[114,101,99,118] }),.str ({ data:=#[115,112,97,119,110] }),.str ({ data:=#[99,97,108,108,99,99] }),.str ({ data:=#[103,111] })]),[]):=by
 exact (zR Tryz.func176 rfl _).trans (by kernel_rfl)
theorem Qx (a0_0:List D)(a0_1 a0_2 a0_3 a0_4 a0_5 a0_6 a0_7:Int):V 63 [.agg [.rs (5,0) a0_0,iN a0_1,iN a0_2,iN a0_3,iN a0_4,iN a0_5,iN a0_6,iN a0_7]] =
 ck8 131 [.agg [.rs (5,0) a0_0]] fun a=>((some ((.agg [.os (5,0) a,iN a0_1,iN a0_2,iN a0_3,iN a0_4,iN a0_5,iN a0_6,iN a0_7]),[]))):=by
 exact (zR Tryz.func63 rfl _).trans (by kernel_rfl)
theorem Ln (p0:List D)(p1 p2:Int)(p3 p4:List D):FH p0 p1 p2 p3 p4 =
 br (decide (p2<p1))
 (
 grd (decide (0<=p2)&&decide (p2<ni p0.length)) (dd p0 p2.toNat fun a=>
 asI .i64 a fun b=>grd (decide (0<=b)&&decide (b<ni p4.length)) (dd p4 b.toNat fun _=>
 nam (List.set p4 b.toNat (D.bool true)) fun c=>
 FH p0 p1 (w6 (p2+1)) p3 c)))
 (Cr (w6 (ni p3.length-1)) p3 p4):=by
 exact (zQ _ _ _).trans (by kernel_rfl)
theorem Kv (p0:ByteArray)(p1:Int):EU p0 p1 =
 br (decide (p1<ni (ByteArray.size p0)))
 (grd (decide (0<=p1)&&decide (p1<ni (ByteArray.size p0))) (ck6 180 [.int .u8 (bt p0 p1)] fun a=>(br (!a)
 (some ((.bool false),[]))
 (EU p0 (w6 (p1+1))))))
 (ck6 62 [(iN (ni (ByteArray.size p0))),iN (1),iN (12)] fun a=>(some ((.bool a),[]))):=by
 exact (zQ _ _ _).trans (by kernel_rfl)
theorem Lr (p0:ByteArray)(p1:Int)(p2 p3 p4:List D):Ip p0 p1 p2 p3 p4 =
 br (decide (p1<ni p4.length))
 (
 grd (decide (0<=p1)&&decide (p1<ni p4.length)) (dd p4 p1.toNat fun a=>
 asAgg a fun b=>dd b 0 fun c=>
 asS c fun d=>br (kJ d p0)
 (some ((iN p1),[]))
 (Ip p0 (w6 (p1+1)) p2 p3 p4)))
 (some ((iN (-1)),[])):=by
 exact (zQ _ _ _).trans (by kernel_rfl)
theorem XT (a0_:Bool):V 251 [.bool a0_] =
 br a0_
 (some ((.agg [iN (2),iN (1),.str ({ data:=#[] }),iN (0),iN (0)]),[]))
 (some ((.agg [iN (2),iN (0),.str ({ data:=#[] }),iN (0),iN (0)]),[])):=by
 exact (zR Tryz.func251 rfl _).trans (by kernel_rfl)
theorem Uc (p l d:List D)(h:Int)(s:ByteArray)(n x:List D):V 229 [.op [.os (5,0) p,.os (4,0) l,.os (3,0) d,iN h],.str s,.rs (1,0) n,.rs (1,0) x] =
 Dz s n x (0) h p l d:=by
 exact (zR Tryz.func229 rfl _).trans (by kernel_rfl)
theorem aa4 (a0_ a1_ a2_:Int):V 62 [iN a0_,iN a1_,iN a2_] =
 br (decide (a0_>=a1_))
 (some ((.bool (decide (a0_<=a2_))),[]))
 (some ((.bool false),[])):=by
 exact (zR Tryz.func62 rfl _).trans (by kernel_rfl)
theorem Qz (a0_0:List D):V 147 [.agg [.rs (5,0) a0_0]] =
 grd (decide (ni (List.length ([]++a0_0))<=LIM)) (nam ([]++a0_0) fun a=>
 some ((.agg [.os (5,0) a]),[])):=by
 exact (zR Tryz.func147 rfl _).trans (by kernel_rfl)
theorem LR (a0_:List D)(a1_:Int):V 221 [.rs (1,0) a0_,.int .u8 a1_] =
 Cg a0_ a1_ (ni a0_.length) (0):=by
 exact (zR Tryz.func221 rfl _).trans (by kernel_rfl)
end Go.Eng
/-! the functions as the interpreter has them -/
namespace Go.Eng
open Go.Proofs Go.Proofs.Tryz
set_option maxRecDepth 100000
theorem XN (a0_0:List D)(a0_1 a0_2:Int):V 74 [.op [.rs (1,0) a0_0,iN a0_1,iN a0_2]] =
 adr 142 [.op [.rs (1,0) a0_0,iN a0_1,iN a0_2]] fun a b c d e f=>(((ck7 76 [.op [.rs (1,0) d,iN e,iN f],(iN (ni b.length))] fun g h i j=>((ck7 76 [.op [.rs (1,0) h,iN i,iN j],iN (25)] fun k l m n=>((br (k==0)
 (ck7 76 [.op [.rs (1,0) l,iN m,iN n],iN (11)] fun o p q r=>((grd (decide (0<=g)&&decide (g<ni b.length)) (dd b g.toNat fun s=>
 asAgg s fun t=>nam (List.set b g.toNat (D.agg (List.take 0 t++[iN o]++List.drop 1 t))) fun u=>
 some ((.agg [.os (5,0) a,.os (4,0) u,.os (3,0) c]),[.op [.rs (1,0) p,iN q,iN r]])))))
 (
 br (k==1)
 (ck7 122 [(
 .op [.rs (1,0) l,iN m,iN n]),(.rs (1,0) [iN (-1),iN (0),iN g,(iN (w6 (g+1))),(iN (ni b.length)),(iN (w6 (ni b.length+1)))])] fun o p q r=>((grd (decide (0<=g)&&decide (g<ni b.length)) (dd b g.toNat fun s=>
 asAgg s fun t=>nam (List.set b g.toNat (D.agg (List.take 1 t++[iN o]++List.drop 2 t))) fun u=>
 some ((.agg [.os (5,0) a,.os (4,0) u,.os (3,0) c]),[.op [.rs (1,0) p,iN q,iN r]])))))
 (
 br (k==2)
 (ck7 76 [.op [.rs (1,0) l,iN m,iN n],iN (7)] fun o p q r=>((grd (decide (0<=g)&&decide (g<ni b.length)) (dd b g.toNat fun s=>
 asAgg s fun t=>nam (List.set b g.toNat (D.agg (List.take 2 t++[iN (w6 (o-1))]++List.drop 3 t))) fun u=>
 some ((.agg [.os (5,0) a,.os (4,0) u,.os (3,0) c]),[.op [.rs (1,0) p,iN q,iN r]])))))
 (
 br (k==3)
 (PO 75 [(
 .op [.rs (1,0) l,iN m,iN n]),(.rs (1,0) [.str ({ data:=#[] }),.str ({ data:=#[97] }),.str ({ data:=#[65] })])] fun o p q r=>((grd (decide (0<=g)&&decide (g<ni b.length)) (dd b g.toNat fun s=>
 asAgg s fun t=>nam (List.set b g.toNat (D.agg (List.take 3 t++[D.str o]++List.drop 4 t))) fun u=>
 some ((.agg [.os (5,0) a,.os (4,0) u,.os (3,0) c]),[.op [.rs (1,0) p,iN q,iN r]])))))
 (
 br (k==4)
 (PO 75 [.op [.rs (1,0) l,iN m,iN n],(.rs (1,0) [.str ({ data:=#[102] }),.str ({ data:=#[109,97,105,110] }),.str ({ data:=#[122,122] }),.str ({ data:=#[65] })])] fun o p q r=>((ck7 76 [.op [.rs (1,0) p,iN q,iN r],iN (60)] fun s t u v=>((ck7 76 [.op [.rs (1,0) t,iN u,iN v],iN (6)] fun w x y z=>((grd (decide (ni (List.length (c++[D.agg [D.str o,iN s,iN w]]))<=LIM)) (nam (c++[D.agg [D.str o,iN s,iN w]]) fun A=>
 some ((.agg [.os (5,0) a,.os (4,0) b,.os (3,0) A]),[.op [.rs (1,0) x,iN y,iN z]])))))))))
 (
 br (k==5)
 (ads 90 [.op [.rs (1,0) l,iN m,iN n]] fun o p q r=>(((some ((.agg [.os (5,0) o,.os (4,0) b,.os (3,0) c]),[.op [.rs (1,0) p,iN q,iN r]])))))
 (some ((.agg [.os (5,0) a,.os (4,0) b,.os (3,0) c]),[.op [.rs (1,0) l,iN m,iN n]])))))))))))))):=by
 exact (zR Tryz.func74 rfl _).trans (by kernel_rfl)
theorem Qk (p0:ByteArray)(p1:Nat)(p2:Int)(p3 p4 p5 p6:List D):AC p0 p1 p2 p3 p4 p5 p6 =
 br (decide (p2<ni (ByteArray.size p0)))
 (
 grd (decide (0<=p2)&&decide (p2<ni (ByteArray.size p0))) (br (bt p0 p2==32)
 (AC p0 p1 (w6 (p2+1)) p3 p4 p5 p6)
 (
 br (bt p0 p2==40)
 (grd (decide
 (ni
 (List.length
 (part p5 (some (0,p1)) ++
 [D.agg
 [iN p2,
 D.os
 (TypeInfo.size (Tables.types (Program.toTables Tryz.prog))[3],
 match rZ Tryz.prog (3) with
 |true=>0
 |false=>1)
 []]])) <=
 LIM)) (nam (part p5 (some (0,p1)) ++
 [D.agg
 [iN p2,
 D.os
 (TypeInfo.size (Tables.types (Program.toTables Tryz.prog))[3],
 match rZ Tryz.prog (3) with
 |true=>0
 |false=>1)
 []]]) fun a=>
 AH p0 (w6 (p2+1)) p3 p4 a p6))
 (
 br (bt p0 p2==41)
 (
 br (w6 (ni p1-1)==0)
 (ck8 147 [.agg [.rs (5,0) p3]] fun a=>((some ((.tup [.agg [.os (5,0) a],.os (1,0) p4,iN (5),iN p2]),[]))))
 (
 grd (decide (0<=w6 (ni p1-1))&&decide (w6 (ni p1-1)<ni p1)&&decide (0+p1<=List.length p5)) (dd p5 (0+Int.toNat (w6 (ni p1-1))) fun a=>
 asAgg a fun b=>dd b 1 fun c=>
 jH (1,0) c fun d=>asAgg a fun e=>ck9 210 [.op [.os (5,0) p6],.rs (1,0) d] fun f g=>((grd (iy p1 (List.length (List.set p5 (0+Int.toNat (w6 (ni p1-1))) (D.agg (List.take 1 e++[D.dead]++List.drop 2 e)))-0) none (some (w6 (ni p1-1)))) (grd (decide (0<=w6 (w6 (ni p1-1)-1))&&decide (w6 (w6 (ni p1-1)-1)<ni (Int.toNat (w6 (ni p1-1))))&&decide (0+Int.toNat (w6 (ni p1-1))<=List.length (List.set p5 (0+Int.toNat (w6 (ni p1-1))) (D.agg (List.take 1 e++[D.dead]++List.drop 2 e))))) (dd (List.set p5 (0+Int.toNat (w6 (ni p1-1))) (D.agg (List.take 1 e++[D.dead]++List.drop 2 e))) (0+Int.toNat (w6 (w6 (ni p1-1)-1))) fun h=>
 asAgg h fun i=>dd i 1 fun j=>
 jH (1,0) j fun k=>asAgg h fun l=>grd (decide (ni (List.length (k++[iN f]))<=LIM)) (nam (k++[iN f]) fun m=>
 grd (decide (0<=w6 (w6 (ni p1-1)-1))&&decide (w6 (w6 (ni p1-1)-1)<ni (Int.toNat (w6 (ni p1-1))))&&decide (0+Int.toNat (w6 (ni p1-1))<=List.length (List.set (List.set p5 (0+Int.toNat (w6 (ni p1-1))) (D.agg (List.take 1 e++[D.dead]++List.drop 2 e))) (0+Int.toNat (w6 (w6 (ni p1-1)-1))) (D.agg (List.take 1 l++[D.dead]++List.drop 2 l))))) (dd (List.set (List.set p5 (0+Int.toNat (w6 (ni p1-1))) (D.agg (List.take 1 e++[D.dead]++List.drop 2 e))) (0+Int.toNat (w6 (w6 (ni p1-1)-1))) (D.agg (List.take 1 l++[D.dead]++List.drop 2 l))) (0+Int.toNat (w6 (w6 (ni p1-1)-1))) fun n=>
 asAgg n fun o=>nam (List.set (List.set (List.set p5 (0+Int.toNat (w6 (ni p1-1))) (D.agg (List.take 1 e++[D.dead]++List.drop 2 e))) (0+Int.toNat (w6 (w6 (ni p1-1)-1))) (D.agg (List.take 1 l++[D.dead]++List.drop 2 l))) (0+Int.toNat (w6 (w6 (ni p1-1)-1)))
 (D.agg
 (List.take 1 o ++
 [D.os
 (TypeInfo.size (Tables.types (Program.toTables Tryz.prog))[3],
 match rZ Tryz.prog (3) with
 |true=>0
 |false=>1)
 m] ++
 List.drop 2 o))) fun p=>
 AC p0 (Int.toNat (w6 (ni p1-1))) (w6 (p2+1)) p3 p4 p g)))))))))
 (ck6 211 [.int .u8 (bt p0 p2)] fun a=>(br a
 (Cy p0 p1 p2 (w6 (ni p1-1)) p2 p3 p4 p5 p6)
 (ck8 147 [.agg [.rs (5,0) p3]] fun b=>((some ((.tup [.agg [.os (5,0) b],.os (1,0) p4,iN (2),iN p2]),[]))))))))))
 (
 br (decide (ni p1>1))
 (ck8 147 [.agg [.rs (5,0) p3]] fun a=>((grd (decide (0<=w6 (ni p1-1))&&decide (w6 (ni p1-1)<ni p1)&&decide (0+p1<=List.length p5)) (dd p5 (0+Int.toNat (w6 (ni p1-1))) fun b=>
 asAgg b fun c=>dd c 0 fun d=>
 asI .i64 d fun e=>some ((.tup [.agg [.os (5,0) a],.os (1,0) p4,iN (4),iN e]),[])))))
 (ck6 60 [.agg [.rs (5,0) p6]] fun a=>(br (!a)
 (ck8 147 [.agg [.rs (5,0) p3]] fun b=>((some ((.tup [.agg [.os (5,0) b],.os (1,0) p4,iN (6),iN (0)]),[]))))
 (
 grd (decide (0<=0)&&decide (0<ni p1)&&decide (0+p1<=List.length p5)) (dd p5 0 fun b=>
 asAgg b fun c=>dd c 1 fun d=>
 jH (1,0) d fun e=>asAgg b fun f=>grd (decide (ni (List.length ([]++e))<=LIM)) (nam ([]++e) fun g=>
 some ((.tup [.agg [.os (5,0) p6],.os (1,0) g,iN (0),(iN (ni (ByteArray.size p0)))]),[]))))))):=by
 exact (zQ _ _ _).trans (by kernel_rfl)
theorem Vq (a0_0 a0_1 a0_2:List D)(a1_:Int):V 123 [.agg [.rs (5,0) a0_0,.rs (4,0) a0_1,.rs (3,0) a0_2],iN a1_] =
 grd (decide (0<=a1_)&&decide (a1_<ni a0_1.length)) (dd a0_1 a1_.toNat fun a=>
 tk1 a fun b c d e=>(br (b==1)
 (ck6 56 [.agg [.rs (5,0) a0_0],iN c] fun f=>(br f
 (
 br (d==0)
 (some ((.bool (kJ e { data:=#[] })),[]))
 (some ((.bool false),[])))
 (some ((.bool false),[]))))
 (
 br (b==2)
 (ck6 58 [iN c,iN (0),iN (20)] fun f=>(ck6 58 [iN d,iN (0),iN (3)] fun g=>(br f
 (
 br g
 (some ((.bool (kJ e { data:=#[] })),[]))
 (some ((.bool false),[])))
 (some ((.bool false),[])))))
 (
 br (b==3)
 (ck6 124 [.str e] fun f=>(br (c==0)
 (
 br (d==0)
 (some ((.bool f),[]))
 (some ((.bool false),[])))
 (some ((.bool false),[]))))
 (
 br (b==4)
 (
 br (b==4)
 (ck6 58 [iN c,(iN (w6 (a1_+1))),(iN (ni a0_1.length))] fun f=>(br f
 (
 br (d==0)
 (some ((.bool (kJ e { data:=#[] })),[]))
 (some ((.bool false),[])))
 (some ((.bool false),[]))))
 (
 br (b==6)
 (ck6 58 [iN c,(iN (w6 (a1_+1))),(iN (w6 (ni a0_1.length-1)))] fun f=>(ck6 58 [iN d,iN (0),iN (4)] fun g=>(br f
 (
 br g
 (some ((.bool (kJ e { data:=#[] })),[]))
 (some ((.bool false),[])))
 (some ((.bool false),[])))))
 (
 br (b==7)
 (ck6 58 [iN d,iN (0),iN (4)] fun f=>(br (c==0)
 (
 br f
 (some ((.bool (kJ e { data:=#[] })),[]))
 (some ((.bool false),[])))
 (some ((.bool false),[]))))
 (
 br (b==8)
 (
 br (b==8)
 (
 br (c==0)
 (
 br (d==0)
 (some ((.bool (kJ e { data:=#[] })),[]))
 (some ((.bool false),[])))
 (some ((.bool false),[])))
 (some ((.bool false),[])))
 (
 br (b==9)
 (
 br (c==0)
 (
 br (d==0)
 (some ((.bool (kJ e { data:=#[] })),[]))
 (some ((.bool false),[])))
 (some ((.bool false),[])))
 (some ((.bool false),[])))))))
 (
 br (b==5)
 (ck6 58 [iN c,(iN (w6 (a1_+1))),(iN (ni a0_1.length))] fun f=>(br f
 (
 br (d==0)
 (some ((.bool (kJ e { data:=#[] })),[]))
 (some ((.bool false),[])))
 (some ((.bool false),[]))))
 (
 br (b==6)
 (ck6 58 [iN c,(iN (w6 (a1_+1))),(iN (w6 (ni a0_1.length-1)))] fun f=>(ck6 58 [iN d,iN (0),iN (4)] fun g=>(br f
 (
 br g
 (some ((.bool (kJ e { data:=#[] })),[]))
 (some ((.bool false),[])))
 (some ((.bool false),[])))))
 (
 br (b==7)
 (ck6 58 [iN d,iN (0),iN (4)] fun f=>(br (c==0)
 (
 br f
 (some ((.bool (kJ e { data:=#[] })),[]))
 (some ((.bool false),[])))
 (some ((.bool false),[]))))
 (
 br (b==8)
 (
 br (b==8)
 (
 br (c==0)
 (
 br (d==0)
 (some ((.bool (kJ e { data:=#[] })),[]))
 (some ((.bool false),[])))
 (some ((.bool false),[])))
 (some ((.bool false),[])))
 (
 br (b==9)
 (
 br (c==0)
 (
 br (d==0)
 (some ((.bool (kJ e { data:=#[] })),[]))
 (some ((.bool false),[])))
 (some ((.bool false),[])))
 (some ((.bool false),[])))))))))))):=by
 exact (zR Tryz.func123 rfl _).trans (by kernel_rfl)
theorem VC (a0_0 a0_1 a0_2:List D)(a1_:Int):V 127 [.agg [.rs (5,0) a0_0,.rs (4,0) a0_1,.rs (3,0) a0_2],iN a1_] =
 grd (decide (0<=a1_)&&decide (a1_<ni a0_1.length)) (dd a0_1 a1_.toNat fun a=>
 tk1 a fun b c d e=>(br (b==1)
 (
 br (b==b&&(c==c&&(d==0&&(kJ e { data:=#[] }&&true))))
 (ck6 61 [.agg [.rs (5,0) a0_0],iN c] fun f=>(some ((.bool f),[])))
 (some ((.bool false),[])))
 (
 br (b==2)
 (
 br (kJ e { data:=#[] })
 (ck6 62 [iN c,iN (0),iN (20)] fun f=>(br f
 (ck6 62 [iN d,iN (0),iN (3)] fun g=>(some ((.bool g),[])))
 (some ((.bool false),[]))))
 (some ((.bool false),[])))
 (
 br (b==3)
 (
 br (b==b&&(c==0&&(d==0&&(kJ e e&&true))))
 (ck6 128 [.str e] fun f=>(some ((.bool f),[])))
 (some ((.bool false),[])))
 (
 br (b==4)
 (
 br (b==4)
 (
 br (b==b&&(c==c&&(d==0&&(kJ e { data:=#[] }&&true))))
 (
 br (decide (c>a1_))
 (some ((.bool (decide (c<=ni a0_1.length))),[]))
 (some ((.bool false),[])))
 (some ((.bool false),[])))
 (
 br (b==6)
 (
 br (kJ e { data:=#[] })
 (
 br (decide (c>a1_))
 (
 br (decide (c<ni a0_1.length))
 (ck6 62 [iN d,iN (0),iN (4)] fun f=>(some ((.bool f),[])))
 (some ((.bool false),[])))
 (some ((.bool false),[])))
 (some ((.bool false),[])))
 (
 br (b==7)
 (
 br (b==b&&(c==0&&(d==d&&(kJ e { data:=#[] }&&true))))
 (ck6 62 [iN d,iN (0),iN (4)] fun f=>(some ((.bool f),[])))
 (some ((.bool false),[])))
 (
 br (b==8)
 (
 br (b==8)
 (some ((.bool (b==b&&(c==0&&(d==0&&(kJ e { data:=#[] }&&true))))),[]))
 (some ((.bool false),[])))
 (
 br (b==9)
 (some ((.bool (b==b&&(c==0&&(d==0&&(kJ e { data:=#[] }&&true))))),[]))
 (some ((.bool false),[])))))))
 (
 br (b==5)
 (
 br (b==b&&(c==c&&(d==0&&(kJ e { data:=#[] }&&true))))
 (
 br (decide (c>a1_))
 (some ((.bool (decide (c<=ni a0_1.length))),[]))
 (some ((.bool false),[])))
 (some ((.bool false),[])))
 (
 br (b==6)
 (
 br (kJ e { data:=#[] })
 (
 br (decide (c>a1_))
 (
 br (decide (c<ni a0_1.length))
 (ck6 62 [iN d,iN (0),iN (4)] fun f=>(some ((.bool f),[])))
 (some ((.bool false),[])))
 (some ((.bool false),[])))
 (some ((.bool false),[])))
 (
 br (b==7)
 (
 br (b==b&&(c==0&&(d==d&&(kJ e { data:=#[] }&&true))))
 (ck6 62 [iN d,iN (0),iN (4)] fun f=>(some ((.bool f),[])))
 (some ((.bool false),[])))
 (
 br (b==8)
 (
 br (b==8)
 (some ((.bool (b==b&&(c==0&&(d==0&&(kJ e { data:=#[] }&&true))))),[]))
 (some ((.bool false),[])))
 (
 br (b==9)
 (some ((.bool (b==b&&(c==0&&(d==0&&(kJ e { data:=#[] }&&true))))),[]))
 (some ((.bool false),[])))))))))))):=by
 exact (zR Tryz.func127 rfl _).trans (by kernel_rfl)
theorem Xt (a0_0 a0_1:Int)(a0_2:ByteArray)(a0_3 a0_4 a1_:Int):V 126 [.agg [iN a0_0,iN a0_1,.str a0_2,iN a0_3,iN a0_4],iN a1_] =
 br (a0_0==1)
 (ck6 58 [iN a0_1,iN (0),iN (0)] fun a=>(br a
 (
 br (kJ a0_2 { data:=#[] })
 (
 br (a0_3==0)
 (some ((.bool (a0_4==0)),[]))
 (some ((.bool false),[])))
 (some ((.bool false),[])))
 (some ((.bool false),[]))))
 (
 br (a0_0==2)
 (ck6 58 [iN a0_1,iN (0),iN (1)] fun a=>(br a
 (
 br (kJ a0_2 { data:=#[] })
 (
 br (a0_3==0)
 (some ((.bool (a0_4==0)),[]))
 (some ((.bool false),[])))
 (some ((.bool false),[])))
 (some ((.bool false),[]))))
 (
 br (a0_0==3)
 (ck6 58 [iN a0_1,iN (-1000000000),iN (1000000000)] fun a=>(br a
 (
 br (kJ a0_2 { data:=#[] })
 (
 br (a0_3==0)
 (some ((.bool (a0_4==0)),[]))
 (some ((.bool false),[])))
 (some ((.bool false),[])))
 (some ((.bool false),[]))))
 (
 br (a0_0==4)
 (ck6 124 [.str a0_2] fun a=>(ck6 58 [iN a0_1,iN (0),iN (0)] fun b=>(br b
 (
 br a
 (
 br (a0_3==0)
 (some ((.bool (a0_4==0)),[]))
 (some ((.bool false),[])))
 (some ((.bool false),[])))
 (some ((.bool false),[])))))
 (
 br (a0_0==5)
 (ck6 58 [iN a0_3,iN (0),(iN (w6 (a1_-1)))] fun a=>(ck6 58 [iN a0_4,iN (0),(iN (w6 (a1_-1)))] fun b=>(ck6 58 [iN a0_1,iN (0),iN (0)] fun c=>(br c
 (
 br (kJ a0_2 { data:=#[] })
 (
 br a
 (some ((.bool b),[]))
 (some ((.bool false),[])))
 (some ((.bool false),[])))
 (some ((.bool false),[]))))))
 (
 br (a0_0==6)
 (ck6 58 [iN a0_3,iN (0),(iN (w6 (a1_-1)))] fun a=>(ck6 58 [iN a0_1,iN (0),iN (1000000000)] fun b=>(br b
 (
 br (kJ a0_2 { data:=#[] })
 (
 br a
 (some ((.bool (a0_4==0)),[]))
 (some ((.bool false),[])))
 (some ((.bool false),[])))
 (some ((.bool false),[])))))
 (
 br (a0_0==7)
 (ck6 58 [iN a0_3,iN (0),(iN (w6 (a1_-1)))] fun a=>(ck6 58 [iN a0_1,iN (0),iN (0)] fun b=>(br b
 (
 br (kJ a0_2 { data:=#[] })
 (
 br a
 (some ((.bool (a0_4==0)),[]))
 (some ((.bool false),[])))
 (some ((.bool false),[])))
 (some ((.bool false),[])))))
 (
 br (a0_0==8)
 (ck6 58 [iN a0_1,iN (0),iN (99)] fun a=>(br a
 (
 br (kJ a0_2 { data:=#[] })
 (
 br (a0_3==0)
 (some ((.bool (a0_4==0)),[]))
 (some ((.bool false),[])))
 (some ((.bool false),[])))
 (some ((.bool false),[]))))
 (
 br (a0_0==9)
 (ck6 58 [iN a0_1,iN (0),iN (1000000000)] fun a=>(br a
 (
 br (kJ a0_2 { data:=#[] })
 (
 br (a0_3==0)
 (some ((.bool (a0_4==0)),[]))
 (some ((.bool false),[])))
 (some ((.bool false),[])))
 (some ((.bool false),[]))))
 (some ((.bool false),[])))))))))):=by
 exact (zR Tryz.func126 rfl _).trans (by kernel_rfl)
theorem KF (p0 p1 p2 p3 p4 p5 p6 p7 p8:Int)(p9 p10 p11 p12 p13:List D):GF p0 p1 p2 p3 p4 p5 p6 p7 p8 p9 p10 p11 p12 p13 =
 br (decide (p1>=0))
 (YW 218 [.op [.os (5,0) p13,iN p2,iN p3,iN p4,iN p5,iN p6,iN p7,iN p8]] fun a b c d e f g h i j=>(((br (!b)
 (some ((iN (7)),[.op [.os (5,0) c,iN d,iN e,iN f,iN g,iN h,iN i,iN j]]))
 (
 grd (decide (0<=p1)&&decide (p1<ni p12.length)) (dd p12 p1.toNat fun _=>
 nam (List.set p12 p1.toNat (iN a)) fun k=>
 GF p0 (w6 (p1-1)) d e f g h i j p9 p10 p11 k c))))))
 (YW 218 [.op [.os (5,0) p13,iN p2,iN p3,iN p4,iN p5,iN p6,iN p7,iN p8]] fun a b c d e f g h i j=>(((br (!b)
 (some ((iN (7)),[.op [.os (5,0) c,iN d,iN e,iN f,iN g,iN h,iN i,iN j]]))
 (
 br (decide (p0>=ni p10.length))
 (some ((iN (7)),[.op [.os (5,0) c,iN d,iN e,iN f,iN g,iN h,iN i,iN j]]))
 (PN 233 [.agg [.rs (5,0) p9,.rs (4,0) p10,.rs (3,0) p11],(.op [.os (5,0) c,iN d,iN e,iN f,iN g,iN h,iN i,iN j]),iN a,.rs (1,0) p12,iN p0] fun k l m n o p q r s=>((some ((iN k),[.op [.os (5,0) l,iN m,iN n,iN o,iN p,iN q,iN r,iN s]]))))))))):=by
 exact (zQ _ _ _).trans (by kernel_rfl)
theorem EO (p0 p1 p2 p3 p4 p5 p6 p7 p8:Int)(p9 p10 p11 p12 p13:List D):Cu p0 p1 p2 p3 p4 p5 p6 p7 p8 p9 p10 p11 p12 p13 =
 br (decide (p1<p0))
 (Xi 182 [.op [.os (5,0) p13,iN p2,iN p3,iN p4,iN p5,iN p6,iN p7,iN p8,.rs (5,0) p9,.rs (4,0) p10,.rs (3,0) p11]] fun a b c d e f g h i j k l m=>(((br (!b)
 (some ((iN (7)),[.op [.os (5,0) c,iN d,iN e,iN f,iN g,iN h,iN i,iN j,.rs (5,0) k,.rs (4,0) l,.rs (3,0) m]]))
 (
 grd (decide (ni (List.length (p12++[iN a]))<=LIM)) (nam (p12++[iN a]) fun n=>
 Cu p0 (w6 (p1+1)) d e f g h i j k l m n c))))))
 (aer 183 [.os (1,0) p12] fun a=>((grd (decide (0<=0)&&decide (0<ni a.length)) (dd a 0 fun b=>
 asI .i64 b fun c=>grd (df a.length (some (1)) none) (Lf 184 [.op [.os (5,0) p13,iN p2,iN p3,iN p4,iN p5,iN p6,iN p7,iN p8,.rs (5,0) p9,.rs (4,0) p10,.rs (3,0) p11],iN c,(.rs (1,0) (part a (some (Int.toNat (1),List.length a-Int.toNat (1)))))] fun d e f g h i j k l m n o=>((some ((iN d),[.op [.os (5,0) e,iN f,iN g,iN h,iN i,iN j,iN k,iN l,.rs (5,0) m,.rs (4,0) n,.rs (3,0) o]])))))))):=by
 exact (zQ _ _ _).trans (by kernel_rfl)
theorem KE (p0 p1:List D)(p2 p3:Int)(p4 p5 p6:List D):EW p0 p1 p2 p3 p4 p5 p6 =
 br (decide (p2<ni p0.length))
 (
 br (p3==0)
 (
 br (decide (p2>0))
 (ck1 237 [.op [.os (5,0) p4,.os (4,0) p5,.os (3,0) p6,iN p3],(.agg [iN (9),iN (0),iN (0),.str ({ data:=#[] })])] fun _ a b c d=>((grd (decide (0<=p2)&&decide (p2<ni p0.length)) (dd p0 p2.toNat fun e=>
 asI .i64 e fun f=>ck2 244 [.op [.os (5,0) a,.os (4,0) b,.os (3,0) c,iN d],iN f,.rs (1,1) p1] fun g h i j=>(((EW p0 p1 (w6 (p2+1)) j g h i)))))))
 (
 grd (decide (0<=p2)&&decide (p2<ni p0.length)) (dd p0 p2.toNat fun a=>
 asI .i64 a fun b=>ck2 244 [.op [.os (5,0) p4,.os (4,0) p5,.os (3,0) p6,iN p3],iN b,.rs (1,1) p1] fun c d e f=>(((EW p0 p1 (w6 (p2+1)) f c d e))))))
 (some ((.tup []),[.op [.os (5,0) p4,.os (4,0) p5,.os (3,0) p6,iN p3]])))
 (some ((.tup []),[.op [.os (5,0) p4,.os (4,0) p5,.os (3,0) p6,iN p3]])):=by
 exact (zQ _ _ _).trans (by kernel_rfl)
theorem QD (a0_0:List D)(a0_1 a0_2:Int):V 53 [.op [.rs (1,0) a0_0,iN a0_1,iN a0_2]] =
 ck7 76 [.op [.rs (1,0) a0_0,iN a0_1,iN a0_2],iN (6)] fun a b c d=>((br (a==0)
 (ck7 122 [.op [.rs (1,0) b,iN c,iN d],(.rs (1,0) [iN (-1),iN (0),iN (1),iN (2000),iN (2001)])] fun e f g h=>((some ((iN e),[.op [.rs (1,0) f,iN g,iN h]]))))
 (
 br (a==1)
 (some ((iN (300)),[.op [.rs (1,0) b,iN c,iN d]]))
 (ck7 76 [.op [.rs (1,0) b,iN c,iN d],iN (80)] fun e f g h=>((some ((iN e),[.op [.rs (1,0) f,iN g,iN h]]))))))):=by
 exact (zR Tryz.func53 rfl _).trans (by kernel_rfl)
theorem Vu (a0_ a1_ a2_:Int):V 243 [iN a0_,iN a1_,iN a2_] =
 br (a0_==1)
 (some ((.agg [iN (3),(iN (w6 (a1_+a2_))),.str ({ data:=#[] }),iN (0),iN (0)]),[]))
 (
 br (a0_==2)
 (some ((.agg [iN (3),(iN (w6 (a1_-a2_))),.str ({ data:=#[] }),iN (0),iN (0)]),[]))
 (
 br (a0_==3)
 (some ((.agg [iN (3),(iN (w6 (a1_*a2_))),.str ({ data:=#[] }),iN (0),iN (0)]),[]))
 (
 br (a0_==4)
 (JU 241 [(.bool (decide (a1_<a2_)))] fun a b c d e=>((some ((.agg [iN a,iN b,.str c,iN d,iN e]),[]))))
 (JU 241 [.bool (a1_==a2_)] fun a b c d e=>((some ((.agg [iN a,iN b,.str c,iN d,iN e]),[]))))))):=by
 exact (zR Tryz.func243 rfl _).trans (by kernel_rfl)
theorem BC (p0 p1:Int)(p2:List D):Ci p0 p1 p2 =
 br (decide (p0<p1))
 (
 grd (decide (0<=p1)&&decide (p1<ni p2.length)) (dd p2 p1.toNat fun a=>
 asI .i64 a fun b=>grd (decide (0<=p0)&&decide (p0<ni p2.length)) (dd p2 p0.toNat fun c=>
 asI .i64 c fun d=>grd (decide (0<=p0)&&decide (p0<ni p2.length)) (dd p2 p0.toNat fun _=>
 nam (List.set p2 p0.toNat (iN b)) fun e=>
 grd (decide (0<=p1)&&decide (p1<ni e.length)) (dd e p1.toNat fun _=>
 nam (List.set e p1.toNat (iN d)) fun f=>
 Ci (w6 (p0+1)) (w6 (p1-1)) f)))))
 (some ((.tup []),[.os (1,0) p2])):=by
 exact (zQ _ _ _).trans (by kernel_rfl)
theorem TZ (a0_:Int):V 245 [iN a0_] =
 ck6 62 [iN a0_,iN (1),iN (19)] fun a=>(br (!a)
 (some ((iN (-1)),[]))
 (
 grd (decide (0<=a0_)&&decide (a0_<ni 20)) (dd ([iN (0),iN (2),iN (2),iN (2),iN (2),iN (2),iN (2),iN (1),iN (1),iN (1),iN (1),iN (2),iN (1),iN (1),iN (0),iN (2),iN (0),iN (1),iN (1),iN (1)]) a0_.toNat fun b=>
 asI .i64 b fun c=>some ((iN c),[])))):=by
 exact (zR Tryz.func245 rfl _).trans (by kernel_rfl)
theorem XH (a0_0:List D)(a0_1 a0_2:Int)(a1_:List D):V 75 [.op [.rs (1,0) a0_0,iN a0_1,iN a0_2],.rs (1,0) a1_] =
 ck7 76 [.op [.rs (1,0) a0_0,iN a0_1,iN a0_2],(iN (ni a1_.length))] fun a b c d=>((grd (decide (0<=a)&&decide (a<ni a1_.length)) (dd a1_ a.toNat fun e=>
 asS e fun f=>some ((.str f),[.op [.rs (1,0) b,iN c,iN d]])))):=by
 exact (zR Tryz.func75 rfl _).trans (by kernel_rfl)
theorem Js (p0 p1 p2:Int)(p3 p4 p5 p6:List D):DD p0 p1 p2 p3 p4 p5 p6 =
 br (decide (p1<p0))
 (
 grd (decide (0<=p1)&&decide (p1<ni p3.length)) (dd p3 p1.toNat fun a=>
 asS a fun b=>grd (decide (0<=p0)&&decide (p0<ni p3.length)) (dd p3 p0.toNat fun c=>
 asS c fun d=>br (kJ b d)
 (DD p0 (w6 (p1+1)) (2) p3 p4 p5 p6)
 (DD p0 (w6 (p1+1)) p2 p3 p4 p5 p6))))
 (Cm (w6 (p0+1)) p2 p3 p4 p5 p6):=by
 exact (zQ _ _ _).trans (by kernel_rfl)
theorem Zq (p:List D)(k n:Int)(s:ByteArray)(a b:Int):V 158 [.op [.os (5,0) p],.agg [iN k,iN n,.str s,iN a,iN b]] =
 grd (decide (ni (List.length (p++[D.agg [iN k,iN n,D.str s,iN a,iN b]]))<=LIM)) (nam (p++[D.agg [iN k,iN n,D.str s,iN a,iN b]]) fun c=>
 some ((iN (w6 (ni c.length-1))),[.op [.os (5,0) c]])):=by
 exact (zR Tryz.func158 rfl _).trans (by kernel_rfl)
theorem Xl (a0_0 a0_1 a0_2:List D):V 54 [.agg [.rs (5,0) a0_0,.rs (4,0) a0_1,.rs (3,0) a0_2]] =
 ck6 55 [.agg [.rs (5,0) a0_0]] fun a=>(br (!a)
 (some ((.bool false),[]))
 (
 br (decide (ni a0_1.length>400))
 (some ((.bool false),[]))
 (
 br (decide (ni a0_2.length>20))
 (some ((.bool false),[]))
 (Gt (ni a0_1.length) (0) a0_0 a0_1 a0_2)))):=by
 exact (zR Tryz.func54 rfl _).trans (by kernel_rfl)
theorem Ko (p0 p1:Int)(p2 p3 p4:List D):Gt p0 p1 p2 p3 p4 =
 br (decide (p1<p0))
 (ck6 123 [.agg [.rs (5,0) p2,.rs (4,0) p3,.rs (3,0) p4],iN p1] fun a=>(br (!a)
 (some ((.bool false),[]))
 (Gt p0 (w6 (p1+1)) p2 p3 p4)))
 (Ga p4 (ni p4.length) (0) p2 p3 p4):=by
 exact (zQ _ _ _).trans (by kernel_rfl)
theorem VE (p l d:List D)(h:Int)(x:List D):V 231 [.op [.os (5,0) p,.os (4,0) l,.os (3,0) d,iN h],.rs (1,0) x] =
 br (decide (ni x.length>4))
 (Cz x (0) (1) [] p l d)
 (Cz x (0) h [] p l d):=by
 exact (zR Tryz.func231 rfl _).trans (by kernel_rfl)
theorem Nk (l p:List D):V 135 [.rs (1,0) l,.fn 136 [.bp [.rs (5,0) p]]] =
 FE 188 [.rs (1,0) l,(.fn 136 [(.bp [.rs (5,0) p])])] fun a=>(some ((.bool (decide (a>=0))),[])):=by
 exact (zR Tryz.func135 rfl _).trans (by kernel_rfl)
theorem LX (a0_:List D):V 183 [.os (1,0) a0_] =
 Ci (0) (w6 (ni a0_.length-1)) a0_:=by
 exact (zR Tryz.func183 rfl _).trans (by kernel_rfl)
end Go.Eng
/-! the functions as the interpreter has them -/
namespace Go.Eng
open Go.Proofs Go.Proofs.Tryz
set_option maxRecDepth 100000
theorem aa6 (p:List D)(n:Int)(l:List D):V 246 [.op [.os (5,0) p],iN n,.rs (1,0) l] =
 grd (decide (0<=0)&&decide (0<ni l.length)) (dd l 0 fun a=>
 asI .i64 a fun b=>grd (decide (0<=b)&&decide (b<ni p.length)) (dd p b.toNat fun c=>
 tk2 c fun d e f g h=>(br (decide (n<=5))
 (
 grd (decide (0<=1)&&decide (1<ni l.length)) (dd l 1 fun i=>
 asI .i64 i fun j=>grd (decide (0<=j)&&decide (j<ni p.length)) (dd p j.toNat fun k=>
 tk2 k fun m o q r s=>(aes 250 [iN n,.agg [iN d,iN e,.str f,iN g,iN h],.agg [iN m,iN o,.str q,iN r,iN s]] fun t u v w x y=>(((br (y != 0)
 (some ((.tup [iN (-1),iN y]),[.op [.os (5,0) p]]))
 (ck9 158 [.op [.os (5,0) p],.agg [iN t,iN u,.str v,iN w,iN x]] fun z A=>((some ((.tup [iN z,iN y]),[.op [.os (5,0) A]])))))))))))
 (
 br (n==6)
 (
 grd (decide (0<=0)&&decide (0<ni l.length)) (dd l 0 fun i=>
 asI .i64 i fun j=>grd (decide (0<=1)&&decide (1<ni l.length)) (dd l 1 fun k=>
 asI .i64 k fun m=>ck9 158 [.op [.os (5,0) p],(.agg [iN (5),iN (0),.str ({ data:=#[] }),iN j,iN m])] fun o q=>((some ((.tup [iN o,iN (0)]),[.op [.os (5,0) q]]))))))
 (
 br (decide (n<=8))
 (
 br (d != 5)
 (some ((.tup [iN (-1),iN (3)]),[.op [.os (5,0) p]]))
 (
 br (n==7)
 (some ((.tup [iN g,iN (0)]),[.op [.os (5,0) p]]))
 (some ((.tup [iN h,iN (0)]),[.op [.os (5,0) p]]))))
 (
 br (n==9)
 (JU 251 [.bool (d==1)] fun i j k m o=>((ck9 158 [.op [.os (5,0) p],.agg [iN i,iN j,.str k,iN m,iN o]] fun q r=>((some ((.tup [iN q,iN (0)]),[.op [.os (5,0) r]]))))))
 (
 br (n==10)
 (JU 251 [.bool (d==5)] fun i j k m o=>((ck9 158 [.op [.os (5,0) p],.agg [iN i,iN j,.str k,iN m,iN o]] fun q r=>((some ((.tup [iN q,iN (0)]),[.op [.os (5,0) r]]))))))
 (
 br (n==11)
 (Dk 252 [.agg [.rs (5,0) p]] fun i=>(grd (decide (0<=0)&&decide (0<ni l.length)) (dd l 0 fun j=>
 asI .i64 j fun k=>grd (decide (0<=k)&&decide (k<ni i.length)) (dd i k.toNat fun m=>
 asI .i64 m fun o=>grd (decide (0<=1)&&decide (1<ni l.length)) (dd l 1 fun q=>
 asI .i64 q fun r=>grd (decide (0<=r)&&decide (r<ni i.length)) (dd i r.toNat fun s=>
 asI .i64 s fun t=>JU 251 [.bool (o==t)] fun u v w x y=>((ck9 158 [.op [.os (5,0) p],.agg [iN u,iN v,.str w,iN x,iN y]] fun z A=>((some ((.tup [iN z,iN (0)]),[.op [.os (5,0) A]])))))))))))
 (
 br (d==2)
 (JU 251 [.bool (e==0)] fun i j k m o=>((ck9 158 [.op [.os (5,0) p],.agg [iN i,iN j,.str k,iN m,iN o]] fun q r=>((some ((.tup [iN q,iN (0)]),[.op [.os (5,0) r]]))))))
 (JU 251 [.bool false] fun i j k m o=>((ck9 158 [.op [.os (5,0) p],.agg [iN i,iN j,.str k,iN m,iN o]] fun q r=>((some ((.tup [iN q,iN (0)]),[.op [.os (5,0) r]]))))))))))))))):=by
 exact (zR Tryz.func246 rfl _).trans (by kernel_rfl)
theorem SB (p0:ByteArray)(p1:Int)(p2 p3 p4 p5:List D):AH p0 p1 p2 p3 p4 p5 =
 br (decide (p1<ni (ByteArray.size p0)))
 (
 grd (decide (0<=p1)&&decide (p1<ni (ByteArray.size p0))) (br (bt p0 p1==32)
 (AH p0 (w6 (p1+1)) p2 p3 p4 p5)
 (
 br (bt p0 p1==40)
 (grd (decide
 (ni
 (List.length
 (p4 ++
 [D.agg
 [iN p1,
 D.os
 (TypeInfo.size (Tables.types (Program.toTables Tryz.prog))[3],
 match rZ Tryz.prog (3) with
 |true=>0
 |false=>1)
 []]])) <=
 LIM)) (nam (p4 ++
 [D.agg
 [iN p1,
 D.os
 (TypeInfo.size (Tables.types (Program.toTables Tryz.prog))[3],
 match rZ Tryz.prog (3) with
 |true=>0
 |false=>1)
 []]]) fun a=>
 AH p0 (w6 (p1+1)) p2 p3 a p5))
 (
 br (bt p0 p1==41)
 (
 br (w6 (ni p4.length-1)==0)
 (ck8 147 [.agg [.rs (5,0) p2]] fun a=>((some ((.tup [.agg [.os (5,0) a],.os (1,0) p3,iN (5),iN p1]),[]))))
 (
 grd (decide (0<=w6 (ni p4.length-1))&&decide (w6 (ni p4.length-1)<ni p4.length)) (dd p4 (Int.toNat (w6 (ni p4.length-1))) fun a=>
 asAgg a fun b=>dd b 1 fun c=>
 jH (1,0) c fun d=>asAgg a fun e=>ck9 210 [.op [.os (5,0) p5],.rs (1,0) d] fun f g=>((grd (df (List.length (List.set p4 (Int.toNat (w6 (ni p4.length-1))) (D.agg (List.take 1 e++[D.dead]++List.drop 2 e)))) none (some (w6 (ni p4.length-1)))) (grd (decide (0<=w6 (w6 (ni p4.length-1)-1))&&decide (w6 (w6 (ni p4.length-1)-1)<ni (Int.toNat (w6 (ni p4.length-1))))&&decide (0+Int.toNat (w6 (ni p4.length-1))<=List.length (List.set p4 (Int.toNat (w6 (ni p4.length-1))) (D.agg (List.take 1 e++[D.dead]++List.drop 2 e))))) (dd (List.set p4 (Int.toNat (w6 (ni p4.length-1))) (D.agg (List.take 1 e++[D.dead]++List.drop 2 e))) (0+Int.toNat (w6 (w6 (ni p4.length-1)-1))) fun h=>
 asAgg h fun i=>dd i 1 fun j=>
 jH (1,0) j fun k=>asAgg h fun l=>grd (decide (ni (List.length (k++[iN f]))<=LIM)) (nam (k++[iN f]) fun m=>
 grd (decide (0<=w6 (w6 (ni p4.length-1)-1))&&decide (w6 (w6 (ni p4.length-1)-1)<ni (Int.toNat (w6 (ni p4.length-1))))&&decide (0+Int.toNat (w6 (ni p4.length-1))<=List.length (List.set (List.set p4 (Int.toNat (w6 (ni p4.length-1))) (D.agg (List.take 1 e++[D.dead]++List.drop 2 e))) (0+Int.toNat (w6 (w6 (ni p4.length-1)-1))) (D.agg (List.take 1 l++[D.dead]++List.drop 2 l))))) (dd (List.set (List.set p4 (Int.toNat (w6 (ni p4.length-1))) (D.agg (List.take 1 e++[D.dead]++List.drop 2 e))) (0+Int.toNat (w6 (w6 (ni p4.length-1)-1))) (D.agg (List.take 1 l++[D.dead]++List.drop 2 l))) (0+Int.toNat (w6 (w6 (ni p4.length-1)-1))) fun n=>
 asAgg n fun o=>nam (List.set (List.set (List.set p4 (Int.toNat (w6 (ni p4.length-1))) (D.agg (List.take 1 e++[D.dead]++List.drop 2 e))) (0+Int.toNat (w6 (w6 (ni p4.length-1)-1))) (D.agg (List.take 1 l++[D.dead]++List.drop 2 l))) (0+Int.toNat (w6 (w6 (ni p4.length-1)-1)))
 (D.agg
 (List.take 1 o ++
 [D.os
 (TypeInfo.size (Tables.types (Program.toTables Tryz.prog))[3],
 match rZ Tryz.prog (3) with
 |true=>0
 |false=>1)
 m] ++
 List.drop 2 o))) fun p=>
 AC p0 (Int.toNat (w6 (ni p4.length-1))) (w6 (p1+1)) p2 p3 p g)))))))))
 (ck6 211 [.int .u8 (bt p0 p1)] fun a=>(br a
 (Dn p0 p1 (w6 (ni p4.length-1)) p1 p2 p3 p4 p5)
 (ck8 147 [.agg [.rs (5,0) p2]] fun b=>((some ((.tup [.agg [.os (5,0) b],.os (1,0) p3,iN (2),iN p1]),[]))))))))))
 (
 br (decide (ni p4.length>1))
 (ck8 147 [.agg [.rs (5,0) p2]] fun a=>((grd (decide (0<=w6 (ni p4.length-1))&&decide (w6 (ni p4.length-1)<ni p4.length)) (dd p4 (Int.toNat (w6 (ni p4.length-1))) fun b=>
 asAgg b fun c=>dd c 0 fun d=>
 asI .i64 d fun e=>some ((.tup [.agg [.os (5,0) a],.os (1,0) p3,iN (4),iN e]),[])))))
 (ck6 60 [.agg [.rs (5,0) p5]] fun a=>(br (!a)
 (ck8 147 [.agg [.rs (5,0) p2]] fun b=>((some ((.tup [.agg [.os (5,0) b],.os (1,0) p3,iN (6),iN (0)]),[]))))
 (
 grd (decide (0<=0)&&decide (0<ni p4.length)) (dd p4 0 fun b=>
 asAgg b fun c=>dd c 1 fun d=>
 jH (1,0) d fun e=>asAgg b fun f=>grd (decide (ni (List.length ([]++e))<=LIM)) (nam ([]++e) fun g=>
 some ((.tup [.agg [.os (5,0) p5],.os (1,0) g,iN (0),(iN (ni (ByteArray.size p0)))]),[]))))))):=by
 exact (zQ _ _ _).trans (by kernel_rfl)
theorem VF :V 213 [] =
 some ((.os (1,0) [.str ({ data:=#[40,100,101,102,105,110,101,32,40,102,32,110,41,32,40,105,102,32,40,60,32,110,32,50,41,32,110,32,40,43,32,40,102,32,40,45,32,110,32,49,41,41,32,40,102,32,40,45,32,110,32,50,41,41,41,41,41,32,40,102,32,54,41] }),(.str ({ data:=List.toArray (List.append [40,100,101,102,105,110,101,32,40,117,112,32,110,41,32,40,105,102,32,40,60,32,110,32,51,41,32,40,100,111,32,40] [112,114,105,110,116,32,110,41,32,40,117,112,32,40,43,32,110,32,49,41,41,41,32,110,41,41,32,40,117,112,32,48,41]) })),.str ({ data:=#[40,108,101,116,32,120,32,53,32,40,108,101,116,32,102,32,40,102,110,32,40,121,41,32,40,43,32,120,32,121,41,41,32,40,112,114,105,110,116,32,40,102,32,52,41,41,41,41] }),.str ({ data:=#[40,112,114,105,110,116,32,40,99,97,108,108,99,99,32,40,102,110,32,40,107,41,32,40,100,111,32,40,107,32,55,41,32,56,41,41,41,41] }),(.str ({ data:=List.toArray (List.append [40,100,101,102,105,110,101,32,40,109,97,112,32,102,32,108,41,32,40,105,102,32,40,110,117,108,108,63,32,108,41,32,40,41,32,40,99,111,110,115,32,40,102,32,40,99,97,114,32,108,41,41,32,40,109,97,112,32,102] [32,40,99,100,114,32,108,41,41,41,41,41,32,40,112,114,105,110,116,32,40,109,97,112,32,40,102,110,32,40,120,41,32,40,42,32,120,32,120,41,41,32,40,113,117,111,116,101,32,40,49,32,50,32,51,41,41,41,41]) })),.str ({ data:=#[40,100,111,32,40,115,112,97,119,110,32,40,102,110,32,40,41,32,40,100,111,32,40,112,114,105,110,116,32,49,41,32,40,112,114,105,110,116,32,50,41,41,41,41,32,40,112,114,105,110,116,32,51,41,41] }),(.str ({ data:=List.toArray (List.append [40,108,101,116,32,112,32,40,115,112,97,119,110,32,40,102,110,32,40,41,32,40,112,114,105,110,116,32,40,114,101,99,118,41] [41,41,41,32,40,100,111,32,40,115,101,110,100,32,112,32,40,113,117,111,116,101,32,40,97,32,98,41,41,41,32,48,41,41]) })),(.str ({ data:=List.toArray (List.append [40,108,101,116,32,112,32,40,115,112,97,119,110,32,40,102,110,32,40,41,32,40,108,101,116,32,102,32,40,114,101,99,118,41,32,40,112,114,105,110,116,32,40,102] [32,53,41,41,41,41,41,32,40,108,101,116,32,122,32,57,32,40,115,101,110,100,32,112,32,40,102,110,32,40,120,41,32,40,43,32,120,32,122,41,41,41,41,41]) })),.str ({ data:=#[40,100,111,32,40,112,114,105,110,116,32,49,41,32,40,103,111,32,49,41,32,40,112,114,105,110,116,32,50,41,32,40,103,111,32,48,41,32,40,112,114,105,110,116,32,51,41,41] }),(.str ({ data:=List.toArray (List.append [40,108,101,116,32,109,101,32,40,115,101,108,102,41,32,40,100,111,32,40,115,112,97,119,110,32,40,102,110,32,40,41,32,40,100,111,32,40] [103,111,32,49,41,32,40,115,101,110,100,32,109,101,32,52,50,41,41,41,41,32,40,112,114,105,110,116,32,40,114,101,99,118,41,41,41,41]) })),(.str ({ data:=List.toArray (List.append [40,100,101,102,105,110,101,32,40,108,111,111,112,32,110,41,32,40,105,102,32,40,61,32,110,32,48,41,32,40,112,114,105,110,116,32,40] [113,117,111,116,101,32,101,110,100,41,41,32,40,108,111,111,112,32,40,45,32,110,32,49,41,41,41,41,32,40,108,111,111,112,32,57,41]) })),.str ({ data:=#[40,112,114,105,110,116,32,40,99,97,114,32,40,113,117,111,116,101,32,40,41,41,41,41] }),.str ({ data:=#[40,112,114,105,110,116,32,40,102,32,49,41,41] }),.str ({ data:=#[40,43,32,49,32,35,116,41] }),.str ({ data:=#[40,112,114,105,110,116,32,40,99,111,110,115,32,49,32,40,99,111,110,115,32,50,32,40,41,41,41,41] }),(.str ({ data:=List.toArray (List.append (List.append [40,100,101,102,105,110,101,32,40,112,105,110,103,32,112,32,110,41,32,40,105,102,32,40,60,32,110,32,49,41,32,48,32,40,100,111,32,40,115,101,110,100,32,112,32] [110,41,32,40,112,114,105,110,116,32,40,114,101,99,118,41,41,32,40,112,105,110,103,32,112,32,40,45,32,110,32,49,41,41,41,41,41,32,40,108,101,116,32,109,101,32]) (List.append [40,115,101,108,102,41,32,40,112,105,110,103,32,40,115,112,97,119,110,32,40,102,110,32,40,41,32,40,100,111,32,40,103,111,32,49,41,32,40,115,101,110,100,32,109,101] [32,40,43,32,49,48,32,40,114,101,99,118,41,41,41,32,40,115,101,110,100,32,109,101,32,40,43,32,49,48,32,40,114,101,99,118,41,41,41,41,41,41,32,50,41,41])) })),(.str ({ data:=List.toArray (List.append [40,108,101,116,32,107,32,40,99,97,108,108,99,99,32,40,102,110,32,40,99,41,32,99,41,41,32,40,105,102,32,40,112,97,105,114,63] [32,107,41,32,40,112,114,105,110,116,32,40,99,97,114,32,107,41,41,32,40,107,32,40,113,117,111,116,101,32,40,53,41,41,41,41,41]) })),(.str ({ data:=List.toArray (List.append [40,108,101,116,32,112,32,40,115,112,97,119,110,32,40,102,110,32,40,41,32,40,100,111,32,40,103,111,32,49,41,32,40,108,101,116,32,107,32,40,114,101,99,118,41,32,40,107,32,56] [41,41,41,41,41,32,40,112,114,105,110,116,32,40,99,97,108,108,99,99,32,40,102,110,32,40,107,41,32,40,100,111,32,40,115,101,110,100,32,112,32,107,41,32,51,41,41,41,41,41]) }))]),[]):=by
 exact (zR Tryz.func213 rfl _).trans (by kernel_rfl)
theorem NB (p:List D)(m1 m2 m3 m4 m5 m6 m7:Int)(cp cl cd:List D)(n:Int)(l:List D):V 206 [.op [.os (5,0) p,iN m1,iN m2,iN m3,iN m4,iN m5,iN m6,iN m7,.rs (5,0) cp,.rs (4,0) cl,.rs (3,0) cd],iN n,.rs (1,0) l] =
 br (ni l.length != 1)
 (some ((iN (2)),[.op [.os (5,0) p,iN m1,iN m2,iN m3,iN m4,iN m5,iN m6,iN m7,.rs (5,0) cp,.rs (4,0) cl,.rs (3,0) cd]]))
 (adm 119 [.op [.os (5,0) p],iN n] fun a b c=>(((br (!b)
 (some ((iN (7)),[.op [.os (5,0) c,iN m1,iN m2,iN m3,iN m4,iN m5,iN m6,iN m7,.rs (5,0) cp,.rs (4,0) cl,.rs (3,0) cd]]))
 (
 br (ni a.length != 4)
 (some ((iN (7)),[.op [.os (5,0) c,iN m1,iN m2,iN m3,iN m4,iN m5,iN m6,iN m7,.rs (5,0) cp,.rs (4,0) cl,.rs (3,0) cd]]))
 (
 grd (decide (0<=0)&&decide (0<ni a.length)) (dd a 0 fun d=>
 asI .i64 d fun e=>grd (decide (0<=e)&&decide (e<ni c.length)) (dd c e.toNat fun f=>
 asAgg f fun g=>dd g 0 fun h=>
 asI .i64 h fun i=>br (i != 3)
 (some ((iN (7)),[.op [.os (5,0) c,iN m1,iN m2,iN m3,iN m4,iN m5,iN m6,iN m7,.rs (5,0) cp,.rs (4,0) cl,.rs (3,0) cd]]))
 (
 grd (decide (0<=0)&&decide (0<ni a.length)) (dd a 0 fun j=>
 asI .i64 j fun k=>grd (decide (0<=k)&&decide (k<ni c.length)) (dd c k.toNat fun m=>
 asAgg m fun o=>dd o 1 fun q=>
 asI .i64 q fun r=>ck6 57 [.agg [.rs (5,0) cp,.rs (4,0) cl,.rs (3,0) cd],iN r] fun s=>(br (!s)
 (some ((iN (7)),[.op [.os (5,0) c,iN m1,iN m2,iN m3,iN m4,iN m5,iN m6,iN m7,.rs (5,0) cp,.rs (4,0) cl,.rs (3,0) cd]]))
 (
 grd (decide (0<=0)&&decide (0<ni a.length)) (dd a 0 fun t=>
 asI .i64 t fun u=>grd (decide (0<=u)&&decide (u<ni c.length)) (dd c u.toNat fun v=>
 asAgg v fun w=>dd w 1 fun x=>
 asI .i64 x fun y=>grd (decide (0<=1)&&decide (1<ni a.length)) (dd a 1 fun z=>
 asI .i64 z fun A=>grd (decide (0<=2)&&decide (2<ni a.length)) (dd a 2 fun B=>
 asI .i64 B fun C=>grd (decide (0<=3)&&decide (3<ni a.length)) (dd a 3 fun E=>
 asI .i64 E fun F=>grd (decide (0<=0)&&decide (0<ni l.length)) (dd l 0 fun G=>
 asI .i64 G fun H=>TE 185 [.op [.os (5,0) c,iN y,iN A,iN C,iN F,iN m5,iN m6,iN m7,.rs (5,0) cp,.rs (4,0) cl,.rs (3,0) cd],iN H] fun I J K L M N O P Q R S=>(((some ((iN (0)),[.op [.os (5,0) I,iN J,iN K,iN L,iN M,iN N,iN O,iN P,.rs (5,0) Q,.rs (4,0) R,.rs (3,0) S]]))))))))))))))))))))))):=by
 exact (zR Tryz.func206 rfl _).trans (by kernel_rfl)
theorem PU (p:List D)(m1 m2 m3 m4 m5 m6 m7:Int)(cp cl cd:List D)(f:Int)(l:List D):V 184 [.op [.os (5,0) p,iN m1,iN m2,iN m3,iN m4,iN m5,iN m6,iN m7,.rs (5,0) cp,.rs (4,0) cl,.rs (3,0) cd],iN f,.rs (1,0) l] =
 grd (decide (0<=f)&&decide (f<ni p.length)) (dd p f.toNat fun a=>
 tk2 a fun b c d e g=>(br (b==6)
 (Lf 204 [.op [.os (5,0) p,iN m1,iN m2,iN m3,iN m4,iN m5,iN m6,iN m7,.rs (5,0) cp,.rs (4,0) cl,.rs (3,0) cd],.agg [iN b,iN c,.str d,iN e,iN g],.rs (1,0) l] fun h i j k m n o q r s t u=>((some ((iN h),[.op [.os (5,0) i,iN j,iN k,iN m,iN n,iN o,iN q,iN r,.rs (5,0) s,.rs (4,0) t,.rs (3,0) u]]))))
 (
 br (b==8)
 (Lf 205 [.op [.os (5,0) p,iN m1,iN m2,iN m3,iN m4,iN m5,iN m6,iN m7,.rs (5,0) cp,.rs (4,0) cl,.rs (3,0) cd],iN c,.rs (1,0) l] fun h i j k m n o q r s t u=>((some ((iN h),[.op [.os (5,0) i,iN j,iN k,iN m,iN n,iN o,iN q,iN r,.rs (5,0) s,.rs (4,0) t,.rs (3,0) u]]))))
 (
 br (b==7)
 (Lf 206 [.op [.os (5,0) p,iN m1,iN m2,iN m3,iN m4,iN m5,iN m6,iN m7,.rs (5,0) cp,.rs (4,0) cl,.rs (3,0) cd],iN e,.rs (1,0) l] fun h i j k m n o q r s t u=>((some ((iN h),[.op [.os (5,0) i,iN j,iN k,iN m,iN n,iN o,iN q,iN r,.rs (5,0) s,.rs (4,0) t,.rs (3,0) u]]))))
 (some ((iN (3)),[.op [.os (5,0) p,iN m1,iN m2,iN m3,iN m4,iN m5,iN m6,iN m7,.rs (5,0) cp,.rs (4,0) cl,.rs (3,0) cd]])))))):=by
 exact (zR Tryz.func184 rfl _).trans (by kernel_rfl)
theorem Vy (a0_0:List D)(a0_1 a0_2 a1_0 a1_1:Int)(a1_2:ByteArray)(a1_3 a1_4:Int):V 156 [.op [.rs (1,0) a0_0,iN a0_1,iN a0_2],.agg [iN a1_0,iN a1_1,.str a1_2,iN a1_3,iN a1_4]] =
 ck7 76 [.op [.rs (1,0) a0_0,iN a0_1,iN a0_2],iN (8)] fun a b c d=>((br (a==0)
 (ck7 76 [.op [.rs (1,0) b,iN c,iN d],iN (11)] fun e f g h=>((some ((.agg [iN e,iN a1_1,.str a1_2,iN a1_3,iN a1_4]),[.op [.rs (1,0) f,iN g,iN h]]))))
 (
 br (a==1)
 (ck7 76 [.op [.rs (1,0) b,iN c,iN d],iN (20)] fun e f g h=>((some ((.agg [iN a1_0,iN a1_1,.str a1_2,(iN (w6 (e-1))),iN a1_4]),[.op [.rs (1,0) f,iN g,iN h]]))))
 (
 br (a==2)
 (ck7 76 [.op [.rs (1,0) b,iN c,iN d],iN (20)] fun e f g h=>((some ((.agg [iN a1_0,iN a1_1,.str a1_2,iN a1_3,(iN (w6 (e-1)))]),[.op [.rs (1,0) f,iN g,iN h]]))))
 (
 br (a==3)
 (ck7 122 [.op [.rs (1,0) b,iN c,iN d],(.rs (1,0) [iN (-1),iN (2),iN (99),iN (100),iN (1000000000),iN (1000000001),iN (-1000000000),iN (-1000000001)])] fun e f g h=>((some ((.agg [iN a1_0,iN e,.str a1_2,iN a1_3,iN a1_4]),[.op [.rs (1,0) f,iN g,iN h]]))))
 (
 br (a==4)
 (PO 75 [.op [.rs (1,0) b,iN c,iN d],(.rs (1,0) [.str ({ data:=#[] }),.str ({ data:=#[97] }),.str ({ data:=#[65,98] }),.str ({ data:=#[97,98,99,100,101,102,103,104,105,106,107,108] }),.str ({ data:=#[97,98,99,100,101,102,103,104,105,106,107,108,109] }),.str ({ data:=#[97,49] })])] fun e f g h=>((some ((.agg [iN a1_0,iN a1_1,.str e,iN a1_3,iN a1_4]),[.op [.rs (1,0) f,iN g,iN h]]))))
 (some ((.agg [iN a1_0,iN a1_1,.str a1_2,iN a1_3,iN a1_4]),[.op [.rs (1,0) b,iN c,iN d]])))))))):=by
 exact (zR Tryz.func156 rfl _).trans (by kernel_rfl)
theorem Ue (a0_ a1_0 a1_1:Int)(a1_2:ByteArray)(a1_3 a1_4 a2_0 a2_1:Int)(a2_2:ByteArray)(a2_3 a2_4:Int):V 250 [iN a0_,.agg [iN a1_0,iN a1_1,.str a1_2,iN a1_3,iN a1_4],.agg [iN a2_0,iN a2_1,.str a2_2,iN a2_3,iN a2_4]] =
 br (a1_0 != 3)
 (some ((.tup [.agg [iN (0),iN (0),.str ({ data:=#[] }),iN (0),iN (0)],iN (3)]),[]))
 (
 br (a2_0 != 3)
 (some ((.tup [.agg [iN (0),iN (0),.str ({ data:=#[] }),iN (0),iN (0)],iN (3)]),[]))
 (
 br (a0_==2)
 (ck6 62 [(iN (w6 (a1_1-a2_1))),iN (-1000000000),iN (1000000000)] fun a=>(br (!a)
 (some ((.tup [.agg [iN (0),iN (0),.str ({ data:=#[] }),iN (0),iN (0)],iN (4)]),[]))
 (some ((.tup [(.agg [iN (3),(iN (w6 (a1_1-a2_1))),.str ({ data:=#[] }),iN (0),iN (0)]),iN (0)]),[]))))
 (
 br (a0_==3)
 (ck6 62 [(iN (w6 (a1_1*a2_1))),iN (-1000000000),iN (1000000000)] fun a=>(br (!a)
 (some ((.tup [.agg [iN (0),iN (0),.str ({ data:=#[] }),iN (0),iN (0)],iN (4)]),[]))
 (some ((.tup [(.agg [iN (3),(iN (w6 (a1_1*a2_1))),.str ({ data:=#[] }),iN (0),iN (0)]),iN (0)]),[]))))
 (
 br (a0_==4)
 (JU 251 [(.bool (decide (a1_1<a2_1)))] fun a b c d e=>((some ((.tup [.agg [iN a,iN b,.str c,iN d,iN e],iN (0)]),[]))))
 (
 br (a0_==5)
 (JU 251 [.bool (a1_1==a2_1)] fun a b c d e=>((some ((.tup [.agg [iN a,iN b,.str c,iN d,iN e],iN (0)]),[]))))
 (ck6 62 [(iN (w6 (a1_1+a2_1))),iN (-1000000000),iN (1000000000)] fun a=>(br (!a)
 (some ((.tup [.agg [iN (0),iN (0),.str ({ data:=#[] }),iN (0),iN (0)],iN (4)]),[]))
 (some ((.tup [(.agg [iN (3),(iN (w6 (a1_1+a2_1))),.str ({ data:=#[] }),iN (0),iN (0)]),iN (0)]),[]))))))))):=by
 exact (zR Tryz.func250 rfl _).trans (by kernel_rfl)
theorem Pf (p:List D)(m1 m2 m3 m4 m5 m6 m7:Int)(cp cl cd:List D)(k n:Int)(s:ByteArray)(a b:Int)(l:List D):V 204 [.op [.os (5,0) p,iN m1,iN m2,iN m3,iN m4,iN m5,iN m6,iN m7,.rs (5,0) cp,.rs (4,0) cl,.rs (3,0) cd],.agg [iN k,iN n,.str s,iN a,iN b],.rs (1,0) l] =
 grd (!decide (8=0)) (br (Int.tmod n (8) != ni l.length)
 (some ((iN (2)),[.op [.os (5,0) p,iN m1,iN m2,iN m3,iN m4,iN m5,iN m6,iN m7,.rs (5,0) cp,.rs (4,0) cl,.rs (3,0) cd]]))
 (grd (!decide (8=0)) (ck6 57 [.agg [.rs (5,0) cp,.rs (4,0) cl,.rs (3,0) cd],(iN (w6 (Int.tdiv n (8))))] fun c=>(br (!c)
 (some ((iN (7)),[.op [.os (5,0) p,iN m1,iN m2,iN m3,iN m4,iN m5,iN m6,iN m7,.rs (5,0) cp,.rs (4,0) cl,.rs (3,0) cd]]))
 (ck9 157 [.op [.os (5,0) p],(.agg [iN (3),(iN (w6 (m1+1))),.str ({ data:=#[] }),iN (0),iN (0)])] fun d e=>((ck9 222 [.op [.os (5,0) e],.rs (1,0) [iN d,iN m2,iN m3]] fun f g=>((ck9 94 [.op [.os (5,0) g],iN f,iN m4] fun h i=>((ck9 222 [.op [.os (5,0) i],.rs (1,0) l] fun j m=>((ck9 94 [.op [.os (5,0) m],iN j,iN a] fun o q=>((ck9 157 [.op [.os (5,0) q],(.agg [iN (1),iN (0),.str ({ data:=#[] }),iN (0),iN (0)])] fun r t=>((grd (!decide (8=0)) (some ((iN (0)),[(.op [.os (5,0) t,(iN (w6 (Int.tdiv n (8)))),iN r,iN o,iN h,iN m5,iN m6,iN m7,.rs (5,0) cp,.rs (4,0) cl,.rs (3,0) cd])]))))))))))))))))))):=by
 exact (zR Tryz.func204 rfl _).trans (by kernel_rfl)
theorem Ua (a0_0:List D)(a0_1 a0_2:Int)(a1_0:List D):V 91 [.op [.rs (1,0) a0_0,iN a0_1,iN a0_2],.agg [.rs (5,0) a1_0]] =
 br (ni a1_0.length==0)
 (ck7 122 [.op [.rs (1,0) a0_0,iN a0_1,iN a0_2],(.rs (1,0) [iN (-1),iN (0),(iN (ni a1_0.length))])] fun a b c d=>((some ((iN a),[.op [.rs (1,0) b,iN c,iN d]]))))
 (Xj 155 [.op [.rs (1,0) a0_0,iN a0_1,iN a0_2],iN (20)] fun a b c d=>((br a
 (ck7 122 [.op [.rs (1,0) b,iN c,iN d],(.rs (1,0) [iN (-1),iN (0),(iN (ni a1_0.length))])] fun e f g h=>((some ((iN e),[.op [.rs (1,0) f,iN g,iN h]]))))
 (FE 116 [(iN (ni a1_0.length)),iN (9)] fun e=>(ck7 76 [.op [.rs (1,0) b,iN c,iN d],iN e] fun f g h i=>((some ((iN (w6 (w6 (ni a1_0.length-1)-f))),[.op [.rs (1,0) g,iN h,iN i]])))))))):=by
 exact (zR Tryz.func91 rfl _).trans (by kernel_rfl)
theorem GV (p0 p1 p2:Int)(p3 p4 p5:List D)(p6 p7:Int)(p8:ByteArray)(p9 p10:Int):AL p0 p1 p2 p3 p4 p5 p6 p7 p8 p9 p10 =
 br (decide (p2<p0))
 (
 grd (decide (0<=p2)&&decide (p2<ni p5.length)) (dd p5 p2.toNat fun a=>
 tk2 a fun b c d e f=>(br (b==p6&&(c==p7&&(kJ d p8&&(e==p9&&(f==p10&&true)))))
 (
 grd (decide (ni (List.length (p5++[D.agg [iN p6,iN p7,D.str p8,iN p9,iN p10]]))<=LIM)) (nam (p5++[D.agg [iN p6,iN p7,D.str p8,iN p9,iN p10]]) fun g=>
 grd (decide (ni (List.length (p4++[iN p2]))<=LIM)) (nam (p4++[iN p2]) fun h=>
 Cw (w6 (p0+1)) p3 h g)))
 (AL p0 p1 (w6 (p2+1)) p3 p4 p5 p6 p7 p8 p9 p10))))
 (
 grd (decide (ni (List.length (p5++[D.agg [iN p6,iN p7,D.str p8,iN p9,iN p10]]))<=LIM)) (nam (p5++[D.agg [iN p6,iN p7,D.str p8,iN p9,iN p10]]) fun a=>
 grd (decide (ni (List.length (p4++[iN p1]))<=LIM)) (nam (p4++[iN p1]) fun b=>
 Cw (w6 (p0+1)) p3 b a))):=by
 exact (zQ _ _ _).trans (by kernel_rfl)
theorem Ph (a0_0:List D)(a0_1 a0_2:Int):V 192 [.op [.rs (1,0) a0_0,iN a0_1,iN a0_2]] =
 Xj 155 [(
 .op [.rs (1,0) a0_0,iN a0_1,iN a0_2]),iN (4)] fun a b c d=>((br (!a)
 (Dk 213 [] fun e=>(PO 75 [.op [.rs (1,0) b,iN c,iN d],.rs (1,0) e] fun f g h i=>((some ((.str f),[.op [.rs (1,0) g,iN h,iN i]])))))
 (PO 214 [.op [.rs (1,0) b,iN c,iN d],iN (3)] fun e f g h=>((some ((.str e),[.op [.rs (1,0) f,iN g,iN h]])))))):=by
 exact (zR Tryz.func192 rfl _).trans (by kernel_rfl)
theorem Gu (p0 p1 p2 p3 p4 p5 p6 p7 p8:Int)(p9 p10 p11:List D):Dv p0 p1 p2 p3 p4 p5 p6 p7 p8 p9 p10 p11 =
 br (decide (p1<p0))
 (
 grd (decide (0<=p1)&&decide (p1<ni p10.length)) (dd p10 p1.toNat fun a=>
 asI .i64 a fun b=>Dk 67 [iN b] fun c=>(grd (decide (ni (List.length (p9++c))<=LIM)) (nam (p9++c) fun d=>
 Dv p0 (w6 (p1+1)) p2 p3 p4 p5 p6 p7 p8 d p10 p11))))
 (Dk 68 [.agg [.rs (5,0) p11]] fun a=>(grd (decide (ni (List.length (p9++a))<=LIM)) (nam (p9++a) fun b=>
 gN b fun c=>some ((.tup [.str c,.bool true]),[])))):=by
 exact (zQ _ _ _).trans (by kernel_rfl)
theorem Nn (p:List D)(m1 m2 m3 m4 m5 m6 m7:Int)(cp cl cd:List D)(k:Int):V 132 [.op [.os (5,0) p,iN m1,iN m2,iN m3,iN m4,iN m5,iN m6,iN m7,.rs (5,0) cp,.rs (4,0) cl,.rs (3,0) cd],iN k] =
 ck6 57 [.agg [.rs (5,0) cp,.rs (4,0) cl,.rs (3,0) cd],(iN (w6 (m1+1)))] fun a=>(br (!a)
 (some ((iN (7)),[.op [.os (5,0) p,iN m1,iN m2,iN m3,iN m4,iN m5,iN m6,iN m7,.rs (5,0) cp,.rs (4,0) cl,.rs (3,0) cd]]))
 (Cu (w6 (k+1)) (0) m1 m2 m3 m4 m5 m6 m7 cp cl cd [] p)):=by
 exact (zR Tryz.func132 rfl _).trans (by kernel_rfl)
theorem SQ (a0_0:List D)(a0_1 a0_2:Int)(a1_:List D):V 122 [.op [.rs (1,0) a0_0,iN a0_1,iN a0_2],.rs (1,0) a1_] =
 ck7 76 [.op [.rs (1,0) a0_0,iN a0_1,iN a0_2],(iN (ni a1_.length))] fun a b c d=>((grd (decide (0<=a)&&decide (a<ni a1_.length)) (dd a1_ a.toNat fun e=>
 asI .i64 e fun f=>some ((iN f),[.op [.rs (1,0) b,iN c,iN d]])))):=by
 exact (zR Tryz.func122 rfl _).trans (by kernel_rfl)
theorem GU (p0:List D)(p1:ByteArray)(p2 p3:Int):DT p0 p1 p2 p3 =
 br (decide (p3<p2))
 (
 grd (decide (0<=p3)&&decide (p3<ni p0.length)) (dd p0 p3.toNat fun a=>
 tk3 a fun b c d=>(ck6 179 [.agg [.str b,iN c,iN d],(.bp [.str p1])] fun e=>(br e
 (some ((iN p3),[]))
 (DT p0 p1 p2 (w6 (p3+1)))))))
 (some ((iN (-1)),[])):=by
 exact (zQ _ _ _).trans (by kernel_rfl)
theorem XW (cp cl cd p:List D)(m1 m2 m3 m4 m5 m6 m7 k nx:Int):V 219 [.agg [.rs (5,0) cp,.rs (4,0) cl,.rs (3,0) cd],.op [.os (5,0) p,iN m1,iN m2,iN m3,iN m4,iN m5,iN m6,iN m7],iN k,iN nx] =
 grd (decide (0<=k)&&decide (k<=LIM)) (GF nx (w6 (k-1)) m1 m2 m3 m4 m5 m6 m7 cp cl cd (List.replicate k.toNat (iN (0))) p):=by
 exact (zR Tryz.func219 rfl _).trans (by kernel_rfl)
theorem Kt (p0:Int)(p1 p2 p3:List D):Gz p0 p1 p2 p3 =
 br (decide (p0<ni p2.length))
 (ck6 127 [.agg [.rs (5,0) p1,.rs (4,0) p2,.rs (3,0) p3],iN p0] fun a=>(br (!a)
 (some ((.bool false),[]))
 (Gz (w6 (p0+1)) p1 p2 p3)))
 (GA (0) p1 p2 p3):=by
 exact (zQ _ _ _).trans (by kernel_rfl)
theorem Vw (a0_0 a1_:List D):V 193 [.agg [.rs (5,0) a0_0],.rs (1,0) a1_] =
 ck6 60 [.agg [.rs (5,0) a0_0]] fun a=>(br (!a)
 (some ((.tup [.agg [.os (5,0) [],.os (4,0) [],.os (3,0) []],iN (3),iN (0)]),[]))
 (Gb a1_ (0) a0_0)):=by
 exact (zR Tryz.func193 rfl _).trans (by kernel_rfl)
theorem RI (a0_:Int):V 211 [.int .u8 a0_] =
 ck6 180 [.int .u8 a0_] fun a=>(br a
 (some ((.bool true),[]))
 (ck6 226 [.int .u8 a0_] fun b=>(br b
 (some ((.bool true),[]))
 (some ((.bool (a0_==35)),[]))))):=by
 exact (zR Tryz.func211 rfl _).trans (by kernel_rfl)
theorem JX (a0_:List D)(a1_:Int):V 203 [.rs (1,0) a0_,.int .u8 a1_] =
 FE 221 [.rs (1,0) a0_,.int .u8 a1_] fun a=>(some ((.bool (decide (a>=0))),[])):=by
 exact (zR Tryz.func203 rfl _).trans (by kernel_rfl)
theorem QB (a0_0:List D)(a0_1 a0_2:Int):V 142 [.op [.rs (1,0) a0_0,iN a0_1,iN a0_2]] =
 CE (0) a0_0 a0_1 a0_2:=by
 exact (zR Tryz.func142 rfl _).trans (by kernel_rfl)
theorem XE (a0_:ByteArray):V 232 [.str a0_] =
 Dk 239 [] fun a=>(GC a0_ (1) a):=by
 exact (zR Tryz.func232 rfl _).trans (by kernel_rfl)
theorem Xn (a0_0:List D):V 55 [.agg [.rs (5,0) a0_0]] =
 Gv a0_0 (ni a0_0.length) (0) a0_0:=by
 exact (zR Tryz.func55 rfl _).trans (by kernel_rfl)
theorem aco (a0_:List D):V 12 [.rs (1,0) a0_] =
 some ((.bool (decide (ni a0_.length>1048576))),[]):=by
 exact (zR Tryz.func12 rfl _).trans (by kernel_rfl)

end Go.Eng
/-! the functions as the interpreter has them -/
namespace Go.Eng
open Go.Proofs Go.Proofs.Tryz
set_option maxRecDepth 100000
theorem RL (a0_0:List D)(a0_1 a0_2:Int):V 112 [.op [.rs (1,0) a0_0,iN a0_1,iN a0_2]] =
 adr 142 [.op [.rs (1,0) a0_0,iN a0_1,iN a0_2]] fun a b c d e f=>(((FE 129 [.agg [.rs (5,0) a,.rs (4,0) b,.rs (3,0) c],.str ({ data:=#[109,97,105,110] })] fun g=>(br (decide (g<0))
 (
 br (decide (ni c.length>0))
 (
 grd (decide (0<=0)&&decide (0<ni c.length)) (dd c 0 fun h=>
 asAgg h fun i=>dd i 0 fun j=>
 asS j fun k=>Vk 78 [.agg [.rs (5,0) a,.rs (4,0) b,.rs (3,0) c],.str k] fun l m n o p q r s t=>(((br (!t)
 (Vk 171 [.agg [.rs (5,0) a,.rs (4,0) b,.rs (3,0) c],(.agg [(.rs (5,0) [.agg [iN (1),iN (0),.str ({ data:=#[] }),iN (0),iN (0)],(.agg [iN (6),iN (0),.str ({ data:=#[] }),iN (0),iN (0)])])]),iN (1)] fun u v w x y z A B _=>(((ck7 76 [.op [.rs (1,0) d,iN e,iN f],iN (60)] fun C E F G=>((Y0 172 [.op [.rs (1,0) E,iN F,iN G],(.agg [.rs (5,0) a,.rs (4,0) b,.rs (3,0) c]),(.agg [.os (5,0) u,iN v,iN w,iN x,iN y,iN z,iN A,iN B]),iN C] fun H I J K L M N O P Q R=>(((some ((.tup [.agg [.rs (5,0) a,.rs (4,0) b,.rs (3,0) c],(.agg [.os (5,0) H,iN I,iN J,iN K,iN L,iN M,iN N,iN O])]),[.op [.rs (1,0) P,iN Q,iN R]]))))))))))
 (ck7 76 [.op [.rs (1,0) d,iN e,iN f],iN (60)] fun u v w x=>((Y0 172 [.op [.rs (1,0) v,iN w,iN x],(.agg [.rs (5,0) a,.rs (4,0) b,.rs (3,0) c]),(.agg [.os (5,0) l,iN m,iN n,iN o,iN p,iN q,iN r,iN s]),iN u] fun y z A B C E F G H I J=>(((some ((.tup [.agg [.rs (5,0) a,.rs (4,0) b,.rs (3,0) c],(.agg [.os (5,0) y,iN z,iN A,iN B,iN C,iN E,iN F,iN G])]),[.op [.rs (1,0) H,iN I,iN J]]))))))))))))
 (Vk 78 [(.agg [(.rs (
 5,0) a),.rs (4,0) b,.rs (3,0) c]),.str ({ data:=#[109,97,105,110] })] fun h i j k l m n o p=>(((br (!p)
 (Vk 171 [.agg [.rs (5,0) a,.rs (4,0) b,.rs (3,0) c],(.agg [(.rs (5,0) [.agg [iN (1),iN (0),.str ({ data:=#[] }),iN (0),iN (0)],(.agg [iN (6),iN (0),.str ({ data:=#[] }),iN (0),iN (0)])])]),iN (1)] fun q r s t u v w x _=>(((ck7 76 [.op [.rs (1,0) d,iN e,iN f],iN (60)] fun y z A B=>((Y0 172 [.op [.rs (1,0) z,iN A,iN B],(.agg [.rs (5,0) a,.rs (4,0) b,.rs (3,0) c]),(.agg [.os (5,0) q,iN r,iN s,iN t,iN u,iN v,iN w,iN x]),iN y] fun C E F G H I J K L M N=>(((some ((.tup [.agg [.rs (5,0) a,.rs (4,0) b,.rs (3,0) c],(.agg [.os (5,0) C,iN E,iN F,iN G,iN H,iN I,iN J,iN K])]),[.op [.rs (1,0) L,iN M,iN N]]))))))))))
 (ck7 76 [.op [.rs (1,0) d,iN e,iN f],iN (60)] fun q r s t=>((Y0 172 [.op [.rs (1,0) r,iN s,iN t],(.agg [.rs (5,0) a,.rs (4,0) b,.rs (3,0) c]),(.agg [.os (5,0) h,iN i,iN j,iN k,iN l,iN m,iN n,iN o]),iN q] fun u v w x y z A B C E F=>(((some ((.tup [.agg [.rs (5,0) a,.rs (4,0) b,.rs (3,0) c],(.agg [.os (5,0) u,iN v,iN w,iN x,iN y,iN z,iN A,iN B])]),[.op [.rs (1,0) C,iN E,iN F]]))))))))))))
 (Vk 78 [(.agg [(.rs (
 5,0) a),.rs (4,0) b,.rs (3,0) c]),.str ({ data:=#[109,97,105,110] })] fun h i j k l m n o p=>(((br (!p)
 (Vk 171 [.agg [.rs (5,0) a,.rs (4,0) b,.rs (3,0) c],(.agg [(.rs (5,0) [.agg [iN (1),iN (0),.str ({ data:=#[] }),iN (0),iN (0)],(.agg [iN (6),iN (0),.str ({ data:=#[] }),iN (0),iN (0)])])]),iN (1)] fun q r s t u v w x _=>(((ck7 76 [.op [.rs (1,0) d,iN e,iN f],iN (60)] fun y z A B=>((Y0 172 [.op [.rs (1,0) z,iN A,iN B],(.agg [.rs (5,0) a,.rs (4,0) b,.rs (3,0) c]),(.agg [.os (5,0) q,iN r,iN s,iN t,iN u,iN v,iN w,iN x]),iN y] fun C E F G H I J K L M N=>(((some ((.tup [.agg [.rs (5,0) a,.rs (4,0) b,.rs (3,0) c],(.agg [.os (5,0) C,iN E,iN F,iN G,iN H,iN I,iN J,iN K])]),[.op [.rs (1,0) L,iN M,iN N]]))))))))))
 (ck7 76 [.op [.rs (1,0) d,iN e,iN f],iN (60)] fun q r s t=>((Y0 172 [.op [.rs (1,0) r,iN s,iN t],(.agg [.rs (5,0) a,.rs (4,0) b,.rs (3,0) c]),(.agg [.os (5,0) h,iN i,iN j,iN k,iN l,iN m,iN n,iN o]),iN q] fun u v w x y z A B C E F=>(((some ((.tup [.agg [.rs (5,0) a,.rs (4,0) b,.rs (3,0) c],(.agg [.os (5,0) u,iN v,iN w,iN x,iN y,iN z,iN A,iN B])]),[.op [.rs (1,0) C,iN E,iN F]]))))))))))))))):=by
 exact (zR Tryz.func112 rfl _).trans (by kernel_rfl)
theorem Xw (a0_0 a0_1 a0_2 a1_0:List D)(a1_1 a1_2 a1_3 a1_4 a1_5 a1_6 a1_7:Int)(a2_0:List D)(a3_:Int):V 32 [.agg [.rs (5,0) a0_0,.rs (4,0) a0_1,.rs (3,0) a0_2],.agg [.rs (5,0) a1_0,iN a1_1,iN a1_2,iN a1_3,iN a1_4,iN a1_5,iN a1_6,iN a1_7],.agg [.rs (5,0) a2_0],iN a3_] =
 ck6 15 [.agg [.rs (5,0) a0_0,.rs (4,0) a0_1,.rs (3,0) a0_2],(.agg [.rs (5,0) a1_0,iN a1_1,iN a1_2,iN a1_3,iN a1_4,iN a1_5,iN a1_6,iN a1_7])] fun a=>(br (!a)
 (some ((.agg [.os (5,0) [],iN (0),iN (0),iN (0),iN (0),iN (3),iN (7),iN (0)]),[]))
 (
 br (a1_5 != 1)
 (ck5 85 [.agg [.rs (5,0) a1_0,iN a1_1,iN a1_2,iN a1_3,iN a1_4,iN a1_5,iN a1_6,iN a1_7]] fun b c d e f g h i=>((some ((.agg [.os (5,0) b,iN c,iN d,iN e,iN f,iN g,iN h,iN i]),[]))))
 (ck6 60 [.agg [.rs (5,0) a2_0]] fun b=>(br (!b)
 (ck5 85 [.agg [.rs (5,0) a1_0,iN a1_1,iN a1_2,iN a1_3,iN a1_4,iN a1_5,iN a1_6,iN a1_7]] fun c d e f g h i j=>((some ((.agg [.os (5,0) c,iN d,iN e,iN f,iN g,iN h,iN i,iN j]),[]))))
 (ck6 61 [.agg [.rs (5,0) a2_0],iN a3_] fun c=>(br (!c)
 (ck5 85 [.agg [.rs (5,0) a1_0,iN a1_1,iN a1_2,iN a1_3,iN a1_4,iN a1_5,iN a1_6,iN a1_7]] fun d e f g h i j k=>((some ((.agg [.os (5,0) d,iN e,iN f,iN g,iN h,iN i,iN j,iN k]),[]))))
 (ck5 85 [.agg [.rs (5,0) a1_0,iN a1_1,iN a1_2,iN a1_3,iN a1_4,iN a1_5,iN a1_6,iN a1_7]] fun d e f g h i j k=>((ck9 96 [.op [.os (5,0) d],(.agg [.rs (5,0) a2_0]),iN a3_] fun l m=>((SC 95 [.op [.os (5,0) m,iN e,iN f,iN g,iN h,iN i,iN j,iN k],iN l] fun n _ o p q _ _ _=>(((br (decide (w6 (a1_1+1)>=ni a0_1.length))
 (ck5 97 [.agg [.rs (5,0) a1_0,iN a1_1,iN a1_2,iN a1_3,iN a1_4,iN a1_5,iN a1_6,iN a1_7],iN (7)] fun r s t u v w x y=>((some ((.agg [.os (5,0) r,iN s,iN t,iN u,iN v,iN w,iN x,iN y]),[]))))
 (
 br (decide (ni n.length>3000))
 (ck5 97 [.agg [.rs (5,0) a1_0,iN a1_1,iN a1_2,iN a1_3,iN a1_4,iN a1_5,iN a1_6,iN a1_7],iN (6)] fun r s t u v w x y=>((some ((.agg [.os (5,0) r,iN s,iN t,iN u,iN v,iN w,iN x,iN y]),[]))))
 (some ((.agg [.os (5,0) n,(iN (w6 (a1_1+1))),iN o,iN p,iN q,iN (0),iN (0),iN (0)]),[]))))))))))))))))):=by
 exact (zR Tryz.func32 rfl _).trans (by kernel_rfl)
theorem JM (p0:List D)(p1 p2:Int)(p3 p4:List D):Al p0 p1 p2 p3 p4 =
 br (decide (p2<p1))
 (
 grd (decide (0<=p2)&&decide (p2<ni p0.length)) (dd p0 p2.toNat fun a=>
 tk2 a fun b c d e f=>(br (b==5)
 (
 grd (decide (0<=e)&&decide (e<ni p4.length)) (dd p4 e.toNat fun g=>
 asI .i64 g fun h=>grd (decide (0<=f)&&decide (f<ni p4.length)) (dd p4 f.toNat fun i=>
 asI .i64 i fun j=>br (!jx p3 [iN b,iN c,D.str d,iN h,iN j])
 (
 grd (!jx p3 [iN b,iN c,D.str d,iN h,iN j]) (nam (xf p3 [iN b,iN c,D.str d,iN h,iN j] p2) fun k=>
 grd (decide (ni (List.length (p4++[iN p2]))<=LIM)) (nam (p4++[iN p2]) fun l=>
 Al p0 p1 (w6 (p2+1)) k l)))
 (
 grd (decide (ni (List.length (p4++[iN (od p3 [iN b,iN c,D.str d,iN h,iN j])]))<=LIM)) (nam (p4++[iN (od p3 [iN b,iN c,D.str d,iN h,iN j])]) fun k=>
 Al p0 p1 (w6 (p2+1)) p3 k)))))
 (
 br (b==6)
 (
 br (b==6)
 (
 grd (decide (0<=e)&&decide (e<ni p4.length)) (dd p4 e.toNat fun g=>
 asI .i64 g fun h=>br (!jx p3 [iN b,iN c,D.str d,iN h,iN f])
 (
 grd (!jx p3 [iN b,iN c,D.str d,iN h,iN f]) (nam (xf p3 [iN b,iN c,D.str d,iN h,iN f] p2) fun i=>
 grd (decide (ni (List.length (p4++[iN p2]))<=LIM)) (nam (p4++[iN p2]) fun j=>
 Al p0 p1 (w6 (p2+1)) i j)))
 (
 grd (decide (ni (List.length (p4++[iN (od p3 [iN b,iN c,D.str d,iN h,iN f])]))<=LIM)) (nam (p4++[iN (od p3 [iN b,iN c,D.str d,iN h,iN f])]) fun i=>
 Al p0 p1 (w6 (p2+1)) p3 i))))
 (
 br (!jx p3 [iN b,iN c,D.str d,iN e,iN f])
 (
 grd (!jx p3 [iN b,iN c,D.str d,iN e,iN f]) (nam (xf p3 [iN b,iN c,D.str d,iN e,iN f] p2) fun g=>
 grd (decide (ni (List.length (p4++[iN p2]))<=LIM)) (nam (p4++[iN p2]) fun h=>
 Al p0 p1 (w6 (p2+1)) g h)))
 (
 grd (decide (ni (List.length (p4++[iN (od p3 [iN b,iN c,D.str d,iN e,iN f])]))<=LIM)) (nam (p4++[iN (od p3 [iN b,iN c,D.str d,iN e,iN f])]) fun g=>
 Al p0 p1 (w6 (p2+1)) p3 g))))
 (
 br (b==7)
 (
 grd (decide (0<=e)&&decide (e<ni p4.length)) (dd p4 e.toNat fun g=>
 asI .i64 g fun h=>br (!jx p3 [iN b,iN c,D.str d,iN h,iN f])
 (
 grd (!jx p3 [iN b,iN c,D.str d,iN h,iN f]) (nam (xf p3 [iN b,iN c,D.str d,iN h,iN f] p2) fun i=>
 grd (decide (ni (List.length (p4++[iN p2]))<=LIM)) (nam (p4++[iN p2]) fun j=>
 Al p0 p1 (w6 (p2+1)) i j)))
 (
 grd (decide (ni (List.length (p4++[iN (od p3 [iN b,iN c,D.str d,iN h,iN f])]))<=LIM)) (nam (p4++[iN (od p3 [iN b,iN c,D.str d,iN h,iN f])]) fun i=>
 Al p0 p1 (w6 (p2+1)) p3 i))))
 (
 br (!jx p3 [iN b,iN c,D.str d,iN e,iN f])
 (
 grd (!jx p3 [iN b,iN c,D.str d,iN e,iN f]) (nam (xf p3 [iN b,iN c,D.str d,iN e,iN f] p2) fun g=>
 grd (decide (ni (List.length (p4++[iN p2]))<=LIM)) (nam (p4++[iN p2]) fun h=>
 Al p0 p1 (w6 (p2+1)) g h)))
 (
 grd (decide (ni (List.length (p4++[iN (od p3 [iN b,iN c,D.str d,iN e,iN f])]))<=LIM)) (nam (p4++[iN (od p3 [iN b,iN c,D.str d,iN e,iN f])]) fun g=>
 Al p0 p1 (w6 (p2+1)) p3 g))))))))
 (some ((.os (1,0) p4),[])):=by
 exact (zQ _ _ _).trans (by kernel_rfl)
theorem Ri (p0:ByteArray)(p1 p2 p3:Int)(p4 p5 p6 p7:List D):Dn p0 p1 p2 p3 p4 p5 p6 p7 =
 br (decide (p1<ni (ByteArray.size p0)))
 (grd (decide (0<=p1)&&decide (p1<ni (ByteArray.size p0))) (ck6 211 [.int .u8 (bt p0 p1)] fun a=>(br a
 (Dn p0 (w6 (p1+1)) p2 p3 p4 p5 p6 p7)
 (grd (df (ByteArray.size p0) (some p3) (some p1)) (TG 212 [(.str (ByteArray.extract p0 p3.toNat p1.toNat))] fun b c d e f g=>(((br (!g)
 (ck8 147 [.agg [.rs (5,0) p4]] fun h=>((some ((.tup [.agg [.os (5,0) h],.os (1,0) p5,iN (3),iN p3]),[]))))
 (
 grd (decide (0<=p2)&&decide (p2<ni p6.length)) (dd p6 p2.toNat fun h=>
 asAgg h fun i=>dd i 1 fun j=>
 jH (1,0) j fun k=>asAgg h fun l=>ck9 158 [.op [.os (5,0) p7],.agg [iN b,iN c,.str d,iN e,iN f]] fun m n=>((grd (decide (ni (List.length (k++[iN m]))<=LIM)) (nam (k++[iN m]) fun o=>
 grd (decide (0<=p2)&&decide (p2<ni (List.length (List.set p6 p2.toNat (D.agg (List.take 1 l++[D.dead]++List.drop 2 l)))))) (dd (List.set p6 p2.toNat (D.agg (List.take 1 l++[D.dead]++List.drop 2 l))) p2.toNat fun p=>
 asAgg p fun q=>nam (List.set (List.set p6 p2.toNat (D.agg (List.take 1 l++[D.dead]++List.drop 2 l))) p2.toNat
 (D.agg
 (List.take 1 q ++
 [D.os
 (TypeInfo.size (Tables.types (Program.toTables Tryz.prog))[3],
 match rZ Tryz.prog (3) with
 |true=>0
 |false=>1)
 o] ++
 List.drop 2 q))) fun r=>
 AH p0 p1 p4 p5 r n))))))))))))))
 (grd (df (ByteArray.size p0) (some p3) (some p1)) (TG 212 [(.str (ByteArray.extract p0 p3.toNat p1.toNat))] fun a b c d e f=>(((br (!f)
 (ck8 147 [.agg [.rs (5,0) p4]] fun g=>((some ((.tup [.agg [.os (5,0) g],.os (1,0) p5,iN (3),iN p3]),[]))))
 (
 grd (decide (0<=p2)&&decide (p2<ni p6.length)) (dd p6 p2.toNat fun g=>
 asAgg g fun h=>dd h 1 fun i=>
 jH (1,0) i fun j=>asAgg g fun k=>ck9 158 [.op [.os (5,0) p7],.agg [iN a,iN b,.str c,iN d,iN e]] fun l m=>((grd (decide (ni (List.length (j++[iN l]))<=LIM)) (nam (j++[iN l]) fun n=>
 grd (decide (0<=p2)&&decide (p2<ni (List.length (List.set p6 p2.toNat (D.agg (List.take 1 k++[D.dead]++List.drop 2 k)))))) (dd (List.set p6 p2.toNat (D.agg (List.take 1 k++[D.dead]++List.drop 2 k))) p2.toNat fun o=>
 asAgg o fun p=>nam (List.set (List.set p6 p2.toNat (D.agg (List.take 1 k++[D.dead]++List.drop 2 k))) p2.toNat
 (D.agg
 (List.take 1 p ++
 [D.os
 (TypeInfo.size (Tables.types (Program.toTables Tryz.prog))[3],
 match rZ Tryz.prog (3) with
 |true=>0
 |false=>1)
 n] ++
 List.drop 2 p))) fun q=>
 AH p0 p1 p4 p5 q m))))))))))):=by
 exact (zQ _ _ _).trans (by kernel_rfl)
theorem RF (a0_0:List D)(a0_1 a0_2 a1_:Int):V 197 [.op [.rs (1,0) a0_0,iN a0_1,iN a0_2],iN a1_] =
 br (a1_==0)
 (YZ 201 [.op [.rs (1,0) a0_0,iN a0_1,iN a0_2]] fun a b c d e f g h=>(((some ((.agg [iN a,iN b,.str c,iN d,iN e]),[.op [.rs (1,0) f,iN g,iN h]])))))
 (Xj 155 [.op [.rs (1,0) a0_0,iN a0_1,iN a0_2],iN (2)] fun a b c d=>((br a
 (YZ 201 [.op [.rs (1,0) b,iN c,iN d]] fun e f g h i j k l=>(((some ((.agg [iN e,iN f,.str g,iN h,iN i]),[.op [.rs (1,0) j,iN k,iN l]])))))
 (FE 116 [iN a1_,iN (5)] fun e=>(ck7 76 [.op [.rs (1,0) b,iN c,iN d],iN e] fun f g h i=>((ck7 76 [.op [.rs (1,0) g,iN h,iN i],iN (8)] fun j k l m=>((br (j==0)
 (ck7 76 [.op [.rs (1,0) k,iN l,iN m],iN (9)] fun n o p q=>((some ((.agg [iN (6),iN n,.str ({ data:=#[] }),(iN (w6 (w6 (a1_-1)-f))),iN (0)]),[.op [.rs (1,0) o,iN p,iN q]]))))
 (
 br (j==1)
 (some ((.agg [iN (7),iN (0),.str ({ data:=#[] }),(iN (w6 (w6 (a1_-1)-f))),iN (0)]),[.op [.rs (1,0) k,iN l,iN m]]))
 (FE 116 [iN a1_,iN (4)] fun n=>(ck7 76 [.op [.rs (1,0) k,iN l,iN m],iN n] fun o p q r=>((some ((.agg [iN (5),iN (0),.str ({ data:=#[] }),(iN (w6 (w6 (a1_-1)-f))),(iN (w6 (w6 (a1_-1)-o)))]),[.op [.rs (1,0) p,iN q,iN r]]))))))))))))))):=by
 exact (zR Tryz.func197 rfl _).trans (by kernel_rfl)
theorem Nv (p0:List D)(p1:Int)(p2 p3 p4 p5:List D)(p6 p7 p8 p9 p10 p11 p12:Int)(p13:List D)(p14 p15 p16 p17 p18 p19 p20:Int):Gy p0 p1 p2 p3 p4 p5 p6 p7 p8 p9 p10 p11 p12 p13 p14 p15 p16 p17 p18 p19 p20 =
 FE 16 [.rs (1,0) p0,iN (1)] fun a=>(grd (!decide (30=0)) (br (decide (p1<Int.tmod a (30)))
 (ck5 17 [(.agg [.rs (5,0) p2,(.rs (
 4,0) p3),.rs (3,0) p4]),(.agg [.rs (5,0) p5,iN p6,iN p7,iN p8,iN p9,iN p10,iN p11,iN p12])] fun b c d e f g h i=>((ck5 17 [.agg [.rs (5,0) p2,.rs (4,0) p3,.rs (3,0) p4],(.agg [.rs (5,0) p13,iN p14,iN p15,iN p16,iN p17,iN p18,iN p19,iN p20])] fun j k l m n o p q=>((FE 16 [.rs (1,0) p0,(iN (w6 (p1+2)))] fun r=>(grd (!decide (3=0)) (br (Int.tmod r (3)==0)
 (ck5 18 [.agg [.rs (5,0) j,iN k,iN l,iN m,iN n,iN o,iN p,iN q]] fun s t u v w x y z=>((Bm p0 (w6 (p1+1)) p2 p3 p4 c d e f g h i t u v w x y z b s)))
 (Bm p0 (w6 (p1+1)) p2 p3 p4 c d e f g h i k l m n o p q b j))))))))
 (aaP 19 [.agg [.rs (5,0) p2,.rs (4,0) p3,.rs (3,0) p4],(.agg [.rs (5,0) p5,iN p6,iN p7,iN p8,iN p9,iN p10,iN p11,iN p12])] fun b c=>((aaP 19 [.agg [.rs (5,0) p2,.rs (4,0) p3,.rs (3,0) p4],(.agg [.rs (5,0) p13,iN p14,iN p15,iN p16,iN p17,iN p18,iN p19,iN p20])] fun d e=>((br c
 (
 br e
 (some ((.bool (kJ b d)),[]))
 (some ((.bool false),[])))
 (some ((.bool false),[]))))))))):=by
 exact (zQ _ _ _).trans (by kernel_rfl)
theorem XK (a0_0 a0_1:Int)(a0_2:ByteArray)(a0_3 a0_4 a1_:Int):V 130 [.agg [iN a0_0,iN a0_1,.str a0_2,iN a0_3,iN a0_4],iN a1_] =
 ck6 62 [iN a0_3,iN (0),(iN (w6 (a1_-1)))] fun a=>(ck6 62 [iN a0_4,iN (0),(iN (w6 (a1_-1)))] fun b=>(br (a0_0==1)
 (some ((.bool (a0_0==1&&(a0_1==0&&(kJ a0_2 { data:=#[] }&&(a0_3==0&&(a0_4==0&&true)))))),[]))
 (
 br (a0_0==2)
 (ck6 62 [iN a0_1,iN (0),iN (1)] fun c=>(br c
 (some ((.bool (a0_0==2&&(a0_1==a0_1&&(kJ a0_2 { data:=#[] }&&(a0_3==0&&(a0_4==0&&true)))))),[]))
 (some ((.bool false),[]))))
 (
 br (a0_0==3)
 (ck6 62 [iN a0_1,iN (-1000000000),iN (1000000000)] fun c=>(br c
 (some ((.bool (a0_0==3&&(a0_1==a0_1&&(kJ a0_2 { data:=#[] }&&(a0_3==0&&(a0_4==0&&true)))))),[]))
 (some ((.bool false),[]))))
 (
 br (a0_0==4)
 (ck6 128 [.str a0_2] fun c=>(br c
 (some ((.bool (a0_0==4&&(a0_1==0&&(kJ a0_2 a0_2&&(a0_3==0&&(a0_4==0&&true)))))),[]))
 (some ((.bool false),[]))))
 (
 br (a0_0==5)
 (
 br a
 (
 br b
 (
 br (a0_1==0)
 (some ((.bool (kJ a0_2 { data:=#[] })),[]))
 (some ((.bool false),[])))
 (some ((.bool false),[])))
 (some ((.bool false),[])))
 (
 br (a0_0==6)
 (
 br a
 (ck6 62 [iN a0_1,iN (0),iN (1000000000)] fun c=>(br c
 (
 br (a0_4==0)
 (some ((.bool (kJ a0_2 { data:=#[] })),[]))
 (some ((.bool false),[])))
 (some ((.bool false),[]))))
 (some ((.bool false),[])))
 (
 br (a0_0==7)
 (
 br a
 (
 br (a0_1==0)
 (
 br (a0_4==0)
 (some ((.bool (kJ a0_2 { data:=#[] })),[]))
 (some ((.bool false),[])))
 (some ((.bool false),[])))
 (some ((.bool false),[])))
 (
 br (a0_0==8)
 (ck6 62 [iN a0_1,iN (0),iN (99)] fun c=>(br c
 (some ((.bool (a0_0==8&&(a0_1==a0_1&&(kJ a0_2 { data:=#[] }&&(a0_3==0&&(a0_4==0&&true)))))),[]))
 (some ((.bool false),[]))))
 (
 br (a0_0==9)
 (ck6 62 [iN a0_1,iN (0),iN (1000000000)] fun c=>(br c
 (some ((.bool (a0_0==9&&(a0_1==a0_1&&(kJ a0_2 { data:=#[] }&&(a0_3==0&&(a0_4==0&&true)))))),[]))
 (some ((.bool false),[]))))
 (some ((.bool false),[])))))))))))):=by
 exact (zR Tryz.func130 rfl _).trans (by kernel_rfl)
theorem SE (a0_0 a0_1 a0_2 a1_0:List D)(a1_1 a1_2 a1_3 a1_4 a1_5 a1_6 a1_7:Int):V 14 [.agg [.rs (5,0) a0_0,.rs (4,0) a0_1,.rs (3,0) a0_2],.agg [.rs (5,0) a1_0,iN a1_1,iN a1_2,iN a1_3,iN a1_4,iN a1_5,iN a1_6,iN a1_7]] =
 ck6 54 [.agg [.rs (5,0) a0_0,.rs (4,0) a0_1,.rs (3,0) a0_2]] fun a=>(br (!a)
 (some ((.bool false),[]))
 (ck6 55 [.agg [.rs (5,0) a1_0]] fun b=>(br (!b)
 (some ((.bool false),[]))
 (ck6 56 [.agg [.rs (5,0) a1_0],iN a1_2] fun c=>(br (!c)
 (some ((.bool false),[]))
 (ck6 56 [.agg [.rs (5,0) a1_0],iN a1_3] fun d=>(br (!d)
 (some ((.bool false),[]))
 (ck6 56 [.agg [.rs (5,0) a1_0],iN a1_4] fun e=>(br (!e)
 (some ((.bool false),[]))
 (
 br (a1_5==0)
 (ck6 57 [.agg [.rs (5,0) a0_0,.rs (4,0) a0_1,.rs (3,0) a0_2],iN a1_1] fun f=>(br f
 (
 br (a1_6==0)
 (some ((.bool (a1_7==0)),[]))
 (some ((.bool false),[])))
 (some ((.bool false),[]))))
 (
 br (a1_5==1)
 (ck6 57 [.agg [.rs (5,0) a0_0,.rs (4,0) a0_1,.rs (3,0) a0_2],iN a1_1] fun f=>(br f
 (ck6 58 [iN a1_6,iN (13),iN (19)] fun g=>(br g
 (
 br (a1_6 != 18)
 (ck6 56 [.agg [.rs (5,0) a1_0],iN a1_7] fun h=>(some ((.bool h),[])))
 (some ((.bool false),[])))
 (some ((.bool false),[]))))
 (some ((.bool false),[]))))
 (
 br (a1_5==2)
 (
 br (a1_1==0)
 (
 br (a1_6==0)
 (ck6 56 [.agg [.rs (5,0) a1_0],iN a1_7] fun f=>(some ((.bool f),[])))
 (some ((.bool false),[])))
 (some ((.bool false),[])))
 (
 br (a1_5==3)
 (
 br (a1_1==0)
 (ck6 58 [iN a1_6,iN (1),iN (7)] fun f=>(br f
 (some ((.bool (a1_7==0)),[]))
 (some ((.bool false),[]))))
 (some ((.bool false),[])))
 (some ((.bool false),[]))))))))))))))):=by
 exact (zR Tryz.func14 rfl _).trans (by kernel_rfl)
theorem IU (p0:Int)(p1 p2 p3:List D):Cw p0 p1 p2 p3 =
 br (decide (p0<ni p1.length))
 (
 grd (decide (0<=p0)&&decide (p0<ni p1.length)) (dd p1 p0.toNat fun a=>
 tk2 a fun b c d e f=>(br (b==5)
 (
 grd (decide (0<=e)&&decide (e<ni p2.length)) (dd p2 e.toNat fun g=>
 asI .i64 g fun h=>grd (decide (0<=f)&&decide (f<ni p2.length)) (dd p2 f.toNat fun i=>
 asI .i64 i fun j=>AL p0 p0 (0) p1 p2 p3 b c d h j)))
 (
 br (b==6)
 (
 br (b==6)
 (
 grd (decide (0<=e)&&decide (e<ni p2.length)) (dd p2 e.toNat fun g=>
 asI .i64 g fun h=>AL p0 p0 (0) p1 p2 p3 b c d h f))
 (AL p0 p0 (0) p1 p2 p3 b c d e f))
 (
 br (b==7)
 (
 grd (decide (0<=e)&&decide (e<ni p2.length)) (dd p2 e.toNat fun g=>
 asI .i64 g fun h=>AL p0 p0 (0) p1 p2 p3 b c d h f))
 (AL p0 p0 (0) p1 p2 p3 b c d e f))))))
 (some ((.os (1,0) p2),[])):=by
 exact (zQ _ _ _).trans (by kernel_rfl)
theorem Ly (p0 p1:ByteArray)(p2 p3:Int):CG p0 p1 p2 p3 =
 br (decide (p3<ni (ByteArray.size p1)))
 (grd (decide (0<=p3)&&decide (p3<ni (ByteArray.size p1))) (ck6 226 [.int .u8 (bt p1 p3)] fun a=>(br (!a)
 (some ((.tup [iN (0),.bool false]),[]))
 (grd (decide (0<=p3)&&decide (p3<ni (ByteArray.size p1))) (CG p0 p1 (w6 (w6 (w6 (10*p2)+w6 (bt p1 p3))-48)) (w6 (p3+1)))))))
 (
 br (ni (ByteArray.size p1) != ni (ByteArray.size p0))
 (YX 202 [(iN (w6 (0-p2)))] fun a=>(br (kJ a p0)
 (ck6 62 [(iN (w6 (0-p2))),iN (-1000000000),iN (1000000000)] fun b=>(some ((.tup [(iN (w6 (0-p2))),.bool b]),[])))
 (some ((.tup [(iN (w6 (0-p2))),.bool false]),[]))))
 (YX 202 [iN p2] fun a=>(br (kJ a p0)
 (ck6 62 [iN p2,iN (-1000000000),iN (1000000000)] fun b=>(some ((.tup [iN p2,.bool b]),[])))
 (some ((.tup [iN p2,.bool false]),[]))))):=by
 exact (zQ _ _ _).trans (by kernel_rfl)
theorem Pb (p0:Int)(p1 p2:List D):Fm p0 p1 p2 =
 grd (decide (0<=p0)&&decide (p0<ni p1.length)) (dd p1 p0.toNat fun a=>
 asAgg a fun b=>dd b 0 fun c=>
 asI .i64 c fun d=>br (d==5)
 (
 grd (decide (0<=p0)&&decide (p0<ni p1.length)) (dd p1 p0.toNat fun e=>
 asAgg e fun f=>dd f 3 fun g=>
 asI .i64 g fun h=>grd (decide (ni (List.length (p2++[iN h]))<=LIM)) (nam (p2++[iN h]) fun i=>
 grd (decide (0<=p0)&&decide (p0<ni p1.length)) (dd p1 p0.toNat fun j=>
 asAgg j fun k=>dd k 4 fun l=>
 asI .i64 l fun m=>Fm m p1 i))))
 (
 grd (decide (0<=p0)&&decide (p0<ni p1.length)) (dd p1 p0.toNat fun e=>
 asAgg e fun f=>dd f 0 fun g=>
 asI .i64 g fun h=>br (h != 1)
 (some ((.tup [.os (1,0) [],.bool false]),[]))
 (some ((.tup [.os (1,0) p2,.bool true]),[]))))):=by
 exact (zQ _ _ _).trans (by kernel_rfl)
theorem LD (p0:List D)(p1:ByteArray)(p2 p3:Int):Ir p0 p1 p2 p3 =
 grd (decide (0<=p2)&&decide (p2<ni p0.length)) (dd p0 p2.toNat fun a=>
 kY (1,0) a fun b=>br (decide (p3<ni b.length))
 (
 grd (decide (0<=p2)&&decide (p2<ni p0.length)) (dd p0 p2.toNat fun c=>
 kY (1,0) c fun d=>grd (decide (0<=p3)&&decide (p3<ni d.length)) (dd d p3.toNat fun e=>
 asS e fun f=>br (kJ f p1)
 (some ((.tup [iN p2,iN p3]),[]))
 (Ir p0 p1 p2 (w6 (p3+1))))))
 (FK p0 p1 (w6 (p2+1)))):=by
 exact (zQ _ _ _).trans (by kernel_rfl)
theorem Qj (p0:Int)(p1:List D):Gx p0 p1 =
 br (decide (p0>127))
 (
 grd (!decide (128=0)) (grd (decide (ni (List.length (p1++[D.int IntKind.u8 (IntKind.wrap IntKind.u8 (w6 (Int.tmod p0 (128)+128)))]))<=LIM)) (nam (p1++[D.int IntKind.u8 (IntKind.wrap IntKind.u8 (w6 (Int.tmod p0 (128)+128)))]) fun a=>
 grd (!decide (128=0)) (Gx (w6 (Int.tdiv p0 (128))) a))))
 (
 grd (decide (ni (List.length (p1++[D.int IntKind.u8 (IntKind.wrap IntKind.u8 p0)]))<=LIM)) (nam (p1++[D.int IntKind.u8 (IntKind.wrap IntKind.u8 p0)]) fun a=>
 some ((.os (1,0) a),[]))):=by
 exact (zQ _ _ _).trans (by kernel_rfl)
theorem KC (p0:List D)(p1 p2:Int)(p3:List D):GD p0 p1 p2 p3 =
 br (decide (p2>=0))
 (
 grd (decide (0<=p2)&&decide (p2<ni p0.length)) (dd p0 p2.toNat fun a=>
 asI .i64 a fun b=>ck9 158 [.op [.os (5,0) p3],(.agg [iN (5),iN (0),.str ({ data:=#[] }),iN b,iN p1])] fun c d=>((GD p0 c (w6 (p2-1)) d))))
 (some ((iN p1),[.op [.os (5,0) p3]])):=by
 exact (zQ _ _ _).trans (by kernel_rfl)
theorem TN (p:List D)(k n:Int)(s:ByteArray)(a b:Int):V 157 [.op [.os (5,0) p],.agg [iN k,iN n,.str s,iN a,iN b]] =
 grd (decide (ni (List.length (p++[D.agg [iN k,iN n,D.str s,iN a,iN b]]))<=LIM)) (nam (p++[D.agg [iN k,iN n,D.str s,iN a,iN b]]) fun c=>
 some ((iN (w6 (ni c.length-1))),[.op [.os (5,0) c]])):=by
 exact (zR Tryz.func157 rfl _).trans (by kernel_rfl)
theorem QA (a0_0:List D)(a0_1 a0_2:Int):V 154 [.op [.rs (1,0) a0_0,iN a0_1,iN a0_2]] =
 ck7 76 [.op [.rs (1,0) a0_0,iN a0_1,iN a0_2],iN (16)] fun a b c d=>((Jp a (0) b c d)):=by
 exact (zR Tryz.func154 rfl _).trans (by kernel_rfl)
theorem Xx (a0_0 a0_1 a0_2:List D):V 59 [.agg [.rs (5,0) a0_0,.rs (4,0) a0_1,.rs (3,0) a0_2]] =
 ck6 60 [.agg [.rs (5,0) a0_0]] fun a=>(br (!a)
 (some ((.bool false),[]))
 (
 br (decide (ni a0_1.length>400))
 (some ((.bool false),[]))
 (
 br (decide (ni a0_2.length>20))
 (some ((.bool false),[]))
 (Gz (0) a0_0 a0_1 a0_2)))):=by
 exact (zR Tryz.func59 rfl _).trans (by kernel_rfl)
theorem D9 (p0:List D)(p1 p2 p3:Int):Cg p0 p1 p2 p3 =
 br (decide (p3<p2))
 (
 grd (decide (0<=p3)&&decide (p3<ni p0.length)) (dd p0 p3.toNat fun a=>
 asI .u8 a fun b=>br (p1==b)
 (some ((iN p3),[]))
 (Cg p0 p1 p2 (w6 (p3+1)))))
 (some ((iN (-1)),[])):=by
 exact (zQ _ _ _).trans (by kernel_rfl)
theorem Ye (p q t:List D):V 148 [.op [.os (5,0) p],.agg [.rs (5,0) q],.rs (1,0) t] =
 grd (decide (0<=ni q.length)&&decide (ni q.length<=LIM)) (BV t (0) q (List.replicate (Int.toNat (ni q.length)) (iN (0))) p):=by
 exact (zR Tryz.func148 rfl _).trans (by kernel_rfl)
theorem Vo (a0_:ByteArray):V 138 [.str a0_] =
 Dk 67 [(iN (ni (ByteArray.size a0_)))] fun a=>(grd (decide (ni (List.length (a++iv a0_))<=LIM)) (nam (a++iv a0_) fun b=>
 some ((.os (1,0) b),[]))):=by
 exact (zR Tryz.func138 rfl _).trans (by kernel_rfl)
theorem Xu (a0_ a1_ a2_:Int):V 58 [iN a0_,iN a1_,iN a2_] =
 br (decide (a0_>=a1_))
 (some ((.bool (decide (a0_<=a2_))),[]))
 (some ((.bool false),[])):=by
 exact (zR Tryz.func58 rfl _).trans (by kernel_rfl)
theorem Vz (a0_:Int):V 226 [.int .u8 a0_] =
 br (decide (a0_>=48))
 (some ((.bool (decide (a0_<=57))),[]))
 (some ((.bool false),[])):=by
 exact (zR Tryz.func226 rfl _).trans (by kernel_rfl)
end Go.Eng
/-! the functions as the interpreter has them -/
namespace Go.Eng
open Go.Proofs Go.Proofs.Tryz
set_option maxRecDepth 100000
theorem IQ (p0:List D)(p1 p2:Int)(p3:List D):Ae p0 p1 p2 p3 =
 br (decide (p2<p1))
 (
 grd (decide (0<=p2)&&decide (p2<ni p0.length)) (dd p0 p2.toNat fun a=>
 tk2 a fun b c d e f=>(Dk 67 [iN b] fun g=>(grd (decide (ni (List.length (p3++g))<=LIM)) (nam (p3++g) fun h=>
 br (b==2)
 (
 br (b==2)
 (Dk 67 [iN c] fun i=>(grd (decide (ni (List.length (h++i))<=LIM)) (nam (h++i) fun j=>
 Ae p0 p1 (w6 (p2+1)) j)))
 (
 br (b==3)
 (Dk 67 [(iN (w6 (c+1000000000)))] fun i=>(grd (decide (ni (List.length (h++i))<=LIM)) (nam (h++i) fun j=>
 Ae p0 p1 (w6 (p2+1)) j)))
 (
 br (b==4)
 (Dk 138 [.str d] fun i=>(grd (decide (ni (List.length (h++i))<=LIM)) (nam (h++i) fun j=>
 Ae p0 p1 (w6 (p2+1)) j)))
 (
 br (b==5)
 (Dk 67 [iN e] fun i=>(grd (decide (ni (List.length (h++i))<=LIM)) (nam (h++i) fun j=>
 Dk 67 [iN f] fun k=>(grd (decide (ni (List.length (j++k))<=LIM)) (nam (j++k) fun l=>
 Ae p0 p1 (w6 (p2+1)) l)))))
 (
 br (b==6)
 (Dk 67 [iN c] fun i=>(grd (decide (ni (List.length (h++i))<=LIM)) (nam (h++i) fun j=>
 Dk 67 [iN e] fun k=>(grd (decide (ni (List.length (j++k))<=LIM)) (nam (j++k) fun l=>
 Ae p0 p1 (w6 (p2+1)) l)))))
 (
 br (b==7)
 (Dk 67 [iN e] fun i=>(grd (decide (ni (List.length (h++i))<=LIM)) (nam (h++i) fun j=>
 Ae p0 p1 (w6 (p2+1)) j)))
 (Ae p0 p1 (w6 (p2+1)) h)))))))
 (
 br (b==8)
 (
 br (b==8)
 (Dk 67 [iN c] fun i=>(grd (decide (ni (List.length (h++i))<=LIM)) (nam (h++i) fun j=>
 Ae p0 p1 (w6 (p2+1)) j)))
 (
 br (b==3)
 (Dk 67 [(iN (w6 (c+1000000000)))] fun i=>(grd (decide (ni (List.length (h++i))<=LIM)) (nam (h++i) fun j=>
 Ae p0 p1 (w6 (p2+1)) j)))
 (
 br (b==4)
 (Dk 138 [.str d] fun i=>(grd (decide (ni (List.length (h++i))<=LIM)) (nam (h++i) fun j=>
 Ae p0 p1 (w6 (p2+1)) j)))
 (
 br (b==5)
 (Dk 67 [iN e] fun i=>(grd (decide (ni (List.length (h++i))<=LIM)) (nam (h++i) fun j=>
 Dk 67 [iN f] fun k=>(grd (decide (ni (List.length (j++k))<=LIM)) (nam (j++k) fun l=>
 Ae p0 p1 (w6 (p2+1)) l)))))
 (
 br (b==6)
 (Dk 67 [iN c] fun i=>(grd (decide (ni (List.length (h++i))<=LIM)) (nam (h++i) fun j=>
 Dk 67 [iN e] fun k=>(grd (decide (ni (List.length (j++k))<=LIM)) (nam (j++k) fun l=>
 Ae p0 p1 (w6 (p2+1)) l)))))
 (
 br (b==7)
 (Dk 67 [iN e] fun i=>(grd (decide (ni (List.length (h++i))<=LIM)) (nam (h++i) fun j=>
 Ae p0 p1 (w6 (p2+1)) j)))
 (Ae p0 p1 (w6 (p2+1)) h)))))))
 (
 br (b==9)
 (Dk 67 [iN c] fun i=>(grd (decide (ni (List.length (h++i))<=LIM)) (nam (h++i) fun j=>
 Ae p0 p1 (w6 (p2+1)) j)))
 (
 br (b==3)
 (Dk 67 [(iN (w6 (c+1000000000)))] fun i=>(grd (decide (ni (List.length (h++i))<=LIM)) (nam (h++i) fun j=>
 Ae p0 p1 (w6 (p2+1)) j)))
 (
 br (b==4)
 (Dk 138 [.str d] fun i=>(grd (decide (ni (List.length (h++i))<=LIM)) (nam (h++i) fun j=>
 Ae p0 p1 (w6 (p2+1)) j)))
 (
 br (b==5)
 (Dk 67 [iN e] fun i=>(grd (decide (ni (List.length (h++i))<=LIM)) (nam (h++i) fun j=>
 Dk 67 [iN f] fun k=>(grd (decide (ni (List.length (j++k))<=LIM)) (nam (j++k) fun l=>
 Ae p0 p1 (w6 (p2+1)) l)))))
 (
 br (b==6)
 (Dk 67 [iN c] fun i=>(grd (decide (ni (List.length (h++i))<=LIM)) (nam (h++i) fun j=>
 Dk 67 [iN e] fun k=>(grd (decide (ni (List.length (j++k))<=LIM)) (nam (j++k) fun l=>
 Ae p0 p1 (w6 (p2+1)) l)))))
 (
 br (b==7)
 (Dk 67 [iN e] fun i=>(grd (decide (ni (List.length (h++i))<=LIM)) (nam (h++i) fun j=>
 Ae p0 p1 (w6 (p2+1)) j)))
 (Ae p0 p1 (w6 (p2+1)) h)))))))))))))
 (some ((.os (1,0) p3),[])):=by
 exact (zQ _ _ _).trans (by kernel_rfl)
theorem Zw (p l d:List D)(h x:Int):V 215 [.op [.os (5,0) p,.os (4,0) l,.os (3,0) d,iN h],iN x] =
 grd (decide (0<=x)&&decide (x<ni p.length)) (dd p x.toNat fun a=>
 asAgg a fun b=>dd b 0 fun c=>
 asI .i64 c fun e=>br (e==5)
 (ck3 228 [.agg [.rs (5,0) p],iN x] fun f g=>((br (!g)
 (ck2 229 [.op [.os (5,0) p,.os (4,0) l,.os (3,0) d,iN h],.str ({ data:=#[109,97,105,110] }),.rs (1,0) [],.rs (1,0) [iN x]] fun i j k m=>(((some ((.tup []),[.op [.os (5,0) i,.os (4,0) j,.os (3,0) k,iN m]])))))
 (
 grd (decide (0<=0)&&decide (0<ni f.length)) (dd f 0 fun i=>
 asI .i64 i fun j=>grd (decide (0<=j)&&decide (j<ni p.length)) (dd p j.toNat fun k=>
 asAgg k fun m=>dd m 0 fun n=>
 asI .i64 n fun o=>br (o != 4)
 (ck2 229 [.op [.os (5,0) p,.os (4,0) l,.os (3,0) d,iN h],.str ({ data:=#[109,97,105,110] }),.rs (1,0) [],.rs (1,0) [iN x]] fun q r s t=>(((some ((.tup []),[.op [.os (5,0) q,.os (4,0) r,.os (3,0) s,iN t]])))))
 (
 grd (decide (0<=0)&&decide (0<ni f.length)) (dd f 0 fun q=>
 asI .i64 q fun r=>grd (decide (0<=r)&&decide (r<ni p.length)) (dd p r.toNat fun s=>
 asAgg s fun t=>dd t 2 fun u=>
 asS u fun v=>br (!kJ v { data:=#[100,101,102,105,110,101] })
 (ck2 229 [.op [.os (5,0) p,.os (4,0) l,.os (3,0) d,iN h],.str ({ data:=#[109,97,105,110] }),.rs (1,0) [],.rs (1,0) [iN x]] fun w y z A=>(((some ((.tup []),[.op [.os (5,0) w,.os (4,0) y,.os (3,0) z,iN A]])))))
 (
 br (decide (ni f.length<3))
 (some ((.tup []),[.op [.os (5,0) p,.os (4,0) l,.os (3,0) d,iN (1)]]))
 (
 grd (decide (0<=1)&&decide (1<ni f.length)) (dd f 1 fun w=>
 asI .i64 w fun y=>grd (decide (0<=y)&&decide (y<ni p.length)) (dd p y.toNat fun z=>
 asAgg z fun A=>dd A 0 fun B=>
 asI .i64 B fun C=>br (C != 5)
 (some ((.tup []),[.op [.os (5,0) p,.os (4,0) l,.os (3,0) d,iN (1)]]))
 (
 grd (decide (0<=1)&&decide (1<ni f.length)) (dd f 1 fun E=>
 asI .i64 E fun F=>ck3 228 [.agg [.rs (5,0) p],iN F] fun G H=>((br (!H)
 (some ((.tup []),[.op [.os (5,0) p,.os (4,0) l,.os (3,0) d,iN (1)]]))
 (
 grd (decide (0<=0)&&decide (0<ni G.length)) (dd G 0 fun I=>
 asI .i64 I fun J=>adn 230 [.op [.os (5,0) p,.os (4,0) l,.os (3,0) d,iN h],iN J] fun K L M N O P=>(((br (!L)
 (some ((.tup []),[.op [.os (5,0) M,.os (4,0) N,.os (3,0) O,iN (1)]]))
 (grd (df G.length (some (1)) none) (ck4 231 [.op [.os (5,0) M,.os (4,0) N,.os (3,0) O,iN P],(.rs (1,0) (part G (some (Int.toNat (1),List.length G-Int.toNat (1)))))] fun Q R S T U=>((grd (df f.length (some (2)) none) (ck2 229 [.op [.os (5,0) R,.os (4,0) S,.os (3,0) T,iN U],.str K,.rs (1,0) Q,(.rs (1,0) (part f (some (Int.toNat (2),List.length f-Int.toNat (2)))))] fun W X Y Z=>(((some ((.tup []),[.op [.os (5,0) W,.os (4,0) X,.os (3,0) Y,iN Z]])))))))))))))))))))))))))))))))
 (ck2 229 [.op [.os (5,0) p,.os (4,0) l,.os (3,0) d,iN h],.str ({ data:=#[109,97,105,110] }),.rs (1,0) [],.rs (1,0) [iN x]] fun f g i j=>(((some ((.tup []),[.op [.os (5,0) f,.os (4,0) g,.os (3,0) i,iN j]])))))):=by
 exact (zR Tryz.func215 rfl _).trans (by kernel_rfl)
theorem MJ (p:List D)(m1 m2 m3 m4 m5 m6 m7:Int)(cp cl cd:List D)(o i:Int):V 186 [.op [.os (5,0) p,iN m1,iN m2,iN m3,iN m4,iN m5,iN m6,iN m7,.rs (5,0) cp,.rs (4,0) cl,.rs (3,0) cd],iN o,iN i] =
 Xi 207 [.op [.os (5,0) p,iN m1,iN m2,iN m3,iN m4,iN m5,iN m6,iN m7,.rs (5,0) cp,.rs (4,0) cl,.rs (3,0) cd],iN m3,iN o] fun a b c d e f g h j k l m n=>(((br (!b)
 (some ((iN (7)),[.op [.os (5,0) c,iN d,iN e,iN f,iN g,iN h,iN j,iN k,.rs (5,0) l,.rs (4,0) m,.rs (3,0) n]]))
 (Xi 207 [.op [.os (5,0) c,iN d,iN e,iN f,iN g,iN h,iN j,iN k,.rs (5,0) l,.rs (4,0) m,.rs (3,0) n],iN a,iN i] fun q r s t u v w x y z A B C=>(((br (!r)
 (some ((iN (7)),[.op [.os (5,0) s,iN t,iN u,iN v,iN w,iN x,iN y,iN z,.rs (5,0) A,.rs (4,0) B,.rs (3,0) C]]))
 (TE 185 [.op [.os (5,0) s,iN t,iN u,iN v,iN w,iN x,iN y,iN z,.rs (5,0) A,.rs (4,0) B,.rs (3,0) C],iN q] fun E F G H I J K L M N O=>(((some ((iN (0)),[.op [.os (5,0) E,iN F,iN G,iN H,iN I,iN J,iN K,iN L,.rs (5,0) M,.rs (4,0) N,.rs (3,0) O]])))))))))))):=by
 exact (zR Tryz.func186 rfl _).trans (by kernel_rfl)
theorem RE (a0_0:List D)(a0_1 a0_2:Int):V 201 [.op [.rs (1,0) a0_0,iN a0_1,iN a0_2]] =
 ck7 76 [.op [.rs (1,0) a0_0,iN a0_1,iN a0_2],iN (8)] fun a b c d=>((br (a==0)
 (some ((.agg [iN (1),iN (0),.str ({ data:=#[] }),iN (0),iN (0)]),[.op [.rs (1,0) b,iN c,iN d]]))
 (
 br (a==1)
 (ck7 76 [.op [.rs (1,0) b,iN c,iN d],iN (2)] fun e f g h=>((some ((.agg [iN (2),iN e,.str ({ data:=#[] }),iN (0),iN (0)]),[.op [.rs (1,0) f,iN g,iN h]]))))
 (
 br (a==2)
 (PO 75 [.op [.rs (1,0) b,iN c,iN d],(.rs (1,0) [.str ({ data:=#[97] }),.str ({ data:=#[98,99] }),.str ({ data:=#[120] }),.str ({ data:=#[102] }),.str ({ data:=#[43] }),.str ({ data:=#[108,105,115,116] })])] fun e f g h=>((some ((.agg [iN (4),iN (0),.str e,iN (0),iN (0)]),[.op [.rs (1,0) f,iN g,iN h]]))))
 (
 br (a==3)
 (ck7 76 [.op [.rs (1,0) b,iN c,iN d],iN (5)] fun e f g h=>((some ((.agg [iN (9),iN e,.str ({ data:=#[] }),iN (0),iN (0)]),[.op [.rs (1,0) f,iN g,iN h]]))))
 (
 br (a==4)
 (ck7 76 [.op [.rs (1,0) b,iN c,iN d],iN (5)] fun e f g h=>((some ((.agg [iN (8),iN e,.str ({ data:=#[] }),iN (0),iN (0)]),[.op [.rs (1,0) f,iN g,iN h]]))))
 (ck7 76 [.op [.rs (1,0) b,iN c,iN d],iN (12)] fun e f g h=>((some ((.agg [iN (3),(iN (w6 (e-3))),.str ({ data:=#[] }),iN (0),iN (0)]),[.op [.rs (1,0) f,iN g,iN h]])))))))))):=by
 exact (zR Tryz.func201 rfl _).trans (by kernel_rfl)
theorem SN (a0_0 a0_1 a0_2 a1_0:List D)(a1_1 a1_2 a1_3 a1_4 a1_5 a1_6 a1_7:Int):V 15 [.agg [.rs (5,0) a0_0,.rs (4,0) a0_1,.rs (3,0) a0_2],.agg [.rs (5,0) a1_0,iN a1_1,iN a1_2,iN a1_3,iN a1_4,iN a1_5,iN a1_6,iN a1_7]] =
 ck6 59 [.agg [.rs (5,0) a0_0,.rs (4,0) a0_1,.rs (3,0) a0_2]] fun a=>(br (!a)
 (some ((.bool false),[]))
 (ck6 60 [.agg [.rs (5,0) a1_0]] fun b=>(br (!b)
 (some ((.bool false),[]))
 (ck6 61 [.agg [.rs (5,0) a1_0],iN a1_2] fun c=>(br (!c)
 (some ((.bool false),[]))
 (ck6 61 [.agg [.rs (5,0) a1_0],iN a1_3] fun d=>(br (!d)
 (some ((.bool false),[]))
 (ck6 61 [.agg [.rs (5,0) a1_0],iN a1_4] fun e=>(br (!e)
 (some ((.bool false),[]))
 (ck6 62 [iN a1_1,iN (0),(iN (w6 (ni a0_1.length-1)))] fun f=>(br (a1_5==0)
 (
 br f
 (
 br (a1_6==0)
 (some ((.bool (a1_7==0)),[]))
 (some ((.bool false),[])))
 (some ((.bool false),[])))
 (
 br (a1_5==1)
 (
 br f
 (ck6 62 [iN a1_6,iN (13),iN (19)] fun g=>(br g
 (
 br (a1_6 != 18)
 (ck6 61 [.agg [.rs (5,0) a1_0],iN a1_7] fun h=>(some ((.bool h),[])))
 (some ((.bool false),[])))
 (some ((.bool false),[]))))
 (some ((.bool false),[])))
 (
 br (a1_5==2)
 (
 br (a1_1==0)
 (
 br (a1_6==0)
 (ck6 61 [.agg [.rs (5,0) a1_0],iN a1_7] fun g=>(some ((.bool g),[])))
 (some ((.bool false),[])))
 (some ((.bool false),[])))
 (
 br (a1_5==3)
 (
 br (a1_1==0)
 (ck6 62 [iN a1_6,iN (1),iN (7)] fun g=>(br g
 (some ((.bool (a1_7==0)),[]))
 (some ((.bool false),[]))))
 (some ((.bool false),[])))
 (some ((.bool false),[])))))))))))))))):=by
 exact (zR Tryz.func15 rfl _).trans (by kernel_rfl)
theorem Qu (a0_0 a0_1 a0_2 a1_0:List D)(a1_1 a1_2 a1_3 a1_4 a1_5 a1_6 a1_7:Int):V 19 [.agg [.rs (5,0) a0_0,.rs (4,0) a0_1,.rs (3,0) a0_2],.agg [.rs (5,0) a1_0,iN a1_1,iN a1_2,iN a1_3,iN a1_4,iN a1_5,iN a1_6,iN a1_7]] =
 ck6 14 [.agg [.rs (5,0) a0_0,.rs (4,0) a0_1,.rs (3,0) a0_2],(.agg [.rs (5,0) a1_0,iN a1_1,iN a1_2,iN a1_3,iN a1_4,iN a1_5,iN a1_6,iN a1_7])] fun a=>(br (!a)
 (some ((.tup [.str ({ data:=#[] }),.bool false]),[]))
 (ck5 18 [.agg [.rs (5,0) a1_0,iN a1_1,iN a1_2,iN a1_3,iN a1_4,iN a1_5,iN a1_6,iN a1_7]] fun b c d e f g h i=>((Dv (ni 7) (0) c d e f g h i [] ([iN c,iN g,iN h,iN d,iN e,iN f,iN i]) b)))):=by
 exact (zR Tryz.func19 rfl _).trans (by kernel_rfl)
theorem Pa (p0:List D)(p1 p2:Int)(p3:List D):GX p0 p1 p2 p3 =
 br (decide (p1<ni p0.length))
 (
 grd (decide (0<=p1)&&decide (p1<ni p0.length)) (dd p0 p1.toNat fun a=>
 asI .i64 a fun b=>ck2 215 [.op [.os (5,0) p3,.os (4,0) [],.os (3,0) [],iN p2],iN b] fun c d e f=>(((br (f==3)
 (some ((.tup [.agg [.os (5,0) [],.os (4,0) [],.os (3,0) []],iN (3),iN (0)]),[]))
 (
 br (f != 0)
 (some ((.tup [.agg [.os (5,0) [],.os (4,0) [],.os (3,0) []],iN f,iN p1]),[]))
 (DV p0 (w6 (p1+1)) f c d e)))))))
 (ck6 59 [.agg [.rs (5,0) p3,.rs (4,0) [],.rs (3,0) []]] fun a=>(br (!a)
 (some ((.tup [.agg [.os (5,0) [],.os (4,0) [],.os (3,0) []],iN (3),iN (0)]),[]))
 (some ((.tup [.agg [.os (5,0) p3,.os (4,0) [],.os (3,0) []],iN (0),(iN (ni p0.length))]),[])))):=by
 exact (zQ _ _ _).trans (by kernel_rfl)
theorem My (p0:Int)(p1 p2:List D):Dw p0 p1 p2 =
 grd (decide (0<=p0)&&decide (p0<ni p2.length)) (dd p2 p0.toNat fun a=>
 asAgg a fun b=>dd b 0 fun c=>
 asI .i64 c fun d=>br (d==5)
 (
 grd (decide (0<=p0)&&decide (p0<ni p2.length)) (dd p2 p0.toNat fun e=>
 asAgg e fun f=>dd f 3 fun g=>
 asI .i64 g fun h=>grd (decide (ni (List.length (p1++[iN h]))<=LIM)) (nam (p1++[iN h]) fun i=>
 grd (decide (0<=p0)&&decide (p0<ni p2.length)) (dd p2 p0.toNat fun j=>
 asAgg j fun k=>dd k 4 fun l=>
 asI .i64 l fun m=>Dw m i p2))))
 (
 grd (decide (0<=p0)&&decide (p0<ni p2.length)) (dd p2 p0.toNat fun e=>
 asAgg e fun f=>dd f 0 fun g=>
 asI .i64 g fun h=>some ((.tup [.os (1,0) p1,.bool (h==1)]),[.op [.os (5,0) p2]])))):=by
 exact (zQ _ _ _).trans (by kernel_rfl)
theorem JN (p0:List D)(p1:Int)(p2:List D):Gb p0 p1 p2 =
 br (decide (p1<ni p0.length))
 (
 grd (decide (0<=p1)&&decide (p1<ni p0.length)) (dd p0 p1.toNat fun a=>
 asI .i64 a fun b=>ck6 61 [.agg [.rs (5,0) p2],iN b] fun c=>(br (!c)
 (some ((.tup [.agg [.os (5,0) [],.os (4,0) [],.os (3,0) []],iN (3),iN (0)]),[]))
 (Gb p0 (w6 (p1+1)) p2))))
 (ck8 147 [.agg [.rs (5,0) p2]] fun a=>((GX p0 (0) (0) a))):=by
 exact (zQ _ _ _).trans (by kernel_rfl)
theorem Zz (p:List D)(m1 m2 m3 m4 m5 m6 m7 v:Int):V 95 [.op [.os (5,0) p,iN m1,iN m2,iN m3,iN m4,iN m5,iN m6,iN m7],iN v] =
 ck9 158 [.op [.os (5,0) p],(.agg [iN (5),iN (0),.str ({ data:=#[] }),iN v,iN m2])] fun a b=>((some ((.tup []),[.op [.os (5,0) b,iN m1,iN a,iN m3,iN m4,iN m5,iN m6,iN m7]]))):=by
 exact (zR Tryz.func95 rfl _).trans (by kernel_rfl)
theorem Yd (p q:List D)(v:Int):V 96 [.op [.os (5,0) p],.agg [.rs (5,0) q],iN v] =
 Dk 149 [.agg [.rs (5,0) q],.rs (1,0) [iN v]] fun a=>(aaO 148 [.op [.os (5,0) p],(.agg [.rs (5,0) q]),.rs (1,0) a] fun b c=>((grd (decide (0<=v)&&decide (v<ni b.length)) (dd b v.toNat fun d=>
 asI .i64 d fun e=>some ((iN e),[.op [.os (5,0) c]]))))):=by
 exact (zR Tryz.func96 rfl _).trans (by kernel_rfl)
theorem XG (a0_0:List D)(a0_1 a0_2 a1_:Int):V 155 [.op [.rs (1,0) a0_0,iN a0_1,iN a0_2],iN a1_] =
 ck7 76 [.op [.rs (1,0) a0_0,iN a0_1,iN a0_2],iN a1_] fun a b c d=>((some ((.bool (a==0)),[.op [.rs (1,0) b,iN c,iN d]]))):=by
 exact (zR Tryz.func155 rfl _).trans (by kernel_rfl)
theorem Gf (p0 p1:List D)(p2 p3:Int):Dh p0 p1 p2 p3 =
 br (decide (p3<p2))
 (
 grd (decide (0<=p3)&&decide (p3<ni p0.length)) (dd p0 p3.toNat fun a=>
 asI .i64 a fun b=>ck6 136 [iN b,(.bp [.rs (5,0) p1])] fun c=>(br c
 (some ((iN p3),[]))
 (Dh p0 p1 p2 (w6 (p3+1))))))
 (some ((iN (-1)),[])):=by
 exact (zQ _ _ _).trans (by kernel_rfl)
theorem Jr (p0 p1:Int)(p2 p3 p4 p5:List D):Cm p0 p1 p2 p3 p4 p5 =
 br (decide (p0<ni p2.length))
 (
 br (p1==0)
 (DD p0 (0) p1 p2 p3 p4 p5)
 (some ((.os (1,0) p2),[.op [.os (5,0) p3,.os (4,0) p4,.os (3,0) p5,iN p1]])))
 (some ((.os (1,0) p2),[.op [.os (5,0) p3,.os (4,0) p4,.os (3,0) p5,iN p1]])):=by
 exact (zQ _ _ _).trans (by kernel_rfl)
theorem Di (p0:List D)(p1:ByteArray)(p2 p3:Int):Bv p0 p1 p2 p3 =
 br (decide (p3<p2))
 (
 grd (decide (0<=p3)&&decide (p3<ni p0.length)) (dd p0 p3.toNat fun a=>
 asS a fun b=>br (kJ p1 b)
 (some ((iN p3),[]))
 (Bv p0 p1 p2 (w6 (p3+1)))))
 (some ((iN (-1)),[])):=by
 exact (zQ _ _ _).trans (by kernel_rfl)
theorem Ky (p0:ByteArray)(p1:Int)(p2:List D):GC p0 p1 p2 =
 br (decide (p1<=19))
 (
 grd (decide (0<=p1)&&decide (p1<ni p2.length)) (dd p2 p1.toNat fun a=>
 asS a fun b=>br (kJ b p0)
 (some ((iN p1),[]))
 (GC p0 (w6 (p1+1)) p2)))
 (some ((iN (0)),[])):=by
 exact (zQ _ _ _).trans (by kernel_rfl)
theorem Zk (a0_0 a1_:List D):V 189 [.agg [.rs (5,0) a0_0],.rs (1,0) a1_] =
 grd (decide (0<=ni a0_0.length)&&decide (ni a0_0.length<=LIM)) (FH a1_ (ni a1_.length) (0) a0_0 (List.replicate (Int.toNat (ni a0_0.length)) (D.bool false))):=by
 exact (zR Tryz.func189 rfl _).trans (by kernel_rfl)
theorem Xo (a0_:ByteArray):V 208 [.str a0_] =
 Dk 176 [] fun a=>(FE 225 [.rs (1,0) a,.str a0_] fun b=>(some ((iN (w6 (b+1))),[]))):=by
 exact (zR Tryz.func208 rfl _).trans (by kernel_rfl)
theorem XM (p l d:List D)(h:Int)(x e:List D):V 236 [.op [.os (5,0) p,.os (4,0) l,.os (3,0) d,iN h],.rs (1,0) x,.rs (1,1) e] =
 EW x e (0) h p l d:=by
 exact (zR Tryz.func236 rfl _).trans (by kernel_rfl)
theorem Zn (a0_0 a0_1 a0_2:List D)(a1_:ByteArray):V 129 [.agg [.rs (5,0) a0_0,.rs (4,0) a0_1,.rs (3,0) a0_2],.str a1_] =
 Ip a1_ (0) a0_0 a0_1 a0_2:=by
 exact (zR Tryz.func129 rfl _).trans (by kernel_rfl)
theorem Jw (a0_:List D)(a1_:ByteArray):V 225 [.rs (1,0) a0_,.str a1_] =
 Bv a0_ a1_ (ni a0_.length) (0):=by
 exact (zR Tryz.func225 rfl _).trans (by kernel_rfl)
theorem Rx (l:List D)(s:ByteArray):V 178 [.rs (3,0) l,.fn 179 [.bp [.str s]]] =
 DT l s (ni l.length) (0):=by
 exact (zR Tryz.func178 rfl _).trans (by kernel_rfl)
theorem Zx (a0_:List D)(a1_:ByteArray):V 248 [.rs (1,1) a0_,.str a1_] =
 FK a0_ a1_ (0):=by
 exact (zR Tryz.func248 rfl _).trans (by kernel_rfl)

end Go.Eng
