/- the program and the reference on plain data, part 1 -/
import Derived.Test.YtkndfhaehnfnmaaEngC
import Derived.Test.YtkndfhaehnfnmaaProg
/-! the functions as the interpreter has them: loop heads -/
namespace Go.Eng
noncomputable section
open Go.Proofs Go.Proofs.Try
set_option maxRecDepth 100000
def cf0:Cfg:={ ext:=fun _=>none,own:=fun f=>match f with  | _=>true,mode:=fun f i=>match f,i with | 69,0=>.mut | 27,0=>.mv | _,_=>.ro }
abbrev iN:Int->D:=D.int IntKind.i64
abbrev tk1 {R:Type} (x:D) (K:Int->Int->ByteArray->Int->Int->Option R):Option R:=asAgg x fun l=>unc l fun x0 l0=>asI .i64 x0 fun v0=>unc l0 fun x1 l1=>asI .i64 x1 fun v1=>unc l1 fun x2 l2=>asS x2 fun v2=>unc l2 fun x3 l3=>asI .i64 x3 fun v3=>unc l3 fun x4 l4=>asI .i64 x4 fun v4=>unn l4 (K v0 v1 v2 v3 v4)
@[congr] theorem TU {R:Type} {x y:D} (h:x = y) (K:_):tk1 (R:=R) x K = tk1 y K:=by rw [h]
abbrev tk2 {R:Type} (x:D) (K:List D->List D->List D->Int->Option R):Option R:=mJ x fun l=>unc l fun x0 l0=>iK (5,0) x0 fun v0=>unc l0 fun x1 l1=>iK (4,0) x1 fun v1=>unc l1 fun x2 l2=>iK (3,0) x2 fun v2=>unc l2 fun x3 l3=>asI .i64 x3 fun v3=>unn l3 (K v0 v1 v2 v3)
@[congr] theorem TV {R:Type} {x y:D} (h:x = y) (K:_):tk2 (R:=R) x K = tk2 y K:=by rw [h]
abbrev tk3 {R:Type} (x:D) (K:List D->Bool->Option R):Option R:=il x fun l=>unc l fun x0 l0=>iK (1,0) x0 fun v0=>unc l0 fun x1 l1=>asB x1 fun v1=>unn l1 (K v0 v1)
@[congr] theorem TW {R:Type} {x y:D} (h:x = y) (K:_):tk3 (R:=R) x K = tk3 y K:=by rw [h]
abbrev tk4 {R:Type} (x:D) (K:List D->Int->Option R):Option R:=il x fun l=>unc l fun x0 l0=>iK (1,0) x0 fun v0=>unc l0 fun x1 l1=>asI .i64 x1 fun v1=>unn l1 (K v0 v1)
@[congr] theorem TZ {R:Type} {x y:D} (h:x = y) (K:_):tk4 (R:=R) x K = tk4 y K:=by rw [h]
abbrev tk5 {R:Type} (x:D) (K:ByteArray->Bool->Option R):Option R:=il x fun l=>unc l fun x0 l0=>asS x0 fun v0=>unc l0 fun x1 l1=>asB x1 fun v1=>unn l1 (K v0 v1)
@[congr] theorem T5 {R:Type} {x y:D} (h:x = y) (K:_):tk5 (R:=R) x K = tk5 y K:=by rw [h]
abbrev tk6 {R:Type} (x:D) (K:List D->Int->Int->Int->Int->Int->Int->Int->List D->List D->List D->Option R):Option R:=mJ x fun l=>unc l fun x0 l0=>iK (5,0) x0 fun v0=>unc l0 fun x1 l1=>asI .i64 x1 fun v1=>unc l1 fun x2 l2=>asI .i64 x2 fun v2=>unc l2 fun x3 l3=>asI .i64 x3 fun v3=>unc l3 fun x4 l4=>asI .i64 x4 fun v4=>unc l4 fun x5 l5=>asI .i64 x5 fun v5=>unc l5 fun x6 l6=>asI .i64 x6 fun v6=>unc l6 fun x7 l7=>asI .i64 x7 fun v7=>unc l7 fun x8 l8=>jT (5,0) x8 fun v8=>unc l8 fun x9 l9=>jT (4,0) x9 fun v9=>unc l9 fun x10 l10=>jT (3,0) x10 fun v10=>unn l10 (K v0 v1 v2 v3 v4 v5 v6 v7 v8 v9 v10)
@[congr] theorem T6 {R:Type} {x y:D} (h:x = y) (K:_):tk6 (R:=R) x K = tk6 y K:=by rw [h]
abbrev tk7 {R:Type} (x:D) (K:List D->Int->Int->Int->Int->Int->Int->Int->Option R):Option R:=asAgg x fun l=>unc l fun x0 l0=>iK (5,0) x0 fun v0=>unc l0 fun x1 l1=>asI .i64 x1 fun v1=>unc l1 fun x2 l2=>asI .i64 x2 fun v2=>unc l2 fun x3 l3=>asI .i64 x3 fun v3=>unc l3 fun x4 l4=>asI .i64 x4 fun v4=>unc l4 fun x5 l5=>asI .i64 x5 fun v5=>unc l5 fun x6 l6=>asI .i64 x6 fun v6=>unc l6 fun x7 l7=>asI .i64 x7 fun v7=>unn l7 (K v0 v1 v2 v3 v4 v5 v6 v7)
@[congr] theorem T7 {R:Type} {x y:D} (h:x = y) (K:_):tk7 (R:=R) x K = tk7 y K:=by rw [h]
abbrev tk8 {R:Type} (x:D) (K:List D->List D->List D->Option R):Option R:=asAgg x fun l=>unc l fun x0 l0=>iK (5,0) x0 fun v0=>unc l0 fun x1 l1=>iK (4,0) x1 fun v1=>unc l1 fun x2 l2=>iK (3,0) x2 fun v2=>unn l2 (K v0 v1 v2)
@[congr] theorem T8 {R:Type} {x y:D} (h:x = y) (K:_):tk8 (R:=R) x K = tk8 y K:=by rw [h]
abbrev tk9 {R:Type} (x:D) (K:Int->Bool->Option R):Option R:=il x fun l=>unc l fun x0 l0=>asI .i64 x0 fun v0=>unc l0 fun x1 l1=>asB x1 fun v1=>unn l1 (K v0 v1)
@[congr] theorem T9 {R:Type} {x y:D} (h:x = y) (K:_):tk9 (R:=R) x K = tk9 y K:=by rw [h]
abbrev JQ {R:Type} (x:D) (K:List D->List D->List D->Option R):Option R:=mJ x fun l=>unc l fun x0 l0=>iK (5,0) x0 fun v0=>unc l0 fun x1 l1=>iK (1,2) x1 fun v1=>unc l1 fun x2 l2=>iK (1,0) x2 fun v2=>unn l2 (K v0 v1 v2)
@[congr] theorem TM {R:Type} {x y:D} (h:x = y) (K:_):JQ (R:=R) x K = JQ y K:=by rw [h]
abbrev Qc {R:Type} (x:D) (K:Int->Int->Option R):Option R:=il x fun l=>unc l fun x0 l0=>asI .i64 x0 fun v0=>unc l0 fun x1 l1=>asI .i64 x1 fun v1=>unn l1 (K v0 v1)
@[congr] theorem TN {R:Type} {x y:D} (h:x = y) (K:_):Qc (R:=R) x K = Qc y K:=by rw [h]
abbrev Ah {R:Type} (x:D) (K:List D->List D->Option R):Option R:=mJ x fun l=>unc l fun x0 l0=>jT (5,0) x0 fun v0=>unc l0 fun x1 l1=>iK (1,0) x1 fun v1=>unn l1 (K v0 v1)
@[congr] theorem TP {R:Type} {x y:D} (h:x = y) (K:_):Ah (R:=R) x K = Ah y K:=by rw [h]
abbrev Rj {R:Type} (x:D) (K:Int->Int->Int->ByteArray->Option R):Option R:=asAgg x fun l=>unc l fun x0 l0=>asI .i64 x0 fun v0=>unc l0 fun x1 l1=>asI .i64 x1 fun v1=>unc l1 fun x2 l2=>asI .i64 x2 fun v2=>unc l2 fun x3 l3=>asS x3 fun v3=>unn l3 (K v0 v1 v2 v3)
@[congr] theorem TQ {R:Type} {x y:D} (h:x = y) (K:_):Rj (R:=R) x K = Rj y K:=by rw [h]
abbrev Qd {R:Type} (x:D) (K:ByteArray->Int->Int->Option R):Option R:=asAgg x fun l=>unc l fun x0 l0=>asS x0 fun v0=>unc l0 fun x1 l1=>asI .i64 x1 fun v1=>unc l1 fun x2 l2=>asI .i64 x2 fun v2=>unn l2 (K v0 v1 v2)
@[congr] theorem TT {R:Type} {x y:D} (h:x = y) (K:_):Qd (R:=R) x K = Qd y K:=by rw [h]
abbrev uu : A := .undef
abbrev V:=Vn Try.prog cf0
abbrev R:=Rn Try.prog cf0
def Dp (p0 p1:List D) (p2 p3 p4:Int) (p5:List D):Option Ret:=R 9 Try.f9 [] (xw Try.f9 5) ⟨[uu,.d (.rs (1,0) p0),uu,uu,.ref 0 0 0,uu,uu,.ref 1 0 0,uu,uu,uu,uu,uu,uu,uu,uu,uu,uu,uu,uu,uu,uu,uu,uu,.d (.rs (1,0) p1),.d (iN p2),.d (iN p3),uu,uu,uu,uu,uu,uu,uu,uu,uu,uu,uu,uu,uu,uu,uu,uu,uu,uu,uu,uu,uu,uu,uu,uu,uu,uu,uu,uu,uu,uu,uu,uu,uu,uu,uu,uu,uu],[(0,some (.var [.d .nl,.d .nl,.d .nl])),(1,some (.var [.asl 2 none,.d .nl,.d .nl,.d (iN p4)])),(2,some (.arr (5,0) p5))],3,[]⟩
def yI (p0 p1:List D) (p2 p3 p4:Int) (p5 p6 p7:List D):Option Ret:=R 9 Try.f9 [] (xw Try.f9 5) ⟨[uu,.d (.rs (1,0) p0),uu,uu,.ref 0 0 0,uu,uu,.ref 1 0 0,uu,uu,uu,uu,uu,uu,uu,uu,uu,uu,uu,uu,uu,uu,uu,uu,.d (.rs (1,0) p1),.d (iN p2),.d (iN p3),uu,uu,uu,uu,uu,uu,uu,uu,uu,uu,uu,uu,uu,uu,uu,uu,uu,uu,uu,uu,uu,uu,uu,uu,uu,uu,uu,uu,uu,uu,uu,uu,uu,uu,uu,uu,uu],[(0,some (.var [.d .nl,.d .nl,.d .nl])),(1,some (.var [.asl 2 none,.asl 3 none,.asl 4 none,.d (iN p4)])),(2,some (.arr (5,0) p5)),(3,some (.arr (4,0) p6)),(4,some (.arr (3,0) p7))],5,[]⟩
def z8 (p0 p1:Int) (p2 p3 p4:List D) (p5 p6 p7 p8 p9 p10 p11 p12 p13 p14 p15 p16 p17 p18:Int) (p19:List D):Option Ret:=R 11 Try.f11 [] (xw Try.f11 5) ⟨[uu,uu,.d (iN p0),.ref 0 0 0,.ref 1 0 0,uu,.ref 2 0 0,uu,.d (iN p1),uu,uu,uu,uu,uu,uu,uu,uu,uu,uu,uu,uu,uu,uu,uu,uu,uu,uu,uu,uu,uu,uu,uu,uu,uu,uu],[(0,some (.var [.d (.rs (5,0) p2),.d (.rs (4,0) p3),.d (.rs (3,0) p4)])),(1,some (.var [.asl 3 none,.d (iN p5),.d (iN p6),.d (iN p7),.d (iN p8),.d (iN p9),.d (iN p10),.d (iN p11)])),(2,some (.var [.d .nl,.d (iN p12),.d (iN p13),.d (iN p14),.d (iN p15),.d (iN p16),.d (iN p17),.d (iN p18)])),(3,some (.arr (5,0) p19))],4,[]⟩
def z6 (p0:List D) (p1 p2:Int) (p3:List D):Option Ret:=R 15 Try.f15 [] (xw Try.f15 2) ⟨[uu,.ref 0 0 0,uu,uu,uu,uu,.d (.rs (5,0) p0),.d (iN p1),.d (iN p2),uu,uu,uu,uu,uu,uu,uu,uu,uu,uu,uu,uu,uu],[(0,some (.var [.d (.rs (5,0) p3)]))],1,[]⟩
def xQ (p0:ByteArray) (p1:Int) (p2 p3 p4:List D):Option Ret:=R 17 Try.f17 [((Go.Func.params Try.f17).toList.getD 0 0)] (xw Try.f17 2) ⟨[.ref 0 0 0,.d (.str p0),uu,uu,uu,uu,.d (iN p1),uu,uu,uu,uu,uu,uu,uu,uu,uu,uu,uu,uu,uu,uu,uu,uu,uu,uu,uu,uu,uu,uu,uu,uu,uu,uu,uu,uu,uu,uu,uu,uu,uu,uu,uu,uu,uu,uu,uu,uu,uu,uu,uu,uu,uu,uu,uu,uu,uu,uu,uu,uu,uu,uu,uu,uu,uu,uu,uu,uu,uu,uu,uu,uu,uu,uu,uu,uu,uu,uu,uu,uu,uu,uu,uu,uu,uu,uu,uu,uu,uu,uu,uu,uu,uu,uu,uu,uu,uu,uu,uu,uu,uu,uu,uu,uu,uu,uu,uu,uu,uu,uu,uu,uu,uu,uu],[(0,some (.var [.asl 1 none,.asl 2 none,.asl 3 none])),(1,some (.arr (5,0) p2)),(2,some (.arr (1,2) p3)),(3,some (.arr (1,0) p4))],4,[.ref 0 0 0]⟩
def yE (p0:ByteArray) (p1 p2:Int) (p3 p4 p5:List D):Option Ret:=R 17 Try.f17 [((Go.Func.params Try.f17).toList.getD 0 0)] (xw Try.f17 5) ⟨[.ref 0 0 0,.d (.str p0),uu,uu,uu,uu,.d (iN p1),uu,.d (iN p2),uu,uu,uu,uu,uu,uu,uu,uu,uu,uu,uu,uu,uu,uu,uu,uu,uu,uu,uu,uu,uu,uu,uu,uu,uu,uu,uu,uu,uu,uu,uu,uu,uu,uu,uu,uu,uu,uu,uu,uu,uu,uu,uu,uu,uu,uu,uu,uu,uu,uu,uu,uu,uu,uu,uu,uu,uu,uu,uu,uu,uu,uu,uu,uu,uu,uu,uu,uu,uu,uu,uu,uu,uu,uu,uu,uu,uu,uu,uu,uu,uu,uu,uu,uu,uu,uu,uu,uu,uu,uu,uu,uu,uu,uu,uu,uu,uu,uu,uu,uu,uu,uu,uu,uu],[(0,some (.var [.asl 1 none,.asl 2 none,.asl 3 none])),(1,some (.arr (5,0) p3)),(2,some (.arr (1,2) p4)),(3,some (.arr (1,0) p5))],4,[.ref 0 0 0]⟩
def z5 (p0 p1:Int) (p2 p3 p4:List D):Option Ret:=R 22 Try.f22 [] (xw Try.f22 4) ⟨[uu,.ref 0 0 0,uu,uu,uu,uu,uu,uu,uu,uu,uu,uu,uu,uu,uu,uu,uu,uu,uu,uu,uu,uu,uu,uu,.d (iN p0),.d (iN p1),uu,uu,uu,uu,uu,uu,uu,uu,uu,uu,uu,uu,uu,uu,uu,uu,uu,uu,uu,uu,uu,uu,uu,uu,uu,uu,uu,uu,uu,uu,uu,uu,uu,uu,uu,uu,uu,uu,uu,uu,uu,uu,uu,uu],[(0,some (.var [.d (.rs (5,0) p2),.d (.rs (4,0) p3),.d (.rs (3,0) p4)]))],1,[]⟩
def zO (p0:List D) (p1 p2:Int) (p3 p4 p5:List D):Option Ret:=R 22 Try.f22 [] (xw Try.f22 10) ⟨[uu,.ref 0 0 0,uu,uu,uu,uu,uu,uu,uu,uu,uu,uu,uu,uu,uu,uu,uu,uu,uu,uu,uu,uu,uu,uu,uu,uu,uu,uu,uu,uu,uu,uu,uu,uu,.d (.rs (3,0) p0),.d (iN p1),.d (iN p2),uu,uu,uu,uu,uu,uu,uu,uu,uu,uu,uu,uu,uu,uu,uu,uu,uu,uu,uu,uu,uu,uu,uu,uu,uu,uu,uu,uu,uu,uu,uu,uu,uu],[(0,some (.var [.d (.rs (5,0) p3),.d (.rs (4,0) p4),.d (.rs (3,0) p5)]))],1,[]⟩
def y0 (p0 p1:List D) (p2 p3:Int):Option Ret:=R 38 Try.f38 [] (xw Try.f38 2) ⟨[.d (.rs (1,0) p0),.fn 79 [.rp (1,1) [.rs (5,0) p1] 0 0],uu,uu,uu,uu,uu,.d (iN p2),.d (iN p3),uu,uu,uu,uu,uu,uu,uu,uu,uu,uu],[],0,[]⟩
def yZ (p0 p1:List D) (p2 p3:Int):Option Ret:=R 38 Try.f38 [] (xw Try.f38 2) ⟨[.d (.rs (1,0) p0),.fn 19 [.rp (1,1) [.rs (5,0) p1] 0 0],uu,uu,uu,uu,uu,.d (iN p2),.d (iN p3),uu,uu,uu,uu,uu,uu,uu,uu,uu,uu],[],0,[]⟩
def y7 (p0:Int) (p1 p2:List D):Option Ret:=R 40 Try.f40 [((Go.Func.params Try.f40).toList.getD 0 0)] (xw Try.f40 2) ⟨[.ref 0 0 0,.d (iN p0),uu,uu,uu,uu,.asl 1 none,uu,uu,uu,uu,uu,uu,uu,uu,uu,uu,uu,uu,uu,uu,uu,uu,uu,uu,uu,uu,uu,uu,uu,uu,uu,uu,uu,uu,uu,uu,uu,uu,uu,uu,uu,uu,uu,uu,uu],[(0,some (.var [.asl 2 none])),(1,some (.arr (1,0) p1)),(2,some (.arr (5,0) p2))],3,[.ref 0 0 0]⟩
def zo (p0:ByteArray) (p1 p2:Int):Option Ret:=R 45 Try.f45 [] (xw Try.f45 4) ⟨[.d (.str p0),uu,uu,uu,uu,uu,uu,uu,uu,.d (iN p1),.d (iN p2),uu,uu,uu,uu,uu,uu,uu,uu],[],0,[]⟩
def zg (p0:List D) (p1:ByteArray) (p2 p3:Int):Option Ret:=R 46 Try.f46 [] (xw Try.f46 2) ⟨[.d (.rs (3,0) p0),.fn 47 [.rp (1,1) [.str p1] 0 0],uu,uu,uu,uu,uu,.d (iN p2),.d (iN p3),uu,uu,uu,uu,uu,uu,uu,uu,uu,uu],[],0,[]⟩
def yK (p0 p1 p2 p3 p4 p5 p6 p7 p8:Int) (p9 p10 p11 p12 p13:List D):Option Ret:=R 50 Try.f50 [((Go.Func.params Try.f50).toList.getD 0 0)] (xw Try.f50 5) ⟨[.ref 0 0 0,uu,uu,uu,uu,.asl 1 none,uu,uu,uu,uu,uu,uu,uu,uu,uu,uu,uu,uu,uu,uu,uu,uu,.d (iN p0),.d (iN p1),uu,uu,uu,uu,uu,uu,uu,uu,uu,uu,uu,uu,uu,uu,uu,uu,uu,uu,uu,uu,uu,uu],[(0,some (.var [.asl 2 none,.d (iN p2),.d (iN p3),.d (iN p4),.d (iN p5),.d (iN p6),.d (iN p7),.d (iN p8),.d (.rs (5,0) p9),.d (.rs (4,0) p10),.d (.rs (3,0) p11)])),(1,some (.arr (1,0) p12)),(2,some (.arr (5,0) p13))],3,[.ref 0 0 0]⟩
def yA (p0:Int) (p1:Bool) (p2 p3:List D):Option Ret:=R 55 Try.f55 [((Go.Func.params Try.f55).toList.getD 0 0)] (xw Try.f55 1) ⟨[.ref 0 0 0,.d (iN p0),uu,uu,.d (.bool p1),uu,uu,uu,uu,uu,uu,uu,uu,uu,uu,uu,uu,uu,uu,uu,uu,uu,uu,uu,uu,uu,uu,uu,uu,uu,uu,uu,uu,uu,uu,uu,uu,uu,uu,uu,uu,uu,uu,uu,uu,uu,uu,uu,uu,uu,uu,uu,uu,uu,uu,uu,uu,uu,uu,uu,uu,uu,uu,uu,uu],[(0,some (.var [.d (.rs (5,0) p2),.asl 1 none])),(1,some (.arr (1,0) p3))],2,[.ref 0 0 0]⟩
def zk (p0:List D) (p1 p2:Int) (p3:List D):Option Ret:=R 57 Try.f57 [((Go.Func.params Try.f57).toList.getD 0 0)] (xw Try.f57 3) ⟨[.ref 0 0 0,.d (.rs (1,0) p0),uu,uu,uu,.d (iN p1),.d (iN p2),uu,uu,uu,uu,uu,uu,uu,uu,uu,uu,uu,uu,uu,uu,uu,uu,uu,uu],[(0,some (.var [.asl 1 none])),(1,some (.arr (5,0) p3))],2,[.ref 0 0 0]⟩
def yV (p0:ByteArray) (p1 p2 p3:Int):Option Ret:=R 60 Try.f60 [] (xw Try.f60 5) ⟨[.d (.str p0),uu,uu,uu,uu,uu,.d (iN p1),uu,uu,uu,uu,uu,uu,uu,uu,uu,uu,uu,uu,uu,uu,uu,uu,uu,uu,uu,uu,.d (iN p2),.d (iN p3),uu,uu,uu,uu,uu,uu,uu,uu,uu,uu,uu,uu,uu,uu,uu,uu,uu],[],0,[]⟩
def yr (p0:List D) (p1 p2 p3:Int) (p4 p5 p6 p7:List D):Option Ret:=R 63 Try.f63 [((Go.Func.params Try.f63).toList.getD 0 0)] (xw Try.f63 3) ⟨[.ref 0 0 0,uu,uu,uu,uu,uu,.asl 1 none,uu,uu,uu,uu,uu,uu,uu,.d (.rs (1,0) p0),.d (iN p1),.d (iN p2),uu,uu,uu,uu,uu,uu,uu,uu,uu,uu,uu,uu,uu,uu,uu,uu,uu,uu,uu,uu,uu,uu,uu,uu,uu,uu,uu,uu,uu,uu,uu,uu,uu,uu,uu,uu,uu],[(0,some (.var [.asl 2 none,.asl 3 none,.asl 4 none,.d (iN p3)])),(1,some (.arr (1,0) p4)),(2,some (.arr (5,0) p5)),(3,some (.arr (4,0) p6)),(4,some (.arr (3,0) p7))],5,[.ref 0 0 0]⟩
def yJ (p0 p1:Int) (p2:List D) (p3:Int) (p4 p5 p6:List D):Option Ret:=R 63 Try.f63 [((Go.Func.params Try.f63).toList.getD 0 0)] (xw Try.f63 13) ⟨[uu,uu,uu,uu,uu,uu,.asl 0 none,uu,uu,uu,uu,uu,uu,uu,uu,uu,uu,uu,uu,uu,uu,uu,uu,uu,uu,uu,uu,uu,uu,uu,uu,uu,uu,uu,uu,uu,uu,uu,uu,uu,.asl 0 none,.d (iN p0),.d (iN p1),uu,uu,uu,uu,uu,uu,uu,uu,uu,uu,uu],[(0,some (.arr (1,0) p2)),(1,some (.var [.asl 2 none,.asl 3 none,.asl 4 none,.d (iN p3)])),(2,some (.arr (5,0) p4)),(3,some (.arr (4,0) p5)),(4,some (.arr (3,0) p6))],5,[.ref 1 0 0]⟩
def yz (p0 p1:List D) (p2 p3 p4:Int) (p5 p6 p7:List D):Option Ret:=R 64 Try.f64 [((Go.Func.params Try.f64).toList.getD 0 0)] (xw Try.f64 1) ⟨[.ref 0 0 0,uu,.d (.rs (1,1) p0),uu,uu,uu,uu,uu,.d (.rs (1,0) p1),.d (iN p2),.d (iN p3),uu,uu,uu,uu,uu,uu,uu,uu,uu,uu,uu,uu,uu,uu],[(0,some (.var [.asl 1 none,.asl 2 none,.asl 3 none,.d (iN p4)])),(1,some (.arr (5,0) p5)),(2,some (.arr (4,0) p6)),(3,some (.arr (3,0) p7))],4,[.ref 0 0 0]⟩
def A7 (p0:List D) (p1 p2:Int) (p3 p4 p5:List D):Option Ret:=R 67 Try.f67 [] (xw Try.f67 5) ⟨[uu,uu,uu,uu,.ref 0 0 0,uu,.ref 1 0 0,.asl 2 none,.asl 3 none,uu,uu,uu,uu,uu,uu,uu,.d (.rs (1,0) p0),.d (iN p1),.d (iN p2),uu,uu,uu,uu,uu,uu,uu,uu,uu,uu,uu,uu,uu],[(0,some (.var [.d .nl])),(1,some (.var [.asl 4 none])),(2,some (.arr (1,0) p3)),(3,some (.arr (1,0) p4)),(4,some (.arr (5,0) p5))],5,[]⟩
def yx (p0 p1:Int) (p2:List D):Option Ret:=R 69 Try.f69 [27] (xw Try.f69 1) ⟨[.asl 0 none,uu,.d (iN p0),.d (iN p1),uu,uu,uu,uu,uu,uu,uu,uu,uu,uu,uu,uu,uu,uu,uu,uu,uu,uu,uu,uu,uu,uu,uu,uu],[(0,some (.arr (1,0) p2))],1,[.asl 0 none]⟩
def xW (p0:List D) (p1 p2 p3:Int) (p4 p5 p6 p7:List D):Option Ret:=R 78 Try.f78 [((Go.Func.params Try.f78).toList.getD 0 0)] (xw Try.f78 16) ⟨[.ref 0 0 0,uu,.d (.rs (1,1) p0),uu,uu,uu,uu,.asl 1 none,uu,uu,uu,uu,uu,uu,uu,uu,uu,uu,uu,uu,uu,uu,uu,uu,uu,uu,uu,uu,uu,uu,uu,uu,uu,uu,uu,uu,uu,uu,uu,uu,uu,uu,uu,uu,uu,uu,uu,uu,uu,uu,uu,uu,uu,uu,uu,uu,uu,uu,uu,uu,uu,uu,uu,uu,uu,uu,uu,uu,uu,.asl 1 none,.d (iN p1),.d (iN p2),uu,uu,uu,uu,uu,uu,uu,uu,uu,uu,uu,uu,uu,uu,uu,uu,uu,uu,uu,uu,uu,uu,uu,uu,uu,uu,uu,uu,uu,uu,uu,uu],[(0,some (.var [.asl 2 none,.asl 3 none,.asl 4 none,.d (iN p3)])),(1,some (.arr (1,0) p4)),(2,some (.arr (5,0) p5)),(3,some (.arr (4,0) p6)),(4,some (.arr (3,0) p7))],5,[.ref 0 0 0]⟩
def ya (p0:List D) (p1 p2:Int) (p3 p4 p5:List D):Option Ret:=R 80 Try.f80 [((Go.Func.params Try.f80).toList.getD 0 0)] (xw Try.f80 4) ⟨[.ref 0 0 0,uu,uu,uu,uu,uu,uu,.asl 1 none,.asl 2 none,uu,uu,uu,uu,uu,uu,uu,uu,uu,uu,.d (.rs (5,0) p0),.d (iN p1),.d (iN p2),uu,uu,uu,uu,uu,uu,uu,uu,uu,uu,uu,uu,uu,uu,uu,uu,uu,uu,uu,uu,uu,uu,uu,uu,uu,uu,uu,uu,uu,uu,uu,uu,uu,uu,uu,uu,uu,uu,uu,uu,uu,uu,uu,uu,uu],[(0,some (.var [.asl 3 none])),(1,some (.arr (1,0) p3)),(2,some (.arr (1,0) p4)),(3,some (.arr (5,0) p5))],4,[.ref 0 0 0]⟩
def yR (p0 p1 p2 p3 p4 p5 p6 p7 p8:Int) (p9 p10 p11 p12:List D):Option Ret:=R 84 Try.f84 [((Go.Func.params Try.f84).toList.getD 0 0)] (xw Try.f84 1) ⟨[.ref 0 0 0,.d (iN p0),.d (iN p1),uu,uu,uu,uu,uu,uu,uu,uu,uu,uu,uu,uu,uu,uu,uu,uu,uu,uu,uu,uu,uu,uu,uu,uu,uu,uu,uu,uu,uu,uu,uu,uu,uu,uu,uu,uu,uu,uu,uu,uu,uu,uu,uu,uu,uu,uu,uu,uu,uu,uu,uu],[(0,some (.var [.asl 1 none,.d (iN p2),.d (iN p3),.d (iN p4),.d (iN p5),.d (iN p6),.d (iN p7),.d (iN p8),.d (.rs (5,0) p9),.d (.rs (4,0) p10),.d (.rs (3,0) p11)])),(1,some (.arr (5,0) p12))],2,[.ref 0 0 0]⟩
def yw (p0:List D) (p1 p2 p3:Int):Option Ret:=R 86 Try.f86 [] (xw Try.f86 2) ⟨[.d (.rs (1,0) p0),.d (.int .u8 p1),uu,uu,uu,uu,uu,.d (iN p2),.d (iN p3),uu,uu,uu,uu,uu,uu,uu,uu,uu,uu],[],0,[]⟩
def yn (p0:List D) (p1:ByteArray) (p2 p3:Int):Option Ret:=R 87 Try.f87 [] (xw Try.f87 2) ⟨[.d (.rs (1,0) p0),.d (.str p1),uu,uu,uu,uu,uu,.d (iN p2),.d (iN p3),uu,uu,uu,uu,uu,uu,uu,uu,uu,uu],[],0,[]⟩
def yv (p0:ByteArray) (p1:List D) (p2 p3:Int) (p4 p5 p6:List D):Option Ret:=R 88 Try.f88 [((Go.Func.params Try.f88).toList.getD 0 0)] (xw Try.f88 3) ⟨[.ref 0 0 0,.d (.str p0),.d (.rs (1,1) p1),uu,uu,uu,.d (iN p2),uu,uu,uu,uu,uu,uu,uu,uu,uu,uu,uu,uu,uu,uu,uu,uu,uu,uu,uu,uu,uu,uu,uu,uu,uu,uu,uu,uu,uu,uu,uu,uu,uu],[(0,some (.var [.asl 1 none,.asl 2 none,.asl 3 none,.d (iN p3)])),(1,some (.arr (5,0) p4)),(2,some (.arr (4,0) p5)),(3,some (.arr (3,0) p6))],4,[.ref 0 0 0]⟩
def zH (p0:List D) (p1 p2:Int) (p3 p4:List D):Option Ret:=R 90 Try.f90 [] (xw Try.f90 3) ⟨[uu,uu,.ref 0 0 0,uu,uu,.asl 1 none,uu,uu,uu,uu,uu,uu,uu,uu,.d (.rs (1,0) p0),.d (iN p1),.d (iN p2),uu,uu,uu,uu,uu,uu,uu,uu,uu,uu,uu,uu,uu,uu,uu,uu,uu,uu,uu,uu,uu,uu,uu,uu,uu,uu,uu,uu,uu,uu,uu,uu,uu,uu,uu,uu,uu,uu,uu,uu,uu,uu,uu,uu,uu],[(0,some (.var [.d (.rs (5,0) p3)])),(1,some (.arr (1,0) p4))],2,[]⟩
def yD (p0:Int) (p1 p2:List D):Option Ret:=R 90 Try.f90 [] (xw Try.f90 8) ⟨[uu,uu,.ref 0 0 0,uu,uu,.asl 1 none,uu,uu,.d (iN p0),uu,uu,uu,uu,uu,uu,uu,uu,uu,uu,uu,uu,uu,uu,uu,uu,uu,uu,uu,uu,uu,uu,uu,uu,uu,uu,uu,uu,uu,uu,uu,uu,uu,uu,uu,uu,uu,uu,uu,uu,uu,uu,uu,uu,uu,uu,uu,uu,uu,uu,uu,uu,uu],[(0,some (.var [.d (.rs (5,0) p1)])),(1,some (.arr (1,0) p2))],2,[]⟩
def yc (p0:Int) (p1 p2:List D) (p3 p4:Int) (p5:List D):Option Ret:=R 92 Try.f92 [((Go.Func.params Try.f92).toList.getD 0 0)] (xw Try.f92 2) ⟨[.ref 0 0 0,.d (iN p0),.d (.rs (1,0) p1),uu,uu,uu,uu,uu,uu,uu,uu,.d (.rs (1,0) p2),.d (iN p3),.d (iN p4),uu,uu,uu,uu,uu,uu,uu,uu,uu,uu,uu,uu,uu,uu,uu,uu,uu,uu,uu,uu,uu,uu,uu,uu,uu,uu,uu,uu,uu,uu,uu,uu,uu,uu,uu,uu,uu,uu,uu,uu,uu,uu,uu,uu,uu,uu,uu,uu,uu,uu,uu,uu,uu,uu,uu,uu,uu,uu,uu,uu,uu,uu,uu,uu,uu,uu,uu,uu,uu,uu,uu,uu,uu,uu],[(0,some (.var [.asl 1 none])),(1,some (.arr (5,0) p5))],2,[.ref 0 0 0]⟩
def xU (p0:List D) (p1 p2:Int) (p3 p4:List D):Option Ret:=R 102 Try.f102 [] (xw Try.f102 4) ⟨[uu,uu,uu,.mp 0,.asl 1 none,uu,uu,uu,uu,uu,uu,uu,.d (.rs (5,0) p0),.d (iN p1),.d (iN p2),uu,uu,uu,uu,uu,uu,uu,uu,uu,uu,uu,uu,uu,uu,uu,uu,uu,uu,uu,uu,uu,uu,uu,uu,uu,uu,uu,uu,uu,uu,uu,uu,uu,uu,uu,uu,uu,uu,uu,uu,uu,uu,uu,uu,uu,uu,uu],[(0,some (.mp [iN 0,iN 0,.str ⟨#[]⟩,iN 0,iN 0] p3)),(1,some (.arr (1,0) p4))],2,[]⟩
end
end Go.Eng
/-! the functions as the interpreter has them -/
namespace Go.Eng
open Go.Proofs Go.Proofs.Try
set_option maxRecDepth 100000
theorem Bl (p0:List D) (p1 p2:Int) (p3 p4:List D):xU p0 p1 p2 p3 p4 =
 br (decide (p2 < p1))
 (
 grd (decide (0 <= p2) && decide (p2 < ni p0.length)) (cz p0 p2.toNat fun a=>
 tk1 a fun b c d e f=>(br (b == 5)
 (
 grd (decide (0 <= e) && decide (e < ni p4.length)) (cz p4 e.toNat fun g=>
 asI .i64 g fun h=>grd (decide (0 <= f) && decide (f < ni p4.length)) (cz p4 f.toNat fun i=>
 asI .i64 i fun j=>br (!iw p3 [iN b,iN c,D.str d,iN h,iN j])
 (
 grd (!iw p3 [iN b,iN c,D.str d,iN h,iN j]) (nam (uH p3 [iN b,iN c,D.str d,iN h,iN j] p2) fun k=>
 grd (decide (ni (List.length (p4++[iN p2])) <= LIM)) (nam (p4++[iN p2]) fun l=>
 xU p0 p1 (w6 (p2 + 1)) k l)))
 (
 grd (decide (ni (List.length (p4++[iN (me p3 [iN b,iN c,D.str d,iN h,iN j])])) <= LIM)) (nam (p4++[iN (me p3 [iN b,iN c,D.str d,iN h,iN j])]) fun k=>
 xU p0 p1 (w6 (p2 + 1)) p3 k)))))
 (
 br (b == 6)
 (
 br (b == 6)
 (
 grd (decide (0 <= e) && decide (e < ni p4.length)) (cz p4 e.toNat fun g=>
 asI .i64 g fun h=>br (!iw p3 [iN b,iN c,D.str d,iN h,iN f])
 (
 grd (!iw p3 [iN b,iN c,D.str d,iN h,iN f]) (nam (uH p3 [iN b,iN c,D.str d,iN h,iN f] p2) fun i=>
 grd (decide (ni (List.length (p4++[iN p2])) <= LIM)) (nam (p4++[iN p2]) fun j=>
 xU p0 p1 (w6 (p2 + 1)) i j)))
 (
 grd (decide (ni (List.length (p4++[iN (me p3 [iN b,iN c,D.str d,iN h,iN f])])) <= LIM)) (nam (p4++[iN (me p3 [iN b,iN c,D.str d,iN h,iN f])]) fun i=>
 xU p0 p1 (w6 (p2 + 1)) p3 i))))
 (
 br (!iw p3 [iN b,iN c,D.str d,iN e,iN f])
 (
 grd (!iw p3 [iN b,iN c,D.str d,iN e,iN f]) (nam (uH p3 [iN b,iN c,D.str d,iN e,iN f] p2) fun g=>
 grd (decide (ni (List.length (p4++[iN p2])) <= LIM)) (nam (p4++[iN p2]) fun h=>
 xU p0 p1 (w6 (p2 + 1)) g h)))
 (
 grd (decide (ni (List.length (p4++[iN (me p3 [iN b,iN c,D.str d,iN e,iN f])])) <= LIM)) (nam (p4++[iN (me p3 [iN b,iN c,D.str d,iN e,iN f])]) fun g=>
 xU p0 p1 (w6 (p2 + 1)) p3 g))))
 (
 br (b == 7)
 (
 grd (decide (0 <= e) && decide (e < ni p4.length)) (cz p4 e.toNat fun g=>
 asI .i64 g fun h=>br (!iw p3 [iN b,iN c,D.str d,iN h,iN f])
 (
 grd (!iw p3 [iN b,iN c,D.str d,iN h,iN f]) (nam (uH p3 [iN b,iN c,D.str d,iN h,iN f] p2) fun i=>
 grd (decide (ni (List.length (p4++[iN p2])) <= LIM)) (nam (p4++[iN p2]) fun j=>
 xU p0 p1 (w6 (p2 + 1)) i j)))
 (
 grd (decide (ni (List.length (p4++[iN (me p3 [iN b,iN c,D.str d,iN h,iN f])])) <= LIM)) (nam (p4++[iN (me p3 [iN b,iN c,D.str d,iN h,iN f])]) fun i=>
 xU p0 p1 (w6 (p2 + 1)) p3 i))))
 (
 br (!iw p3 [iN b,iN c,D.str d,iN e,iN f])
 (
 grd (!iw p3 [iN b,iN c,D.str d,iN e,iN f]) (nam (uH p3 [iN b,iN c,D.str d,iN e,iN f] p2) fun g=>
 grd (decide (ni (List.length (p4++[iN p2])) <= LIM)) (nam (p4++[iN p2]) fun h=>
 xU p0 p1 (w6 (p2 + 1)) g h)))
 (
 grd (decide (ni (List.length (p4++[iN (me p3 [iN b,iN c,D.str d,iN e,iN f])])) <= LIM)) (nam (p4++[iN (me p3 [iN b,iN c,D.str d,iN e,iN f])]) fun g=>
 xU p0 p1 (w6 (p2 + 1)) p3 g))))))))
 (some ((.os (1,0) p4),[])):=by
 exact (xD _ _ _).trans (by kernel_rfl)
theorem Ja (a0_:ByteArray):V 35 [.str a0_] =
 br (jJ a0_ { data:=#[35,116] })
 (some ((.tup [.agg [iN (2),iN (1),.str ({ data:=#[] }),iN (0),iN (0)],.bool true]),[]))
 (
 br (jJ a0_ { data:=#[35,102] })
 (some ((.tup [.agg [iN (2),iN (0),.str ({ data:=#[] }),iN (0),iN (0)],.bool true]),[]))
 (
 br (decide (ni (ByteArray.size a0_) > 1))
 (
 grd (decide (0 <= 0) && decide (0 < ni (ByteArray.size a0_))) (br (bt a0_ (0) == 45)
 (
 grd (decide (0 <= 1) && decide (1 < ni (ByteArray.size a0_))) (iy V 59 [(.int .u8 (bt a0_ (1)))] fun a b=>
 asB a fun c=>unn b (br c
 (
 grd (cG (ByteArray.size a0_) (some (1)) none) (iy V 60 [(.str (ByteArray.extract a0_ (Int.toNat (1)) (ByteArray.size a0_))),iN (10)] fun d e=>
 tk9 d fun f g=>(unn e (br g
 (
 br (decide (f <= 1000000000))
 (
 br (decide (f > 0))
 (some ((.tup [(.agg [iN (3),(iN (w6 (-1 * f))),.str ({ data:=#[] }),iN (0),iN (0)]),.bool true]),[]))
 (some ((.tup [(.agg [iN (3),(iN (w6 (-1 * f))),.str ({ data:=#[] }),iN (0),iN (0)]),.bool false]),[])))
 (some ((.tup [(.agg [iN (3),(iN (w6 (-1 * f))),.str ({ data:=#[] }),iN (0),iN (0)]),.bool false]),[])))
 (some ((.tup [.agg [iN (4),iN (0),.str a0_,iN (0),iN (0)],.bool false]),[]))))))
 (
 iy V 60 [.str a0_,iN (10)] fun d e=>
 tk9 d fun f g=>(unn e (br g
 (
 br (decide (f <= 1000000000))
 (
 br (decide (f > 0))
 (some ((.tup [(.agg [iN (3),(iN (w6 (1 * f))),.str ({ data:=#[] }),iN (0),iN (0)]),.bool true]),[]))
 (some ((.tup [(.agg [iN (3),(iN (w6 (1 * f))),.str ({ data:=#[] }),iN (0),iN (0)]),.bool true]),[])))
 (some ((.tup [(.agg [iN (3),(iN (w6 (1 * f))),.str ({ data:=#[] }),iN (0),iN (0)]),.bool false]),[])))
 (
 iy V 45 [.str a0_] fun h i=>
 asB h fun j=>unn i (some ((.tup [.agg [iN (4),iN (0),.str a0_,iN (0),iN (0)],.bool j]),[])))))))))
 (
 iy V 60 [.str a0_,iN (10)] fun a b=>
 tk9 a fun c d=>(unn b (br d
 (
 br (decide (c <= 1000000000))
 (
 br (decide (c > 0))
 (some ((.tup [(.agg [iN (3),(iN (w6 (1 * c))),.str ({ data:=#[] }),iN (0),iN (0)]),.bool true]),[]))
 (some ((.tup [(.agg [iN (3),(iN (w6 (1 * c))),.str ({ data:=#[] }),iN (0),iN (0)]),.bool true]),[])))
 (some ((.tup [(.agg [iN (3),(iN (w6 (1 * c))),.str ({ data:=#[] }),iN (0),iN (0)]),.bool false]),[])))
 (
 iy V 45 [.str a0_] fun e f=>
 asB e fun g=>unn f (some ((.tup [.agg [iN (4),iN (0),.str a0_,iN (0),iN (0)],.bool g]),[]))))))))
 (
 iy V 60 [.str a0_,iN (10)] fun a b=>
 tk9 a fun c d=>(unn b (br d
 (
 br (decide (c <= 1000000000))
 (
 br (decide (c > 0))
 (some ((.tup [(.agg [iN (3),(iN (w6 (1 * c))),.str ({ data:=#[] }),iN (0),iN (0)]),.bool true]),[]))
 (some ((.tup [(.agg [iN (3),(iN (w6 (1 * c))),.str ({ data:=#[] }),iN (0),iN (0)]),.bool true]),[])))
 (some ((.tup [(.agg [iN (3),(iN (w6 (1 * c))),.str ({ data:=#[] }),iN (0),iN (0)]),.bool false]),[])))
 (
 iy V 45 [.str a0_] fun e f=>
 asB e fun g=>unn f (some ((.tup [.agg [iN (4),iN (0),.str a0_,iN (0),iN (0)],.bool g]),[])))))))):=by
 exact (xE Try.func35 rfl _).trans (by kernel_rfl)
theorem Ch (p0:Int) (p1:Bool) (p2 p3:List D):yA p0 p1 p2 p3 =
 grd (decide (0 <= p0) && decide (p0 < ni p2.length)) (cz p2 p0.toNat fun a=>
 asAgg a fun b=>cz b 0 fun c=>
 asI .i64 c fun d=>br (d == 5)
 (
 iy V 30 [.op [.rs (5,0) p2,.os (1,0) p3]] fun e f=>
 asB e fun g=>unc f fun h i=>Ah h fun j k=>(unn i (br (!g)
 (
 br (!p1)
 (
 iy V 54 [.op [.rs (5,0) j,.os (1,0) k],.str ({ data:=#[32] })] fun l m=>
 il l fun n=>unn n (unc m fun o p=>Ah o fun q r=>(unn p (grd (decide (0 <= p0) && decide (p0 < ni q.length)) (cz q p0.toNat fun s=>
 asAgg s fun t=>cz t 3 fun u=>
 asI .i64 u fun v=>iy V 29 [.op [.rs (5,0) q,.os (1,0) r],iN v] fun w x=>
 il w fun y=>unn y (unc x fun z A=>Ah z fun B C=>(unn A (grd (decide (0 <= p0) && decide (p0 < ni B.length)) (cz B p0.toNat fun E=>
 asAgg E fun F=>cz F 4 fun G=>
 asI .i64 G fun H=>yA H false B C)))))))))
 (
 grd (decide (0 <= p0) && decide (p0 < ni j.length)) (cz j p0.toNat fun l=>
 asAgg l fun m=>cz m 3 fun n=>
 asI .i64 n fun o=>iy V 29 [.op [.rs (5,0) j,.os (1,0) k],iN o] fun p q=>
 il p fun r=>unn r (unc q fun s t=>Ah s fun u v=>(unn t (grd (decide (0 <= p0) && decide (p0 < ni u.length)) (cz u p0.toNat fun w=>
 asAgg w fun x=>cz x 4 fun y=>
 asI .i64 y fun z=>yA z false u v)))))))
 (
 grd (decide (0 <= p0) && decide (p0 < ni j.length)) (cz j p0.toNat fun l=>
 asAgg l fun m=>cz m 0 fun n=>
 asI .i64 n fun o=>br (o != 1)
 (
 br (o != 5)
 (
 iy V 54 [.op [.rs (5,0) j,.os (1,0) k],.str ({ data:=#[32,46,32] })] fun p q=>
 il p fun r=>unn r (unc q fun s t=>Ah s fun u v=>(unn t (iy V 29 [.op [.rs (5,0) u,.os (1,0) v],iN p0] fun w x=>
 il w fun y=>unn y (unc x fun z A=>Ah z fun B C=>(unn A (some ((.tup []),[.op [.rs (5,0) B,.os (1,0) C]]))))))))
 (some ((.tup []),[.op [.rs (5,0) j,.os (1,0) k]])))
 (some ((.tup []),[.op [.rs (5,0) j,.os (1,0) k]])))))))
 (
 grd (decide (0 <= p0) && decide (p0 < ni p2.length)) (cz p2 p0.toNat fun e=>
 asAgg e fun f=>cz f 0 fun g=>
 asI .i64 g fun h=>br (h != 1)
 (
 br (h != 5)
 (
 iy V 54 [.op [.rs (5,0) p2,.os (1,0) p3],.str ({ data:=#[32,46,32] })] fun i j=>
 il i fun k=>unn k (unc j fun l m=>Ah l fun n o=>(unn m (iy V 29 [.op [.rs (5,0) n,.os (1,0) o],iN p0] fun p q=>
 il p fun r=>unn r (unc q fun s t=>Ah s fun u v=>(unn t (some ((.tup []),[.op [.rs (5,0) u,.os (1,0) v]]))))))))
 (some ((.tup []),[.op [.rs (5,0) p2,.os (1,0) p3]])))
 (some ((.tup []),[.op [.rs (5,0) p2,.os (1,0) p3]]))))):=by
 exact (xD _ _ _).trans (by kernel_rfl)
theorem DQ (p:List D) (m1 m2 m3 m4 m5 m6 m7:Int) (cp cl cd:List D) (s:ByteArray):V 74 [.op [.os (5,0) p,iN m1,iN m2,iN m3,iN m4,iN m5,iN m6,iN m7,.rs (5,0) cp,.rs (4,0) cl,.rs (3,0) cd],.str s] =
 iy V 23 [.agg [.rs (5,0) cp,.rs (4,0) cl,.rs (3,0) cd],.str s] fun a b=>
 asI .i64 a fun c=>unn b (br (decide (c >= 0))
 (
 grd (decide (0 <= c) && decide (c < ni cd.length)) (cz cd c.toNat fun d=>
 Qd d fun _ e f=>(iy V 37 [.op [.os (5,0) p],(.agg [iN (1),iN (0),.str ({ data:=#[] }),iN (0),iN (0)])] fun g h=>
 asI .i64 g fun i=>unc h fun j k=>mJ j fun l=>unc l fun m n=>iK (5,0) m fun o=>unn n (unn k (iy V 37 [.op [.os (5,0) o],(.agg [iN (6),(iN (w6 (w6 (8 * e) + f))),.str ({ data:=#[] }),iN i,iN (0)])] fun q r=>
 asI .i64 q fun t=>unc r fun u v=>mJ u fun w=>unc w fun x y=>iK (5,0) x fun z=>unn y (unn v (iy V 71 [.op [.os (5,0) z,iN m1,iN m2,iN m3,iN m4,iN m5,iN m6,iN m7,.rs (5,0) cp,.rs (4,0) cl,.rs (3,0) cd],iN t] fun A B=>
 il A fun C=>unn C (unc B fun E F=>tk6 E fun G H I J K L M N O P Q=>(unn F (some ((iN (0)),[.op [.os (5,0) G,iN H,iN I,iN J,iN K,iN L,iN M,iN N,.rs (5,0) O,.rs (4,0) P,.rs (3,0) Q]])))))))))))
 (
 iy V 85 [.str s] fun d e=>
 asI .i64 d fun f=>unn e (br (f == 0)
 (some ((iN (1)),[.op [.os (5,0) p,iN m1,iN m2,iN m3,iN m4,iN m5,iN m6,iN m7,.rs (5,0) cp,.rs (4,0) cl,.rs (3,0) cd]]))
 (
 iy V 37 [.op [.os (5,0) p],(.agg [iN (8),iN f,.str ({ data:=#[] }),iN (0),iN (0)])] fun g h=>
 asI .i64 g fun i=>unc h fun j k=>mJ j fun l=>unc l fun m n=>iK (5,0) m fun o=>unn n (unn k (iy V 71 [.op [.os (5,0) o,iN m1,iN m2,iN m3,iN m4,iN m5,iN m6,iN m7,.rs (5,0) cp,.rs (4,0) cl,.rs (3,0) cd],iN i] fun q r=>
 il q fun t=>unn t (unc r fun u v=>tk6 u fun w x y z A B C E F G H=>(unn v (some ((iN (0)),[.op [.os (5,0) w,iN x,iN y,iN z,iN A,iN B,iN C,iN E,.rs (5,0) F,.rs (4,0) G,.rs (3,0) H]])))))))))):=by
 exact (xE Try.func74 rfl _).trans (by kernel_rfl)
theorem Il (a0_0 a0_1 a0_2 a1_0:List D) (a1_1 a1_2 a1_3 a1_4 a1_5 a1_6 a1_7:Int):V 24 [.agg [.rs (5,0) a0_0,.rs (4,0) a0_1,.rs (3,0) a0_2],.agg [.rs (5,0) a1_0,iN a1_1,iN a1_2,iN a1_3,iN a1_4,iN a1_5,iN a1_6,iN a1_7]] =
 iy V 22 [.agg [.rs (5,0) a0_0,.rs (4,0) a0_1,.rs (3,0) a0_2]] fun a b=>
 asB a fun c=>unn b (br (!c)
 (some ((.bool false),[]))
 (
 iy V 15 [.agg [.rs (5,0) a1_0]] fun d e=>
 asB d fun f=>unn e (br (!f)
 (some ((.bool false),[]))
 (
 iy V 20 [.agg [.rs (5,0) a1_0],iN a1_2] fun g h=>
 asB g fun i=>unn h (br (!i)
 (some ((.bool false),[]))
 (
 iy V 20 [.agg [.rs (5,0) a1_0],iN a1_3] fun j k=>
 asB j fun l=>unn k (br (!l)
 (some ((.bool false),[]))
 (
 iy V 20 [.agg [.rs (5,0) a1_0],iN a1_4] fun m n=>
 asB m fun o=>unn n (br (!o)
 (some ((.bool false),[]))
 (
 br (a1_5 == 0)
 (
 iy V 48 [.agg [.rs (5,0) a0_0,.rs (4,0) a0_1,.rs (3,0) a0_2],iN a1_1] fun p q=>
 asB p fun r=>unn q (br r
 (
 br (a1_6 == 0)
 (some ((.bool (a1_7 == 0)),[]))
 (some ((.bool false),[])))
 (some ((.bool false),[]))))
 (
 br (a1_5 == 1)
 (
 iy V 48 [.agg [.rs (5,0) a0_0,.rs (4,0) a0_1,.rs (3,0) a0_2],iN a1_1] fun p q=>
 asB p fun r=>unn q (br r
 (
 iy V 39 [iN a1_6,iN (13),iN (19)] fun s t=>
 asB s fun u=>unn t (br u
 (
 br (a1_6 != 18)
 (
 iy V 20 [.agg [.rs (5,0) a1_0],iN a1_7] fun v w=>
 asB v fun x=>unn w (some ((.bool x),[])))
 (some ((.bool false),[])))
 (some ((.bool false),[]))))
 (some ((.bool false),[]))))
 (
 br (a1_5 == 2)
 (
 br (a1_1 == 0)
 (
 br (a1_6 == 0)
 (
 iy V 20 [.agg [.rs (5,0) a1_0],iN a1_7] fun p q=>
 asB p fun r=>unn q (some ((.bool r),[])))
 (some ((.bool false),[])))
 (some ((.bool false),[])))
 (
 br (a1_5 == 3)
 (
 br (a1_1 == 0)
 (
 iy V 39 [iN a1_6,iN (1),iN (7)] fun p q=>
 asB p fun r=>unn q (br r
 (some ((.bool (a1_7 == 0)),[]))
 (some ((.bool false),[]))))
 (some ((.bool false),[])))
 (some ((.bool false),[]))))))))))))))):=by
 exact (xE Try.func24 rfl _).trans (by kernel_rfl)
theorem Cz (p0:ByteArray) (p1:Int) (p2 p3 p4:List D):xQ p0 p1 p2 p3 p4 =
 br (decide (p1 < ni (ByteArray.size p0)))
 (
 grd (decide (0 <= p1) && decide (p1 < ni (ByteArray.size p0))) (br (bt p0 p1 == 32)
 (xQ p0 (w6 (p1 + 1)) p2 p3 p4)
 (
 br (bt p0 p1 == 40)
 (grd (decide
 (ni
 (List.length
 (p3 ++
 [D.os
 (TypeInfo.size (Tables.types (Program.toTables Try.prog))[3],
 match qh Try.prog (3) with
 | true=>0
 | false=>1)
 []])) <=
 LIM)) (nam (p3 ++
 [D.os
 (TypeInfo.size (Tables.types (Program.toTables Try.prog))[3],
 match qh Try.prog (3) with
 | true=>0
 | false=>1)
 []]) fun a=>
 grd (decide (ni (List.length (p4++[iN p1])) <= LIM)) (nam (p4++[iN p1]) fun b=>
 xQ p0 (w6 (p1 + 1)) p2 a b)))
 (
 br (bt p0 p1 == 41)
 (
 iy V 33 [.op [.os (5,0) p2,.os (1,2) p3,.os (1,0) p4]] fun a b=>
 asB a fun c=>unc b fun d e=>JQ d fun f g h=>(unn e (br (!c)
 (some ((.tup [iN (5),iN p1]),[.op [.os (5,0) f,.os (1,2) g,.os (1,0) h]]))
 (xQ p0 (w6 (p1 + 1)) f g h))))
 (
 iy V 34 [.int .u8 (bt p0 p1)] fun a b=>
 asB a fun c=>unn b (br (!c)
 (some ((.tup [iN (2),iN p1]),[.op [.os (5,0) p2,.os (1,2) p3,.os (1,0) p4]]))
 (yE p0 p1 p1 p2 p3 p4)))))))
 (
 br (decide (ni p4.length > 0))
 (
 grd (decide (0 <= w6 (ni p4.length - 1)) && decide (w6 (ni p4.length - 1) < ni p4.length)) (cz p4 (Int.toNat (w6 (ni p4.length - 1))) fun a=>
 asI .i64 a fun b=>some ((.tup [iN (4),iN b]),[.op [.os (5,0) p2,.os (1,2) p3,.os (1,0) p4]])))
 (some ((.tup [iN (0),(iN (ni (ByteArray.size p0)))]),[.op [.os (5,0) p2,.os (1,2) p3,.os (1,0) p4]]))):=by
 exact (xD _ _ _).trans (by kernel_rfl)
theorem DC (p l d:List D) (h:Int) (s:ByteArray) (n x:List D):V 43 [.op [.os (5,0) p,.os (4,0) l,.os (3,0) d,iN h],.str s,.rs (1,0) n,.rs (1,0) x] =
 iy V 23 [.agg [.rs (5,0) p,.rs (4,0) l,.rs (3,0) d],.str s] fun a b=>
 asI .i64 a fun c=>unn b (br (decide (c >= 0))
 (
 iy V 61 [.op [.os (5,0) p,.os (4,0) l,.os (3,0) d,iN h],iN (2)] fun e f=>
 il e fun g=>unn g (unc f fun i j=>tk2 i fun k m o q=>(unn j (some ((.tup []),[.op [.os (5,0) k,.os (4,0) m,.os (3,0) o,iN q]])))))
 (
 grd (decide (ni (List.length (d++[D.agg [D.str s,iN (ni l.length),iN (ni n.length)]])) <= LIM)) (nam (d++[D.agg [D.str s,iN (ni l.length),iN (ni n.length)]]) fun e=>
 iy V 64 [.op [.os (5,0) p,.os (4,0) l,.os (3,0) e,iN h],.rs (1,0) x,(.rs (1,1) [.rs (1,0) n])] fun f g=>
 il f fun i=>unn i (unc g fun j k=>tk2 j fun m o q r=>(unn k (iy V 65 [.op [.os (5,0) m,.os (4,0) o,.os (3,0) q,iN r],(.agg [iN (8),iN (0),iN (0),.str ({ data:=#[] })])] fun t u=>
 asI .i64 t fun _=>unc u fun v w=>tk2 v fun y z A B=>(unn w (some ((.tup []),[.op [.os (5,0) y,.os (4,0) z,.os (3,0) A,iN B]]))))))))):=by
 exact (xE Try.func43 rfl _).trans (by kernel_rfl)
theorem zI (p0 p1 p2 p3 p4 p5 p6 p7 p8:Int) (p9 p10 p11 p12:List D):yR p0 p1 p2 p3 p4 p5 p6 p7 p8 p9 p10 p11 p12 =
 br (decide (p1 > 0))
 (
 grd (decide (0 <= p0) && decide (p0 < ni p12.length)) (cz p12 p0.toNat fun a=>
 asAgg a fun b=>cz b 0 fun c=>
 asI .i64 c fun d=>br (d != 5)
 (some ((.tup [iN (0),.bool false]),[.op [.os (5,0) p12,iN p2,iN p3,iN p4,iN p5,iN p6,iN p7,iN p8,.rs (5,0) p9,.rs (4,0) p10,.rs (3,0) p11]]))
 (
 grd (decide (0 <= p0) && decide (p0 < ni p12.length)) (cz p12 p0.toNat fun e=>
 asAgg e fun f=>cz f 4 fun g=>
 asI .i64 g fun h=>yR h (w6 (p1 - 1)) p2 p3 p4 p5 p6 p7 p8 p9 p10 p11 p12))))
 (
 grd (decide (0 <= p0) && decide (p0 < ni p12.length)) (cz p12 p0.toNat fun a=>
 asAgg a fun b=>cz b 0 fun c=>
 asI .i64 c fun d=>br (d != 5)
 (some ((.tup [iN (0),.bool false]),[.op [.os (5,0) p12,iN p2,iN p3,iN p4,iN p5,iN p6,iN p7,iN p8,.rs (5,0) p9,.rs (4,0) p10,.rs (3,0) p11]]))
 (
 grd (decide (0 <= p0) && decide (p0 < ni p12.length)) (cz p12 p0.toNat fun e=>
 asAgg e fun f=>cz f 3 fun g=>
 asI .i64 g fun h=>some ((.tup [iN h,.bool true]),[.op [.os (5,0) p12,iN p2,iN p3,iN p4,iN p5,iN p6,iN p7,iN p8,.rs (5,0) p9,.rs (4,0) p10,.rs (3,0) p11]]))))):=by
 exact (xD _ _ _).trans (by kernel_rfl)
theorem AV (p o t:List D) :V 33 [.op [.os (5,0) p,.os (1,2) o,.os (1,0) t]] =
 br (w6 (ni o.length - 1) == 0)
 (some ((.bool false),[.op [.os (5,0) p,.os (1,2) o,.os (1,0) t]]))
 (
 grd (decide (0 <= w6 (ni o.length - 1)) && decide (w6 (ni o.length - 1) < ni o.length)) (cz o (Int.toNat (w6 (ni o.length - 1))) fun a=>
 iK (1,0) a fun b=>iy V 57 [.op [.os (5,0) p],.rs (1,0) b] fun c d=>
 asI .i64 c fun e=>unc d fun f g=>mJ f fun h=>unc h fun i j=>iK (5,0) i fun k=>unn j (unn g (grd (cG (List.length (List.set o (Int.toNat (w6 (ni o.length - 1))) D.dead)) none (some (w6 (ni o.length - 1)))) (grd (cG t.length none (some (w6 (ni t.length - 1)))) (iy V 36 [(.op [.os (5,0) k,(.os (1,2) (part (List.set o (Int.toNat (w6 (ni o.length - 1))) D.dead) (some (0,Int.toNat (w6 (ni o.length - 1)))))),(.os (1,0) (part t (some (0,Int.toNat (w6 (ni t.length - 1))))))]),iN e] fun l m=>
 il l fun n=>unn n (unc m fun q r=>JQ q fun s u v=>(unn r (some ((.bool true),[.op [.os (5,0) s,.os (1,2) u,.os (1,0) v]])))))))))):=by
 exact (xE Try.func33 rfl _).trans (by kernel_rfl)
theorem Gh (p o t:List D) (v:Int):V 36 [.op [.os (5,0) p,.os (1,2) o,.os (1,0) t],iN v] =
 grd (decide (0 <= w6 (ni o.length - 1)) && decide (w6 (ni o.length - 1) < ni o.length)) (cz o (Int.toNat (w6 (ni o.length - 1))) fun a=>
 iK (1,0) a fun b=>grd (decide (ni (List.length (b++[iN v])) <= LIM)) (nam (b++[iN v]) fun c=>
 grd (decide (0 <= w6 (ni o.length - 1)) && decide (w6 (ni o.length - 1) < ni (List.length (List.set o (Int.toNat (w6 (ni o.length - 1))) D.dead)))) (cz (List.set o (Int.toNat (w6 (ni o.length - 1))) D.dead) (Int.toNat (w6 (ni o.length - 1))) fun _=>
 nam (List.set (List.set o (Int.toNat (w6 (ni o.length - 1))) D.dead) (Int.toNat (w6 (ni o.length - 1)))
 (D.os
 (TypeInfo.size (Tables.types (Program.toTables Try.prog))[3],
 match qh Try.prog (3) with
 | true=>0
 | false=>1)
 c)) fun d=>
 some ((.tup []),[.op [.os (5,0) p,.os (1,2) d,.os (1,0) t]])))):=by
 exact (xE Try.func36 rfl _).trans (by kernel_rfl)
theorem I7 (a0_:Int):V 91 [iN a0_] =
 iy V 39 [iN a0_,iN (1),iN (19)] fun a b=>
 asB a fun c=>unn b (br (!c)
 (some ((iN (-1)),[]))
 (
 grd (decide (0 <= w6 (a0_ - 1)) && decide (w6 (a0_ - 1) < ni 19)) (cz ([iN (2),iN (2),iN (2),iN (2),iN (2),iN (2),iN (1),iN (1),iN (1),iN (1),iN (2),iN (1),iN (1),iN (0),iN (2),iN (0),iN (1),iN (1),iN (1)]) (Int.toNat (w6 (a0_ - 1))) fun d=>
 asI .i64 d fun e=>some ((iN e),[])))):=by
 exact (xE Try.func91 rfl _).trans (by kernel_rfl)
theorem Gj (a0_:Int):V 14 [iN a0_] =
 br (decide (a0_ < 0))
 (
 iy V 14 [(iN (w6 (0 - a0_)))] fun a b=>
 asS a fun c=>unn b (grd (decide (ni (ByteArray.size { data:=#[45] } + ByteArray.size c) <= LIM)) (some ((.str ({ data:=#[45] }++c)),[]))))
 (
 br (decide (a0_ < 10))
 (gb ([D.int IntKind.u8 (IntKind.wrap IntKind.u8 (w6 (48 + a0_)))]) fun a=>some ((.str a),[]))
 (
 grd (!decide (10 = 0)) (iy V 14 [(iN (w6 (Int.tdiv a0_ (10))))] fun a b=>
 asS a fun c=>unn b (grd (!decide (10 = 0)) (gb ([D.int IntKind.u8 (IntKind.wrap IntKind.u8 (w6 (48 + Int.tmod a0_ (10))))]) fun d=>grd (decide (ni (ByteArray.size c + ByteArray.size d) <= LIM)) (some ((.str (c++d)),[]))))))):=by
 exact (xE Try.func14 rfl _).trans (by kernel_rfl)
theorem J6 (a0_0 a1_:List D):V 9 [.agg [.rs (5,0) a0_0],.rs (1,0) a1_] =
 iy V 15 [.agg [.rs (5,0) a0_0]] fun a b=>
 asB a fun c=>unn b (br (!c)
 (some ((.tup [.agg [.os (5,0) [],.os (4,0) [],.os (3,0) []],iN (3),iN (0)]),[]))
 (
 iy V 18 [.rs (1,0) a1_,(.fn 19 [(.bp [.rs (5,0) a0_0])])] fun d e=>
 asB d fun f=>unn e (br f
 (some ((.tup [.agg [.os (5,0) [],.os (4,0) [],.os (3,0) []],iN (3),iN (0)]),[]))
 (
 iy V 16 [.agg [.rs (5,0) a0_0]] fun g h=>
 asAgg g fun i=>unc i fun j k=>iK (5,0) j fun l=>unn k (unn h (Dp a1_ a1_ (ni a1_.length) (0) (0) l)))))):=by
 exact (xE Try.func9 rfl _).trans (by kernel_rfl)
theorem DD (p l d:List D) (h x:Int):V 41 [.op [.os (5,0) p,.os (4,0) l,.os (3,0) d,iN h],iN x] =
 grd (decide (0 <= x) && decide (x < ni p.length)) (cz p x.toNat fun a=>
 tk1 a fun b _ c _ _=>(some ((.tup [.str c,.bool (b == 4)]),[.op [.os (5,0) p,.os (4,0) l,.os (3,0) d,iN h]]))):=by
 exact (xE Try.func41 rfl _).trans (by kernel_rfl)
theorem Gg (a0_0:List D) (a0_1 a0_2 a0_3 a0_4 a0_5 a0_6 a0_7:Int):V 26 [.agg [.rs (5,0) a0_0,iN a0_1,iN a0_2,iN a0_3,iN a0_4,iN a0_5,iN a0_6,iN a0_7]] =
 iy V 16 [.agg [.rs (5,0) a0_0]] fun a b=>
 asAgg a fun c=>unc c fun d e=>iK (5,0) d fun f=>unn e (unn b (some ((.agg [.os (5,0) f,iN a0_1,iN a0_2,iN a0_3,iN a0_4,iN a0_5,iN a0_6,iN a0_7]),[]))):=by
 exact (xE Try.func26 rfl _).trans (by kernel_rfl)
theorem Lf (a0_0 a0_1 a0_2:List D):V 22 [.agg [.rs (5,0) a0_0,.rs (4,0) a0_1,.rs (3,0) a0_2]] =
 iy V 15 [.agg [.rs (5,0) a0_0]] fun a b=>
 asB a fun c=>unn b (br (!c)
 (some ((.bool false),[]))
 (
 br (decide (ni a0_1.length > 400))
 (some ((.bool false),[]))
 (
 br (decide (ni a0_2.length > 20))
 (some ((.bool false),[]))
 (z5 (ni a0_1.length) (0) a0_0 a0_1 a0_2)))):=by
 exact (xE Try.func22 rfl _).trans (by kernel_rfl)
theorem Iq (p:List D) (a b:Int):V 75 [.op [.os (5,0) p],iN a,iN b] =
 iy V 37 [.op [.os (5,0) p],(.agg [iN (5),iN (0),.str ({ data:=#[] }),iN a,iN b])] fun c d=>
 asI .i64 c fun e=>unc d fun f g=>mJ f fun h=>unc h fun i j=>iK (5,0) i fun k=>unn j (unn g (some ((iN e),[.op [.os (5,0) k]]))):=by
 exact (xE Try.func75 rfl _).trans (by kernel_rfl)
theorem BQ (p0:ByteArray) (p1 p2:Int):zo p0 p1 p2 =
 br (decide (p2 < p1))
 (
 grd (decide (0 <= p2) && decide (p2 < ni (ByteArray.size p0))) (iy V 58 [.int .u8 (bt p0 p2)] fun a b=>
 asB a fun c=>unn b (br (!c)
 (some ((.bool false),[]))
 (zo p0 p1 (w6 (p2 + 1))))))
 (some ((.bool true),[])):=by
 exact (xD _ _ _).trans (by kernel_rfl)
theorem Kg (a0_0 a1_:List D):V 66 [.agg [.rs (5,0) a0_0],.rs (1,0) a1_] =
 iy V 15 [.agg [.rs (5,0) a0_0]] fun a b=>
 asB a fun c=>unn b (br c
 (
 iy V 18 [.rs (1,0) a1_,(.fn 79 [(.bp [.rs (5,0) a0_0])])] fun d e=>
 asB d fun f=>unn e (some ((.bool (!f)),[])))
 (some ((.bool false),[]))):=by
 exact (xE Try.func66 rfl _).trans (by kernel_rfl)
theorem Li (a0_:ByteArray):V 85 [.str a0_] =
 iy V 93 [] fun a b=>
 iK (1,0) a fun c=>unn b (iy V 87 [.rs (1,0) c,.str a0_] fun d e=>
 asI .i64 d fun f=>unn e (some ((iN (w6 (f + 1))),[]))):=by
 exact (xE Try.func85 rfl _).trans (by kernel_rfl)
theorem FK (p o:List D) (s:ByteArray):V 54 [.op [.rs (5,0) p,.os (1,0) o],.str s] =
 grd (decide (ni (List.length (o++gx s)) <= LIM)) (nam (o++gx s) fun a=>
 some ((.tup []),[.op [.rs (5,0) p,.os (1,0) a]])):=by
 exact (xE Try.func54 rfl _).trans (by kernel_rfl)
theorem Lq (a0_ a1_ a2_:Int):V 39 [iN a0_,iN a1_,iN a2_] =
 br (decide (a0_ >= a1_))
 (some ((.bool (decide (a0_ <= a2_))),[]))
 (some ((.bool false),[])):=by
 exact (xE Try.func39 rfl _).trans (by kernel_rfl)
theorem NA (r:Int) (p:List D):V 19 [iN r,.bp [.rs (5,0) p]] =
 iy V 20 [.agg [.rs (5,0) p],iN r] fun a b=>
 asB a fun c=>unn b (some ((.bool (!c)),[])):=by
 exact (xE Try.func19 rfl _).trans (by kernel_rfl)
theorem CK (a0_:List D):V 69 [.os (1,0) a0_] =
 yx (0) (w6 (ni a0_.length - 1)) a0_:=by
 exact (xE Try.func69 rfl _).trans (by kernel_rfl)
theorem FC (l p:List D):V 38 [.rs (1,0) l,.fn 79 [.bp [.rs (5,0) p]]] =
 y0 l p (ni l.length) (0):=by
 exact (xE Try.func38 rfl _).trans (by kernel_rfl)
theorem J7 (a0_0:List D):V 102 [.agg [.rs (5,0) a0_0]] =
 xU a0_0 (ni a0_0.length) (0) [] []:=by
 exact (xE Try.func102 rfl _).trans (by kernel_rfl)

end Go.Eng
/-! bytes,texts,digits: plain facts -/
namespace Go.Eng
noncomputable section

def mk (l : List UInt8) : ByteArray := ⟨l.toArray⟩
theorem xP (l : List UInt8) : (mk l).size = l.length := by simp [mk,ByteArray.size]
theorem yO (a b : List UInt8) : mk a ++ mk b = mk (a ++ b) := by
 apply ByteArray.ext
 simp [mk]
theorem LD (l : List UInt8) : (mk l).data.toList = l := by simp [mk]
theorem QN (s : ByteArray) : mk s.data.toList = s := by
 apply ByteArray.ext
 simp [mk]
theorem SY {a b : List UInt8} : mk a = mk b ↔ a = b := by
 constructor
 ·intro h
  have := congrArg (fun s => s.data.toList) h
  simpa [LD] using this
 ·rintro rfl; rfl
theorem Ik (s : ByteArray) : ∀ (k i : Nat) (acc : List UInt8),k = s.size - i -> ByteArray.toList.loop s i acc = acc.reverse ++ s.data.toList.drop i
 | 0,i,acc,h => by
  unfold ByteArray.toList.loop
  have hs : s.data.toList.length = s.size := by rw [Array.length_toList]; rfl
  rw [if_neg (by omega),List.drop_of_length_le (by omega),List.append_nil]
 | k + 1,i,acc,h => by
  unfold ByteArray.toList.loop
  have hs : s.data.toList.length = s.size := by rw [Array.length_toList]; rfl
  rw [if_pos (by omega),Ik s k (i + 1) _ (by omega)]
  have hi : i < s.data.toList.length := by omega
  rw [List.drop_eq_getElem_cons hi]
  have hi' : i < s.data.size := by simpa using hi
  have hg : s.get! i = s.data.toList[i] := by
   show s.data[i]! = _
   rw [getElem!_pos s.data i hi',Array.getElem_toList]
  rw [hg]
  simp
theorem Ij (s : ByteArray) : s.toList = s.data.toList := by
 have := Ik s s.size 0 [] (by omega)
 rw [List.reverse_nil,List.nil_append,List.drop_zero] at this
 exact this
theorem AM (x y : ByteArray) : jJ x y = decide (x = y) := by
 unfold jJ
 rw [Ij,Ij]
 by_cases h : x = y
 ·subst h; simp
 ·have h2 : ¬ x.data.toList = y.data.toList := by
   intro e; apply h; rw [<- QN x,<- QN y,e]
  rw [decide_eq_false h]
  exact beq_eq_false_iff_ne.2 h2
theorem JO (a b : List UInt8) : jJ (mk a) (mk b) = decide (a = b) := by
 rw [AM]; simp only [SY]
abbrev eU (b : UInt8) : D := .int .u8 (b.toNat : Int)
theorem GY {l : List UInt8} {i : Nat} {x : UInt8} (h : l[i]? = some x) : bt (mk l) (i : Int) = (x.toNat : Int) := by
 simp only [bt,LD,Int.toNat_natCast]
 rw [List.getD_eq_getElem?_getD,h]; rfl
theorem FM (l : List UInt8) (a b : Nat) : (mk l).extract a b = mk ((l.drop a).take (b - a)) := by
 apply ByteArray.ext
 simp [mk,ByteArray.data_extract,List.extract_eq_take_drop]
theorem Pq (l : List UInt8) : gx (mk l) = l.map eU := by simp [gx,LD]
theorem Jt {R : Type} (l : List UInt8) (K : ByteArray -> Option R) : gb (l.map eU) K = K (mk l) := by
 have hm : ∀ (f : D -> Option UInt8),(∀ x : UInt8,f (eU x) = some x) -> ∀ l : List UInt8,(l.map eU).mapM f = some l := by
  intro f hf l
  induction l with
  | nil => rfl
  | cons x l ih => rw [List.map_cons,List.mapM_cons,hf,ih]; rfl
 unfold gb
 rw [hm _ (fun x => by simp [])]; rfl
theorem Po {n : Int} (h0 : 0 <= n) (h1 : n < 256) : IntKind.wrap .u8 n = n := by
 simp [IntKind.wrap,IntKind.bits,IntKind.signed]; omega

def BH (n : Nat) : List UInt8 := if n < 10 then [UInt8.ofNat (48 + n)] else BH (n / 10) ++ [UInt8.ofNat (48 + n % 10)]
termination_by n
def zw (n : Int) : List UInt8 := if n < 0 then 45 :: BH n.natAbs else BH n.natAbs
theorem y5 {n : Nat} (h : n < 10) : BH n = [UInt8.ofNat (48 + n)] := by rw [BH,if_pos h]
theorem Az {n : Nat} (h : ¬ n < 10) : BH n = BH (n / 10) ++ [UInt8.ofNat (48 + n % 10)] := by rw [BH,if_neg h]
theorem Gc : ∀ (k n : Nat),n < 10 ^ (k + 1) -> (BH n).length <= k + 1
 | 0,n,h => by rw [y5 (by simpa using h)]; simp
 | k + 1,n,h => by
  by_cases h10 : n < 10
  ·rw [y5 h10]; simp
  ·rw [Az h10]
   have := Gc k (n / 10) (by rw [Nat.pow_succ] at h; omega)
   simp; omega
theorem I4 (n : Nat) : 0 < (BH n).length := by
 by_cases h10 : n < 10
 ·rw [y5 h10]; simp
 ·rw [Az h10]; simp
theorem Lt {n : Int} (h0 : 0 <= n) (h1 : n < 10) : Utf8.encode (48 + n) = mk [UInt8.ofNat (48 + n).toNat] := by
 obtain ⟨k,rfl⟩ := Int.eq_ofNat_of_zero_le h0
 have : k = 0 \/ k = 1 \/ k = 2 \/ k = 3 \/ k = 4 \/ k = 5 \/ k = 6 \/ k = 7 \/ k = 8 \/ k = 9 := by omega
 rcases this with rfl | rfl | rfl | rfl | rfl | rfl | rfl | rfl | rfl | rfl <;> rfl
end
end Go.Eng
/-! the functions as the interpreter has them -/
namespace Go.Eng
open Go.Proofs Go.Proofs.Try
set_option maxRecDepth 100000
theorem y8 (p l d:List D) (h:Int) (s:ByteArray) (x e:List D):V 89 [.op [.os (5,0) p,.os (4,0) l,.os (3,0) d,iN h],.str s,.rs (1,0) x,.rs (1,1) e] =
 br (jJ s { data:=#[113,117,111,116,101] })
 (
 br (ni x.length == 2)
 (
 grd (decide (0 <= 1) && decide (1 < ni x.length)) (cz x 1 fun a=>
 asI .i64 a fun b=>iy V 65 [.op [.os (5,0) p,.os (4,0) l,.os (3,0) d,iN h],(.agg [iN (1),iN b,iN (0),.str ({ data:=#[] })])] fun c f=>
 asI .i64 c fun _=>unc f fun g i=>tk2 g fun j k m n=>(unn i (some ((.tup []),[.op [.os (5,0) j,.os (4,0) k,.os (3,0) m,iN n]])))))
 (
 br (jJ s { data:=#[105,102] })
 (
 br (ni x.length == 4)
 (
 iy V 94 [.op [.os (5,0) p,.os (4,0) l,.os (3,0) d,iN h],.rs (1,0) x,.rs (1,1) e] fun a b=>
 il a fun c=>unn c (unc b fun f g=>tk2 f fun i j k m=>(unn g (some ((.tup []),[.op [.os (5,0) i,.os (4,0) j,.os (3,0) k,iN m]])))))
 (
 br (jJ s { data:=#[100,111] })
 (
 br (decide (ni x.length > 1))
 (
 grd (cG x.length (some (1)) none) (iy V 64 [.op [.os (5,0) p,.os (4,0) l,.os (3,0) d,iN h],(.rs (1,0) (vi x (1))),.rs (1,1) e] fun a b=>
 il a fun c=>unn c (unc b fun f g=>tk2 f fun i j k m=>(unn g (some ((.tup []),[.op [.os (5,0) i,.os (4,0) j,.os (3,0) k,iN m]]))))))
 (
 br (jJ s { data:=#[102,110] })
 (
 br (decide (ni x.length > 2))
 (
 grd (decide (0 <= 1) && decide (1 < ni x.length)) (cz x 1 fun a=>
 asI .i64 a fun b=>iy V 40 [.op [.os (5,0) p],iN b] fun c f=>
 tk3 c fun g i=>(unc f fun j k=>mJ j fun m=>unc m fun n o=>iK (5,0) n fun q=>unn o (unn k (br (!i)
 (
 iy V 61 [.op [.os (5,0) q,.os (4,0) l,.os (3,0) d,iN h],iN (1)] fun r t=>
 il r fun u=>unn u (unc t fun v w=>tk2 v fun y z A B=>(unn w (some ((.tup []),[.op [.os (5,0) y,.os (4,0) z,.os (3,0) A,iN B]])))))
 (
 iy V 63 [.op [.os (5,0) q,.os (4,0) l,.os (3,0) d,iN h],.rs (1,0) g] fun r t=>
 tk4 r fun u v=>(unc t fun w y=>tk2 w fun z A B C=>(unn y (br (v != 0)
 (
 iy V 61 [.op [.os (5,0) z,.os (4,0) A,.os (3,0) B,iN C],iN v] fun E F=>
 il E fun G=>unn G (unc F fun H I=>tk2 H fun J K L M=>(unn I (some ((.tup []),[.op [.os (5,0) J,.os (4,0) K,.os (3,0) L,iN M]])))))
 (
 grd (cG x.length (some (2)) none) (iy V 95 [.op [.os (5,0) z,.os (4,0) A,.os (3,0) B,iN C],.rs (1,0) u,(.rs (1,0) (vi x (2))),.rs (1,1) e] fun E F=>
 il E fun G=>unn G (unc F fun H I=>tk2 H fun J K L M=>(unn I (some ((.tup []),[.op [.os (5,0) J,.os (4,0) K,.os (3,0) L,iN M]])))))))))))))))
 (
 br (jJ s { data:=#[108,101,116] })
 (
 br (decide (ni x.length > 3))
 (
 grd (cG x.length (some (1)) (some (2))) (iy V 63 [.op [.os (5,0) p,.os (4,0) l,.os (3,0) d,iN h],(.rs (1,0) (vi (vh x (2)) (1)))] fun a b=>
 tk4 a fun c f=>(unc b fun g i=>tk2 g fun j k m n=>(unn i (br (f != 0)
 (
 iy V 61 [.op [.os (5,0) j,.os (4,0) k,.os (3,0) m,iN n],iN f] fun o q=>
 il o fun r=>unn r (unc q fun t u=>tk2 t fun v w y z=>(unn u (some ((.tup []),[.op [.os (5,0) v,.os (4,0) w,.os (3,0) y,iN z]])))))
 (
 grd (cG x.length (some (3)) none) (iy V 95 [.op [.os (5,0) j,.os (4,0) k,.os (3,0) m,iN n],.rs (1,0) c,(.rs (1,0) (vi x (3))),.rs (1,1) e] fun o q=>
 il o fun r=>unn r (unc q fun t u=>tk2 t fun v w y z=>(unn u (grd (decide (0 <= 2) && decide (2 < ni x.length)) (cz x 2 fun A=>
 asI .i64 A fun B=>iy V 78 [.op [.os (5,0) v,.os (4,0) w,.os (3,0) y,iN z],iN B,.rs (1,1) e] fun C E=>
 il C fun F=>unn F (unc E fun G H=>tk2 G fun I J K L=>(unn H (iy V 65 [.op [.os (5,0) I,.os (4,0) J,.os (3,0) K,iN L],(.agg [iN (7),iN (0),iN (1),.str ({ data:=#[] })])] fun M N=>
 asI .i64 M fun _=>unc N fun O P=>tk2 O fun Q R S T=>(unn P (some ((.tup []),[.op [.os (5,0) Q,.os (4,0) R,.os (3,0) S,iN T]])))))))))))))))))
 (
 iy V 61 [.op [.os (5,0) p,.os (4,0) l,.os (3,0) d,iN h],iN (1)] fun a b=>
 il a fun c=>unn c (unc b fun f g=>tk2 f fun i j k m=>(unn g (some ((.tup []),[.op [.os (5,0) i,.os (4,0) j,.os (3,0) k,iN m]]))))))
 (
 iy V 61 [.op [.os (5,0) p,.os (4,0) l,.os (3,0) d,iN h],iN (1)] fun a b=>
 il a fun c=>unn c (unc b fun f g=>tk2 f fun i j k m=>(unn g (some ((.tup []),[.op [.os (5,0) i,.os (4,0) j,.os (3,0) k,iN m]])))))))
 (
 br (jJ s { data:=#[108,101,116] })
 (
 br (decide (ni x.length > 3))
 (
 grd (cG x.length (some (1)) (some (2))) (iy V 63 [.op [.os (5,0) p,.os (4,0) l,.os (3,0) d,iN h],(.rs (1,0) (vi (vh x (2)) (1)))] fun a b=>
 tk4 a fun c f=>(unc b fun g i=>tk2 g fun j k m n=>(unn i (br (f != 0)
 (
 iy V 61 [.op [.os (5,0) j,.os (4,0) k,.os (3,0) m,iN n],iN f] fun o q=>
 il o fun r=>unn r (unc q fun t u=>tk2 t fun v w y z=>(unn u (some ((.tup []),[.op [.os (5,0) v,.os (4,0) w,.os (3,0) y,iN z]])))))
 (
 grd (cG x.length (some (3)) none) (iy V 95 [.op [.os (5,0) j,.os (4,0) k,.os (3,0) m,iN n],.rs (1,0) c,(.rs (1,0) (vi x (3))),.rs (1,1) e] fun o q=>
 il o fun r=>unn r (unc q fun t u=>tk2 t fun v w y z=>(unn u (grd (decide (0 <= 2) && decide (2 < ni x.length)) (cz x 2 fun A=>
 asI .i64 A fun B=>iy V 78 [.op [.os (5,0) v,.os (4,0) w,.os (3,0) y,iN z],iN B,.rs (1,1) e] fun C E=>
 il C fun F=>unn F (unc E fun G H=>tk2 G fun I J K L=>(unn H (iy V 65 [.op [.os (5,0) I,.os (4,0) J,.os (3,0) K,iN L],(.agg [iN (7),iN (0),iN (1),.str ({ data:=#[] })])] fun M N=>
 asI .i64 M fun _=>unc N fun O P=>tk2 O fun Q R S T=>(unn P (some ((.tup []),[.op [.os (5,0) Q,.os (4,0) R,.os (3,0) S,iN T]])))))))))))))))))
 (
 iy V 61 [.op [.os (5,0) p,.os (4,0) l,.os (3,0) d,iN h],iN (1)] fun a b=>
 il a fun c=>unn c (unc b fun f g=>tk2 f fun i j k m=>(unn g (some ((.tup []),[.op [.os (5,0) i,.os (4,0) j,.os (3,0) k,iN m]]))))))
 (
 iy V 61 [.op [.os (5,0) p,.os (4,0) l,.os (3,0) d,iN h],iN (1)] fun a b=>
 il a fun c=>unn c (unc b fun f g=>tk2 f fun i j k m=>(unn g (some ((.tup []),[.op [.os (5,0) i,.os (4,0) j,.os (3,0) k,iN m]]))))))))
 (
 br (jJ s { data:=#[102,110] })
 (
 br (decide (ni x.length > 2))
 (
 grd (decide (0 <= 1) && decide (1 < ni x.length)) (cz x 1 fun a=>
 asI .i64 a fun b=>iy V 40 [.op [.os (5,0) p],iN b] fun c f=>
 tk3 c fun g i=>(unc f fun j k=>mJ j fun m=>unc m fun n o=>iK (5,0) n fun q=>unn o (unn k (br (!i)
 (
 iy V 61 [.op [.os (5,0) q,.os (4,0) l,.os (3,0) d,iN h],iN (1)] fun r t=>
 il r fun u=>unn u (unc t fun v w=>tk2 v fun y z A B=>(unn w (some ((.tup []),[.op [.os (5,0) y,.os (4,0) z,.os (3,0) A,iN B]])))))
 (
 iy V 63 [.op [.os (5,0) q,.os (4,0) l,.os (3,0) d,iN h],.rs (1,0) g] fun r t=>
 tk4 r fun u v=>(unc t fun w y=>tk2 w fun z A B C=>(unn y (br (v != 0)
 (
 iy V 61 [.op [.os (5,0) z,.os (4,0) A,.os (3,0) B,iN C],iN v] fun E F=>
 il E fun G=>unn G (unc F fun H I=>tk2 H fun J K L M=>(unn I (some ((.tup []),[.op [.os (5,0) J,.os (4,0) K,.os (3,0) L,iN M]])))))
 (
 grd (cG x.length (some (2)) none) (iy V 95 [.op [.os (5,0) z,.os (4,0) A,.os (3,0) B,iN C],.rs (1,0) u,(.rs (1,0) (vi x (2))),.rs (1,1) e] fun E F=>
 il E fun G=>unn G (unc F fun H I=>tk2 H fun J K L M=>(unn I (some ((.tup []),[.op [.os (5,0) J,.os (4,0) K,.os (3,0) L,iN M]])))))))))))))))
 (
 br (jJ s { data:=#[108,101,116] })
 (
 br (decide (ni x.length > 3))
 (
 grd (cG x.length (some (1)) (some (2))) (iy V 63 [.op [.os (5,0) p,.os (4,0) l,.os (3,0) d,iN h],(.rs (1,0) (vi (vh x (2)) (1)))] fun a b=>
 tk4 a fun c f=>(unc b fun g i=>tk2 g fun j k m n=>(unn i (br (f != 0)
 (
 iy V 61 [.op [.os (5,0) j,.os (4,0) k,.os (3,0) m,iN n],iN f] fun o q=>
 il o fun r=>unn r (unc q fun t u=>tk2 t fun v w y z=>(unn u (some ((.tup []),[.op [.os (5,0) v,.os (4,0) w,.os (3,0) y,iN z]])))))
 (
 grd (cG x.length (some (3)) none) (iy V 95 [.op [.os (5,0) j,.os (4,0) k,.os (3,0) m,iN n],.rs (1,0) c,(.rs (1,0) (vi x (3))),.rs (1,1) e] fun o q=>
 il o fun r=>unn r (unc q fun t u=>tk2 t fun v w y z=>(unn u (grd (decide (0 <= 2) && decide (2 < ni x.length)) (cz x 2 fun A=>
 asI .i64 A fun B=>iy V 78 [.op [.os (5,0) v,.os (4,0) w,.os (3,0) y,iN z],iN B,.rs (1,1) e] fun C E=>
 il C fun F=>unn F (unc E fun G H=>tk2 G fun I J K L=>(unn H (iy V 65 [.op [.os (5,0) I,.os (4,0) J,.os (3,0) K,iN L],(.agg [iN (7),iN (0),iN (1),.str ({ data:=#[] })])] fun M N=>
 asI .i64 M fun _=>unc N fun O P=>tk2 O fun Q R S T=>(unn P (some ((.tup []),[.op [.os (5,0) Q,.os (4,0) R,.os (3,0) S,iN T]])))))))))))))))))
 (
 iy V 61 [.op [.os (5,0) p,.os (4,0) l,.os (3,0) d,iN h],iN (1)] fun a b=>
 il a fun c=>unn c (unc b fun f g=>tk2 f fun i j k m=>(unn g (some ((.tup []),[.op [.os (5,0) i,.os (4,0) j,.os (3,0) k,iN m]]))))))
 (
 iy V 61 [.op [.os (5,0) p,.os (4,0) l,.os (3,0) d,iN h],iN (1)] fun a b=>
 il a fun c=>unn c (unc b fun f g=>tk2 f fun i j k m=>(unn g (some ((.tup []),[.op [.os (5,0) i,.os (4,0) j,.os (3,0) k,iN m]])))))))
 (
 br (jJ s { data:=#[108,101,116] })
 (
 br (decide (ni x.length > 3))
 (
 grd (cG x.length (some (1)) (some (2))) (iy V 63 [.op [.os (5,0) p,.os (4,0) l,.os (3,0) d,iN h],(.rs (1,0) (vi (vh x (2)) (1)))] fun a b=>
 tk4 a fun c f=>(unc b fun g i=>tk2 g fun j k m n=>(unn i (br (f != 0)
 (
 iy V 61 [.op [.os (5,0) j,.os (4,0) k,.os (3,0) m,iN n],iN f] fun o q=>
 il o fun r=>unn r (unc q fun t u=>tk2 t fun v w y z=>(unn u (some ((.tup []),[.op [.os (5,0) v,.os (4,0) w,.os (3,0) y,iN z]])))))
 (
 grd (cG x.length (some (3)) none) (iy V 95 [.op [.os (5,0) j,.os (4,0) k,.os (3,0) m,iN n],.rs (1,0) c,(.rs (1,0) (vi x (3))),.rs (1,1) e] fun o q=>
 il o fun r=>unn r (unc q fun t u=>tk2 t fun v w y z=>(unn u (grd (decide (0 <= 2) && decide (2 < ni x.length)) (cz x 2 fun A=>
 asI .i64 A fun B=>iy V 78 [.op [.os (5,0) v,.os (4,0) w,.os (3,0) y,iN z],iN B,.rs (1,1) e] fun C E=>
 il C fun F=>unn F (unc E fun G H=>tk2 G fun I J K L=>(unn H (iy V 65 [.op [.os (5,0) I,.os (4,0) J,.os (3,0) K,iN L],(.agg [iN (7),iN (0),iN (1),.str ({ data:=#[] })])] fun M N=>
 asI .i64 M fun _=>unc N fun O P=>tk2 O fun Q R S T=>(unn P (some ((.tup []),[.op [.os (5,0) Q,.os (4,0) R,.os (3,0) S,iN T]])))))))))))))))))
 (
 iy V 61 [.op [.os (5,0) p,.os (4,0) l,.os (3,0) d,iN h],iN (1)] fun a b=>
 il a fun c=>unn c (unc b fun f g=>tk2 f fun i j k m=>(unn g (some ((.tup []),[.op [.os (5,0) i,.os (4,0) j,.os (3,0) k,iN m]]))))))
 (
 iy V 61 [.op [.os (5,0) p,.os (4,0) l,.os (3,0) d,iN h],iN (1)] fun a b=>
 il a fun c=>unn c (unc b fun f g=>tk2 f fun i j k m=>(unn g (some ((.tup []),[.op [.os (5,0) i,.os (4,0) j,.os (3,0) k,iN m]])))))))))
 (
 br (jJ s { data:=#[100,111] })
 (
 br (decide (ni x.length > 1))
 (
 grd (cG x.length (some (1)) none) (iy V 64 [.op [.os (5,0) p,.os (4,0) l,.os (3,0) d,iN h],(.rs (1,0) (vi x (1))),.rs (1,1) e] fun a b=>
 il a fun c=>unn c (unc b fun f g=>tk2 f fun i j k m=>(unn g (some ((.tup []),[.op [.os (5,0) i,.os (4,0) j,.os (3,0) k,iN m]]))))))
 (
 br (jJ s { data:=#[102,110] })
 (
 br (decide (ni x.length > 2))
 (
 grd (decide (0 <= 1) && decide (1 < ni x.length)) (cz x 1 fun a=>
 asI .i64 a fun b=>iy V 40 [.op [.os (5,0) p],iN b] fun c f=>
 tk3 c fun g i=>(unc f fun j k=>mJ j fun m=>unc m fun n o=>iK (5,0) n fun q=>unn o (unn k (br (!i)
 (
 iy V 61 [.op [.os (5,0) q,.os (4,0) l,.os (3,0) d,iN h],iN (1)] fun r t=>
 il r fun u=>unn u (unc t fun v w=>tk2 v fun y z A B=>(unn w (some ((.tup []),[.op [.os (5,0) y,.os (4,0) z,.os (3,0) A,iN B]])))))
 (
 iy V 63 [.op [.os (5,0) q,.os (4,0) l,.os (3,0) d,iN h],.rs (1,0) g] fun r t=>
 tk4 r fun u v=>(unc t fun w y=>tk2 w fun z A B C=>(unn y (br (v != 0)
 (
 iy V 61 [.op [.os (5,0) z,.os (4,0) A,.os (3,0) B,iN C],iN v] fun E F=>
 il E fun G=>unn G (unc F fun H I=>tk2 H fun J K L M=>(unn I (some ((.tup []),[.op [.os (5,0) J,.os (4,0) K,.os (3,0) L,iN M]])))))
 (
 grd (cG x.length (some (2)) none) (iy V 95 [.op [.os (5,0) z,.os (4,0) A,.os (3,0) B,iN C],.rs (1,0) u,(.rs (1,0) (vi x (2))),.rs (1,1) e] fun E F=>
 il E fun G=>unn G (unc F fun H I=>tk2 H fun J K L M=>(unn I (some ((.tup []),[.op [.os (5,0) J,.os (4,0) K,.os (3,0) L,iN M]])))))))))))))))
 (
 br (jJ s { data:=#[108,101,116] })
 (
 br (decide (ni x.length > 3))
 (
 grd (cG x.length (some (1)) (some (2))) (iy V 63 [.op [.os (5,0) p,.os (4,0) l,.os (3,0) d,iN h],(.rs (1,0) (vi (vh x (2)) (1)))] fun a b=>
 tk4 a fun c f=>(unc b fun g i=>tk2 g fun j k m n=>(unn i (br (f != 0)
 (
 iy V 61 [.op [.os (5,0) j,.os (4,0) k,.os (3,0) m,iN n],iN f] fun o q=>
 il o fun r=>unn r (unc q fun t u=>tk2 t fun v w y z=>(unn u (some ((.tup []),[.op [.os (5,0) v,.os (4,0) w,.os (3,0) y,iN z]])))))
 (
 grd (cG x.length (some (3)) none) (iy V 95 [.op [.os (5,0) j,.os (4,0) k,.os (3,0) m,iN n],.rs (1,0) c,(.rs (1,0) (vi x (3))),.rs (1,1) e] fun o q=>
 il o fun r=>unn r (unc q fun t u=>tk2 t fun v w y z=>(unn u (grd (decide (0 <= 2) && decide (2 < ni x.length)) (cz x 2 fun A=>
 asI .i64 A fun B=>iy V 78 [.op [.os (5,0) v,.os (4,0) w,.os (3,0) y,iN z],iN B,.rs (1,1) e] fun C E=>
 il C fun F=>unn F (unc E fun G H=>tk2 G fun I J K L=>(unn H (iy V 65 [.op [.os (5,0) I,.os (4,0) J,.os (3,0) K,iN L],(.agg [iN (7),iN (0),iN (1),.str ({ data:=#[] })])] fun M N=>
 asI .i64 M fun _=>unc N fun O P=>tk2 O fun Q R S T=>(unn P (some ((.tup []),[.op [.os (5,0) Q,.os (4,0) R,.os (3,0) S,iN T]])))))))))))))))))
 (
 iy V 61 [.op [.os (5,0) p,.os (4,0) l,.os (3,0) d,iN h],iN (1)] fun a b=>
 il a fun c=>unn c (unc b fun f g=>tk2 f fun i j k m=>(unn g (some ((.tup []),[.op [.os (5,0) i,.os (4,0) j,.os (3,0) k,iN m]]))))))
 (
 iy V 61 [.op [.os (5,0) p,.os (4,0) l,.os (3,0) d,iN h],iN (1)] fun a b=>
 il a fun c=>unn c (unc b fun f g=>tk2 f fun i j k m=>(unn g (some ((.tup []),[.op [.os (5,0) i,.os (4,0) j,.os (3,0) k,iN m]])))))))
 (
 br (jJ s { data:=#[108,101,116] })
 (
 br (decide (ni x.length > 3))
 (
 grd (cG x.length (some (1)) (some (2))) (iy V 63 [.op [.os (5,0) p,.os (4,0) l,.os (3,0) d,iN h],(.rs (1,0) (vi (vh x (2)) (1)))] fun a b=>
 tk4 a fun c f=>(unc b fun g i=>tk2 g fun j k m n=>(unn i (br (f != 0)
 (
 iy V 61 [.op [.os (5,0) j,.os (4,0) k,.os (3,0) m,iN n],iN f] fun o q=>
 il o fun r=>unn r (unc q fun t u=>tk2 t fun v w y z=>(unn u (some ((.tup []),[.op [.os (5,0) v,.os (4,0) w,.os (3,0) y,iN z]])))))
 (
 grd (cG x.length (some (3)) none) (iy V 95 [.op [.os (5,0) j,.os (4,0) k,.os (3,0) m,iN n],.rs (1,0) c,(.rs (1,0) (vi x (3))),.rs (1,1) e] fun o q=>
 il o fun r=>unn r (unc q fun t u=>tk2 t fun v w y z=>(unn u (grd (decide (0 <= 2) && decide (2 < ni x.length)) (cz x 2 fun A=>
 asI .i64 A fun B=>iy V 78 [.op [.os (5,0) v,.os (4,0) w,.os (3,0) y,iN z],iN B,.rs (1,1) e] fun C E=>
 il C fun F=>unn F (unc E fun G H=>tk2 G fun I J K L=>(unn H (iy V 65 [.op [.os (5,0) I,.os (4,0) J,.os (3,0) K,iN L],(.agg [iN (7),iN (0),iN (1),.str ({ data:=#[] })])] fun M N=>
 asI .i64 M fun _=>unc N fun O P=>tk2 O fun Q R S T=>(unn P (some ((.tup []),[.op [.os (5,0) Q,.os (4,0) R,.os (3,0) S,iN T]])))))))))))))))))
 (
 iy V 61 [.op [.os (5,0) p,.os (4,0) l,.os (3,0) d,iN h],iN (1)] fun a b=>
 il a fun c=>unn c (unc b fun f g=>tk2 f fun i j k m=>(unn g (some ((.tup []),[.op [.os (5,0) i,.os (4,0) j,.os (3,0) k,iN m]]))))))
 (
 iy V 61 [.op [.os (5,0) p,.os (4,0) l,.os (3,0) d,iN h],iN (1)] fun a b=>
 il a fun c=>unn c (unc b fun f g=>tk2 f fun i j k m=>(unn g (some ((.tup []),[.op [.os (5,0) i,.os (4,0) j,.os (3,0) k,iN m]]))))))))
 (
 br (jJ s { data:=#[102,110] })
 (
 br (decide (ni x.length > 2))
 (
 grd (decide (0 <= 1) && decide (1 < ni x.length)) (cz x 1 fun a=>
 asI .i64 a fun b=>iy V 40 [.op [.os (5,0) p],iN b] fun c f=>
 tk3 c fun g i=>(unc f fun j k=>mJ j fun m=>unc m fun n o=>iK (5,0) n fun q=>unn o (unn k (br (!i)
 (
 iy V 61 [.op [.os (5,0) q,.os (4,0) l,.os (3,0) d,iN h],iN (1)] fun r t=>
 il r fun u=>unn u (unc t fun v w=>tk2 v fun y z A B=>(unn w (some ((.tup []),[.op [.os (5,0) y,.os (4,0) z,.os (3,0) A,iN B]])))))
 (
 iy V 63 [.op [.os (5,0) q,.os (4,0) l,.os (3,0) d,iN h],.rs (1,0) g] fun r t=>
 tk4 r fun u v=>(unc t fun w y=>tk2 w fun z A B C=>(unn y (br (v != 0)
 (
 iy V 61 [.op [.os (5,0) z,.os (4,0) A,.os (3,0) B,iN C],iN v] fun E F=>
 il E fun G=>unn G (unc F fun H I=>tk2 H fun J K L M=>(unn I (some ((.tup []),[.op [.os (5,0) J,.os (4,0) K,.os (3,0) L,iN M]])))))
 (
 grd (cG x.length (some (2)) none) (iy V 95 [.op [.os (5,0) z,.os (4,0) A,.os (3,0) B,iN C],.rs (1,0) u,(.rs (1,0) (vi x (2))),.rs (1,1) e] fun E F=>
 il E fun G=>unn G (unc F fun H I=>tk2 H fun J K L M=>(unn I (some ((.tup []),[.op [.os (5,0) J,.os (4,0) K,.os (3,0) L,iN M]])))))))))))))))
 (
 br (jJ s { data:=#[108,101,116] })
 (
 br (decide (ni x.length > 3))
 (
 grd (cG x.length (some (1)) (some (2))) (iy V 63 [.op [.os (5,0) p,.os (4,0) l,.os (3,0) d,iN h],(.rs (1,0) (vi (vh x (2)) (1)))] fun a b=>
 tk4 a fun c f=>(unc b fun g i=>tk2 g fun j k m n=>(unn i (br (f != 0)
 (
 iy V 61 [.op [.os (5,0) j,.os (4,0) k,.os (3,0) m,iN n],iN f] fun o q=>
 il o fun r=>unn r (unc q fun t u=>tk2 t fun v w y z=>(unn u (some ((.tup []),[.op [.os (5,0) v,.os (4,0) w,.os (3,0) y,iN z]])))))
 (
 grd (cG x.length (some (3)) none) (iy V 95 [.op [.os (5,0) j,.os (4,0) k,.os (3,0) m,iN n],.rs (1,0) c,(.rs (1,0) (vi x (3))),.rs (1,1) e] fun o q=>
 il o fun r=>unn r (unc q fun t u=>tk2 t fun v w y z=>(unn u (grd (decide (0 <= 2) && decide (2 < ni x.length)) (cz x 2 fun A=>
 asI .i64 A fun B=>iy V 78 [.op [.os (5,0) v,.os (4,0) w,.os (3,0) y,iN z],iN B,.rs (1,1) e] fun C E=>
 il C fun F=>unn F (unc E fun G H=>tk2 G fun I J K L=>(unn H (iy V 65 [.op [.os (5,0) I,.os (4,0) J,.os (3,0) K,iN L],(.agg [iN (7),iN (0),iN (1),.str ({ data:=#[] })])] fun M N=>
 asI .i64 M fun _=>unc N fun O P=>tk2 O fun Q R S T=>(unn P (some ((.tup []),[.op [.os (5,0) Q,.os (4,0) R,.os (3,0) S,iN T]])))))))))))))))))
 (
 iy V 61 [.op [.os (5,0) p,.os (4,0) l,.os (3,0) d,iN h],iN (1)] fun a b=>
 il a fun c=>unn c (unc b fun f g=>tk2 f fun i j k m=>(unn g (some ((.tup []),[.op [.os (5,0) i,.os (4,0) j,.os (3,0) k,iN m]]))))))
 (
 iy V 61 [.op [.os (5,0) p,.os (4,0) l,.os (3,0) d,iN h],iN (1)] fun a b=>
 il a fun c=>unn c (unc b fun f g=>tk2 f fun i j k m=>(unn g (some ((.tup []),[.op [.os (5,0) i,.os (4,0) j,.os (3,0) k,iN m]])))))))
 (
 br (jJ s { data:=#[108,101,116] })
 (
 br (decide (ni x.length > 3))
 (
 grd (cG x.length (some (1)) (some (2))) (iy V 63 [.op [.os (5,0) p,.os (4,0) l,.os (3,0) d,iN h],(.rs (1,0) (vi (vh x (2)) (1)))] fun a b=>
 tk4 a fun c f=>(unc b fun g i=>tk2 g fun j k m n=>(unn i (br (f != 0)
 (
 iy V 61 [.op [.os (5,0) j,.os (4,0) k,.os (3,0) m,iN n],iN f] fun o q=>
 il o fun r=>unn r (unc q fun t u=>tk2 t fun v w y z=>(unn u (some ((.tup []),[.op [.os (5,0) v,.os (4,0) w,.os (3,0) y,iN z]])))))
 (
 grd (cG x.length (some (3)) none) (iy V 95 [.op [.os (5,0) j,.os (4,0) k,.os (3,0) m,iN n],.rs (1,0) c,(.rs (1,0) (vi x (3))),.rs (1,1) e] fun o q=>
 il o fun r=>unn r (unc q fun t u=>tk2 t fun v w y z=>(unn u (grd (decide (0 <= 2) && decide (2 < ni x.length)) (cz x 2 fun A=>
 asI .i64 A fun B=>iy V 78 [.op [.os (5,0) v,.os (4,0) w,.os (3,0) y,iN z],iN B,.rs (1,1) e] fun C E=>
 il C fun F=>unn F (unc E fun G H=>tk2 G fun I J K L=>(unn H (iy V 65 [.op [.os (5,0) I,.os (4,0) J,.os (3,0) K,iN L],(.agg [iN (7),iN (0),iN (1),.str ({ data:=#[] })])] fun M N=>
 asI .i64 M fun _=>unc N fun O P=>tk2 O fun Q R S T=>(unn P (some ((.tup []),[.op [.os (5,0) Q,.os (4,0) R,.os (3,0) S,iN T]])))))))))))))))))
 (
 iy V 61 [.op [.os (5,0) p,.os (4,0) l,.os (3,0) d,iN h],iN (1)] fun a b=>
 il a fun c=>unn c (unc b fun f g=>tk2 f fun i j k m=>(unn g (some ((.tup []),[.op [.os (5,0) i,.os (4,0) j,.os (3,0) k,iN m]]))))))
 (
 iy V 61 [.op [.os (5,0) p,.os (4,0) l,.os (3,0) d,iN h],iN (1)] fun a b=>
 il a fun c=>unn c (unc b fun f g=>tk2 f fun i j k m=>(unn g (some ((.tup []),[.op [.os (5,0) i,.os (4,0) j,.os (3,0) k,iN m]]))))))))))
 (
 br (jJ s { data:=#[105,102] })
 (
 br (ni x.length == 4)
 (
 iy V 94 [.op [.os (5,0) p,.os (4,0) l,.os (3,0) d,iN h],.rs (1,0) x,.rs (1,1) e] fun a b=>
 il a fun c=>unn c (unc b fun f g=>tk2 f fun i j k m=>(unn g (some ((.tup []),[.op [.os (5,0) i,.os (4,0) j,.os (3,0) k,iN m]])))))
 (
 br (jJ s { data:=#[100,111] })
 (
 br (decide (ni x.length > 1))
 (
 grd (cG x.length (some (1)) none) (iy V 64 [.op [.os (5,0) p,.os (4,0) l,.os (3,0) d,iN h],(.rs (1,0) (vi x (1))),.rs (1,1) e] fun a b=>
 il a fun c=>unn c (unc b fun f g=>tk2 f fun i j k m=>(unn g (some ((.tup []),[.op [.os (5,0) i,.os (4,0) j,.os (3,0) k,iN m]]))))))
 (
 br (jJ s { data:=#[102,110] })
 (
 br (decide (ni x.length > 2))
 (
 grd (decide (0 <= 1) && decide (1 < ni x.length)) (cz x 1 fun a=>
 asI .i64 a fun b=>iy V 40 [.op [.os (5,0) p],iN b] fun c f=>
 tk3 c fun g i=>(unc f fun j k=>mJ j fun m=>unc m fun n o=>iK (5,0) n fun q=>unn o (unn k (br (!i)
 (
 iy V 61 [.op [.os (5,0) q,.os (4,0) l,.os (3,0) d,iN h],iN (1)] fun r t=>
 il r fun u=>unn u (unc t fun v w=>tk2 v fun y z A B=>(unn w (some ((.tup []),[.op [.os (5,0) y,.os (4,0) z,.os (3,0) A,iN B]])))))
 (
 iy V 63 [.op [.os (5,0) q,.os (4,0) l,.os (3,0) d,iN h],.rs (1,0) g] fun r t=>
 tk4 r fun u v=>(unc t fun w y=>tk2 w fun z A B C=>(unn y (br (v != 0)
 (
 iy V 61 [.op [.os (5,0) z,.os (4,0) A,.os (3,0) B,iN C],iN v] fun E F=>
 il E fun G=>unn G (unc F fun H I=>tk2 H fun J K L M=>(unn I (some ((.tup []),[.op [.os (5,0) J,.os (4,0) K,.os (3,0) L,iN M]])))))
 (
 grd (cG x.length (some (2)) none) (iy V 95 [.op [.os (5,0) z,.os (4,0) A,.os (3,0) B,iN C],.rs (1,0) u,(.rs (1,0) (vi x (2))),.rs (1,1) e] fun E F=>
 il E fun G=>unn G (unc F fun H I=>tk2 H fun J K L M=>(unn I (some ((.tup []),[.op [.os (5,0) J,.os (4,0) K,.os (3,0) L,iN M]])))))))))))))))
 (
 br (jJ s { data:=#[108,101,116] })
 (
 br (decide (ni x.length > 3))
 (
 grd (cG x.length (some (1)) (some (2))) (iy V 63 [.op [.os (5,0) p,.os (4,0) l,.os (3,0) d,iN h],(.rs (1,0) (vi (vh x (2)) (1)))] fun a b=>
 tk4 a fun c f=>(unc b fun g i=>tk2 g fun j k m n=>(unn i (br (f != 0)
 (
 iy V 61 [.op [.os (5,0) j,.os (4,0) k,.os (3,0) m,iN n],iN f] fun o q=>
 il o fun r=>unn r (unc q fun t u=>tk2 t fun v w y z=>(unn u (some ((.tup []),[.op [.os (5,0) v,.os (4,0) w,.os (3,0) y,iN z]])))))
 (
 grd (cG x.length (some (3)) none) (iy V 95 [.op [.os (5,0) j,.os (4,0) k,.os (3,0) m,iN n],.rs (1,0) c,(.rs (1,0) (vi x (3))),.rs (1,1) e] fun o q=>
 il o fun r=>unn r (unc q fun t u=>tk2 t fun v w y z=>(unn u (grd (decide (0 <= 2) && decide (2 < ni x.length)) (cz x 2 fun A=>
 asI .i64 A fun B=>iy V 78 [.op [.os (5,0) v,.os (4,0) w,.os (3,0) y,iN z],iN B,.rs (1,1) e] fun C E=>
 il C fun F=>unn F (unc E fun G H=>tk2 G fun I J K L=>(unn H (iy V 65 [.op [.os (5,0) I,.os (4,0) J,.os (3,0) K,iN L],(.agg [iN (7),iN (0),iN (1),.str ({ data:=#[] })])] fun M N=>
 asI .i64 M fun _=>unc N fun O P=>tk2 O fun Q R S T=>(unn P (some ((.tup []),[.op [.os (5,0) Q,.os (4,0) R,.os (3,0) S,iN T]])))))))))))))))))
 (
 iy V 61 [.op [.os (5,0) p,.os (4,0) l,.os (3,0) d,iN h],iN (1)] fun a b=>
 il a fun c=>unn c (unc b fun f g=>tk2 f fun i j k m=>(unn g (some ((.tup []),[.op [.os (5,0) i,.os (4,0) j,.os (3,0) k,iN m]]))))))
 (
 iy V 61 [.op [.os (5,0) p,.os (4,0) l,.os (3,0) d,iN h],iN (1)] fun a b=>
 il a fun c=>unn c (unc b fun f g=>tk2 f fun i j k m=>(unn g (some ((.tup []),[.op [.os (5,0) i,.os (4,0) j,.os (3,0) k,iN m]])))))))
 (
 br (jJ s { data:=#[108,101,116] })
 (
 br (decide (ni x.length > 3))
 (
 grd (cG x.length (some (1)) (some (2))) (iy V 63 [.op [.os (5,0) p,.os (4,0) l,.os (3,0) d,iN h],(.rs (1,0) (vi (vh x (2)) (1)))] fun a b=>
 tk4 a fun c f=>(unc b fun g i=>tk2 g fun j k m n=>(unn i (br (f != 0)
 (
 iy V 61 [.op [.os (5,0) j,.os (4,0) k,.os (3,0) m,iN n],iN f] fun o q=>
 il o fun r=>unn r (unc q fun t u=>tk2 t fun v w y z=>(unn u (some ((.tup []),[.op [.os (5,0) v,.os (4,0) w,.os (3,0) y,iN z]])))))
 (
 grd (cG x.length (some (3)) none) (iy V 95 [.op [.os (5,0) j,.os (4,0) k,.os (3,0) m,iN n],.rs (1,0) c,(.rs (1,0) (vi x (3))),.rs (1,1) e] fun o q=>
 il o fun r=>unn r (unc q fun t u=>tk2 t fun v w y z=>(unn u (grd (decide (0 <= 2) && decide (2 < ni x.length)) (cz x 2 fun A=>
 asI .i64 A fun B=>iy V 78 [.op [.os (5,0) v,.os (4,0) w,.os (3,0) y,iN z],iN B,.rs (1,1) e] fun C E=>
 il C fun F=>unn F (unc E fun G H=>tk2 G fun I J K L=>(unn H (iy V 65 [.op [.os (5,0) I,.os (4,0) J,.os (3,0) K,iN L],(.agg [iN (7),iN (0),iN (1),.str ({ data:=#[] })])] fun M N=>
 asI .i64 M fun _=>unc N fun O P=>tk2 O fun Q R S T=>(unn P (some ((.tup []),[.op [.os (5,0) Q,.os (4,0) R,.os (3,0) S,iN T]])))))))))))))))))
 (
 iy V 61 [.op [.os (5,0) p,.os (4,0) l,.os (3,0) d,iN h],iN (1)] fun a b=>
 il a fun c=>unn c (unc b fun f g=>tk2 f fun i j k m=>(unn g (some ((.tup []),[.op [.os (5,0) i,.os (4,0) j,.os (3,0) k,iN m]]))))))
 (
 iy V 61 [.op [.os (5,0) p,.os (4,0) l,.os (3,0) d,iN h],iN (1)] fun a b=>
 il a fun c=>unn c (unc b fun f g=>tk2 f fun i j k m=>(unn g (some ((.tup []),[.op [.os (5,0) i,.os (4,0) j,.os (3,0) k,iN m]]))))))))
 (
 br (jJ s { data:=#[102,110] })
 (
 br (decide (ni x.length > 2))
 (
 grd (decide (0 <= 1) && decide (1 < ni x.length)) (cz x 1 fun a=>
 asI .i64 a fun b=>iy V 40 [.op [.os (5,0) p],iN b] fun c f=>
 tk3 c fun g i=>(unc f fun j k=>mJ j fun m=>unc m fun n o=>iK (5,0) n fun q=>unn o (unn k (br (!i)
 (
 iy V 61 [.op [.os (5,0) q,.os (4,0) l,.os (3,0) d,iN h],iN (1)] fun r t=>
 il r fun u=>unn u (unc t fun v w=>tk2 v fun y z A B=>(unn w (some ((.tup []),[.op [.os (5,0) y,.os (4,0) z,.os (3,0) A,iN B]])))))
 (
 iy V 63 [.op [.os (5,0) q,.os (4,0) l,.os (3,0) d,iN h],.rs (1,0) g] fun r t=>
 tk4 r fun u v=>(unc t fun w y=>tk2 w fun z A B C=>(unn y (br (v != 0)
 (
 iy V 61 [.op [.os (5,0) z,.os (4,0) A,.os (3,0) B,iN C],iN v] fun E F=>
 il E fun G=>unn G (unc F fun H I=>tk2 H fun J K L M=>(unn I (some ((.tup []),[.op [.os (5,0) J,.os (4,0) K,.os (3,0) L,iN M]])))))
 (
 grd (cG x.length (some (2)) none) (iy V 95 [.op [.os (5,0) z,.os (4,0) A,.os (3,0) B,iN C],.rs (1,0) u,(.rs (1,0) (vi x (2))),.rs (1,1) e] fun E F=>
 il E fun G=>unn G (unc F fun H I=>tk2 H fun J K L M=>(unn I (some ((.tup []),[.op [.os (5,0) J,.os (4,0) K,.os (3,0) L,iN M]])))))))))))))))
 (
 br (jJ s { data:=#[108,101,116] })
 (
 br (decide (ni x.length > 3))
 (
 grd (cG x.length (some (1)) (some (2))) (iy V 63 [.op [.os (5,0) p,.os (4,0) l,.os (3,0) d,iN h],(.rs (1,0) (vi (vh x (2)) (1)))] fun a b=>
 tk4 a fun c f=>(unc b fun g i=>tk2 g fun j k m n=>(unn i (br (f != 0)
 (
 iy V 61 [.op [.os (5,0) j,.os (4,0) k,.os (3,0) m,iN n],iN f] fun o q=>
 il o fun r=>unn r (unc q fun t u=>tk2 t fun v w y z=>(unn u (some ((.tup []),[.op [.os (5,0) v,.os (4,0) w,.os (3,0) y,iN z]])))))
 (
 grd (cG x.length (some (3)) none) (iy V 95 [.op [.os (5,0) j,.os (4,0) k,.os (3,0) m,iN n],.rs (1,0) c,(.rs (1,0) (vi x (3))),.rs (1,1) e] fun o q=>
 il o fun r=>unn r (unc q fun t u=>tk2 t fun v w y z=>(unn u (grd (decide (0 <= 2) && decide (2 < ni x.length)) (cz x 2 fun A=>
 asI .i64 A fun B=>iy V 78 [.op [.os (5,0) v,.os (4,0) w,.os (3,0) y,iN z],iN B,.rs (1,1) e] fun C E=>
 il C fun F=>unn F (unc E fun G H=>tk2 G fun I J K L=>(unn H (iy V 65 [.op [.os (5,0) I,.os (4,0) J,.os (3,0) K,iN L],(.agg [iN (7),iN (0),iN (1),.str ({ data:=#[] })])] fun M N=>
 asI .i64 M fun _=>unc N fun O P=>tk2 O fun Q R S T=>(unn P (some ((.tup []),[.op [.os (5,0) Q,.os (4,0) R,.os (3,0) S,iN T]])))))))))))))))))
 (
 iy V 61 [.op [.os (5,0) p,.os (4,0) l,.os (3,0) d,iN h],iN (1)] fun a b=>
 il a fun c=>unn c (unc b fun f g=>tk2 f fun i j k m=>(unn g (some ((.tup []),[.op [.os (5,0) i,.os (4,0) j,.os (3,0) k,iN m]]))))))
 (
 iy V 61 [.op [.os (5,0) p,.os (4,0) l,.os (3,0) d,iN h],iN (1)] fun a b=>
 il a fun c=>unn c (unc b fun f g=>tk2 f fun i j k m=>(unn g (some ((.tup []),[.op [.os (5,0) i,.os (4,0) j,.os (3,0) k,iN m]])))))))
 (
 br (jJ s { data:=#[108,101,116] })
 (
 br (decide (ni x.length > 3))
 (
 grd (cG x.length (some (1)) (some (2))) (iy V 63 [.op [.os (5,0) p,.os (4,0) l,.os (3,0) d,iN h],(.rs (1,0) (vi (vh x (2)) (1)))] fun a b=>
 tk4 a fun c f=>(unc b fun g i=>tk2 g fun j k m n=>(unn i (br (f != 0)
 (
 iy V 61 [.op [.os (5,0) j,.os (4,0) k,.os (3,0) m,iN n],iN f] fun o q=>
 il o fun r=>unn r (unc q fun t u=>tk2 t fun v w y z=>(unn u (some ((.tup []),[.op [.os (5,0) v,.os (4,0) w,.os (3,0) y,iN z]])))))
 (
 grd (cG x.length (some (3)) none) (iy V 95 [.op [.os (5,0) j,.os (4,0) k,.os (3,0) m,iN n],.rs (1,0) c,(.rs (1,0) (vi x (3))),.rs (1,1) e] fun o q=>
 il o fun r=>unn r (unc q fun t u=>tk2 t fun v w y z=>(unn u (grd (decide (0 <= 2) && decide (2 < ni x.length)) (cz x 2 fun A=>
 asI .i64 A fun B=>iy V 78 [.op [.os (5,0) v,.os (4,0) w,.os (3,0) y,iN z],iN B,.rs (1,1) e] fun C E=>
 il C fun F=>unn F (unc E fun G H=>tk2 G fun I J K L=>(unn H (iy V 65 [.op [.os (5,0) I,.os (4,0) J,.os (3,0) K,iN L],(.agg [iN (7),iN (0),iN (1),.str ({ data:=#[] })])] fun M N=>
 asI .i64 M fun _=>unc N fun O P=>tk2 O fun Q R S T=>(unn P (some ((.tup []),[.op [.os (5,0) Q,.os (4,0) R,.os (3,0) S,iN T]])))))))))))))))))
 (
 iy V 61 [.op [.os (5,0) p,.os (4,0) l,.os (3,0) d,iN h],iN (1)] fun a b=>
 il a fun c=>unn c (unc b fun f g=>tk2 f fun i j k m=>(unn g (some ((.tup []),[.op [.os (5,0) i,.os (4,0) j,.os (3,0) k,iN m]]))))))
 (
 iy V 61 [.op [.os (5,0) p,.os (4,0) l,.os (3,0) d,iN h],iN (1)] fun a b=>
 il a fun c=>unn c (unc b fun f g=>tk2 f fun i j k m=>(unn g (some ((.tup []),[.op [.os (5,0) i,.os (4,0) j,.os (3,0) k,iN m]])))))))))
 (
 br (jJ s { data:=#[100,111] })
 (
 br (decide (ni x.length > 1))
 (
 grd (cG x.length (some (1)) none) (iy V 64 [.op [.os (5,0) p,.os (4,0) l,.os (3,0) d,iN h],(.rs (1,0) (vi x (1))),.rs (1,1) e] fun a b=>
 il a fun c=>unn c (unc b fun f g=>tk2 f fun i j k m=>(unn g (some ((.tup []),[.op [.os (5,0) i,.os (4,0) j,.os (3,0) k,iN m]]))))))
 (
 br (jJ s { data:=#[102,110] })
 (
 br (decide (ni x.length > 2))
 (
 grd (decide (0 <= 1) && decide (1 < ni x.length)) (cz x 1 fun a=>
 asI .i64 a fun b=>iy V 40 [.op [.os (5,0) p],iN b] fun c f=>
 tk3 c fun g i=>(unc f fun j k=>mJ j fun m=>unc m fun n o=>iK (5,0) n fun q=>unn o (unn k (br (!i)
 (
 iy V 61 [.op [.os (5,0) q,.os (4,0) l,.os (3,0) d,iN h],iN (1)] fun r t=>
 il r fun u=>unn u (unc t fun v w=>tk2 v fun y z A B=>(unn w (some ((.tup []),[.op [.os (5,0) y,.os (4,0) z,.os (3,0) A,iN B]])))))
 (
 iy V 63 [.op [.os (5,0) q,.os (4,0) l,.os (3,0) d,iN h],.rs (1,0) g] fun r t=>
 tk4 r fun u v=>(unc t fun w y=>tk2 w fun z A B C=>(unn y (br (v != 0)
 (
 iy V 61 [.op [.os (5,0) z,.os (4,0) A,.os (3,0) B,iN C],iN v] fun E F=>
 il E fun G=>unn G (unc F fun H I=>tk2 H fun J K L M=>(unn I (some ((.tup []),[.op [.os (5,0) J,.os (4,0) K,.os (3,0) L,iN M]])))))
 (
 grd (cG x.length (some (2)) none) (iy V 95 [.op [.os (5,0) z,.os (4,0) A,.os (3,0) B,iN C],.rs (1,0) u,(.rs (1,0) (vi x (2))),.rs (1,1) e] fun E F=>
 il E fun G=>unn G (unc F fun H I=>tk2 H fun J K L M=>(unn I (some ((.tup []),[.op [.os (5,0) J,.os (4,0) K,.os (3,0) L,iN M]])))))))))))))))
 (
 br (jJ s { data:=#[108,101,116] })
 (
 br (decide (ni x.length > 3))
 (
 grd (cG x.length (some (1)) (some (2))) (iy V 63 [.op [.os (5,0) p,.os (4,0) l,.os (3,0) d,iN h],(.rs (1,0) (vi (vh x (2)) (1)))] fun a b=>
 tk4 a fun c f=>(unc b fun g i=>tk2 g fun j k m n=>(unn i (br (f != 0)
 (
 iy V 61 [.op [.os (5,0) j,.os (4,0) k,.os (3,0) m,iN n],iN f] fun o q=>
 il o fun r=>unn r (unc q fun t u=>tk2 t fun v w y z=>(unn u (some ((.tup []),[.op [.os (5,0) v,.os (4,0) w,.os (3,0) y,iN z]])))))
 (
 grd (cG x.length (some (3)) none) (iy V 95 [.op [.os (5,0) j,.os (4,0) k,.os (3,0) m,iN n],.rs (1,0) c,(.rs (1,0) (vi x (3))),.rs (1,1) e] fun o q=>
 il o fun r=>unn r (unc q fun t u=>tk2 t fun v w y z=>(unn u (grd (decide (0 <= 2) && decide (2 < ni x.length)) (cz x 2 fun A=>
 asI .i64 A fun B=>iy V 78 [.op [.os (5,0) v,.os (4,0) w,.os (3,0) y,iN z],iN B,.rs (1,1) e] fun C E=>
 il C fun F=>unn F (unc E fun G H=>tk2 G fun I J K L=>(unn H (iy V 65 [.op [.os (5,0) I,.os (4,0) J,.os (3,0) K,iN L],(.agg [iN (7),iN (0),iN (1),.str ({ data:=#[] })])] fun M N=>
 asI .i64 M fun _=>unc N fun O P=>tk2 O fun Q R S T=>(unn P (some ((.tup []),[.op [.os (5,0) Q,.os (4,0) R,.os (3,0) S,iN T]])))))))))))))))))
 (
 iy V 61 [.op [.os (5,0) p,.os (4,0) l,.os (3,0) d,iN h],iN (1)] fun a b=>
 il a fun c=>unn c (unc b fun f g=>tk2 f fun i j k m=>(unn g (some ((.tup []),[.op [.os (5,0) i,.os (4,0) j,.os (3,0) k,iN m]]))))))
 (
 iy V 61 [.op [.os (5,0) p,.os (4,0) l,.os (3,0) d,iN h],iN (1)] fun a b=>
 il a fun c=>unn c (unc b fun f g=>tk2 f fun i j k m=>(unn g (some ((.tup []),[.op [.os (5,0) i,.os (4,0) j,.os (3,0) k,iN m]])))))))
 (
 br (jJ s { data:=#[108,101,116] })
 (
 br (decide (ni x.length > 3))
 (
 grd (cG x.length (some (1)) (some (2))) (iy V 63 [.op [.os (5,0) p,.os (4,0) l,.os (3,0) d,iN h],(.rs (1,0) (vi (vh x (2)) (1)))] fun a b=>
 tk4 a fun c f=>(unc b fun g i=>tk2 g fun j k m n=>(unn i (br (f != 0)
 (
 iy V 61 [.op [.os (5,0) j,.os (4,0) k,.os (3,0) m,iN n],iN f] fun o q=>
 il o fun r=>unn r (unc q fun t u=>tk2 t fun v w y z=>(unn u (some ((.tup []),[.op [.os (5,0) v,.os (4,0) w,.os (3,0) y,iN z]])))))
 (
 grd (cG x.length (some (3)) none) (iy V 95 [.op [.os (5,0) j,.os (4,0) k,.os (3,0) m,iN n],.rs (1,0) c,(.rs (1,0) (vi x (3))),.rs (1,1) e] fun o q=>
 il o fun r=>unn r (unc q fun t u=>tk2 t fun v w y z=>(unn u (grd (decide (0 <= 2) && decide (2 < ni x.length)) (cz x 2 fun A=>
 asI .i64 A fun B=>iy V 78 [.op [.os (5,0) v,.os (4,0) w,.os (3,0) y,iN z],iN B,.rs (1,1) e] fun C E=>
 il C fun F=>unn F (unc E fun G H=>tk2 G fun I J K L=>(unn H (iy V 65 [.op [.os (5,0) I,.os (4,0) J,.os (3,0) K,iN L],(.agg [iN (7),iN (0),iN (1),.str ({ data:=#[] })])] fun M N=>
 asI .i64 M fun _=>unc N fun O P=>tk2 O fun Q R S T=>(unn P (some ((.tup []),[.op [.os (5,0) Q,.os (4,0) R,.os (3,0) S,iN T]])))))))))))))))))
 (
 iy V 61 [.op [.os (5,0) p,.os (4,0) l,.os (3,0) d,iN h],iN (1)] fun a b=>
 il a fun c=>unn c (unc b fun f g=>tk2 f fun i j k m=>(unn g (some ((.tup []),[.op [.os (5,0) i,.os (4,0) j,.os (3,0) k,iN m]]))))))
 (
 iy V 61 [.op [.os (5,0) p,.os (4,0) l,.os (3,0) d,iN h],iN (1)] fun a b=>
 il a fun c=>unn c (unc b fun f g=>tk2 f fun i j k m=>(unn g (some ((.tup []),[.op [.os (5,0) i,.os (4,0) j,.os (3,0) k,iN m]]))))))))
 (
 br (jJ s { data:=#[102,110] })
 (
 br (decide (ni x.length > 2))
 (
 grd (decide (0 <= 1) && decide (1 < ni x.length)) (cz x 1 fun a=>
 asI .i64 a fun b=>iy V 40 [.op [.os (5,0) p],iN b] fun c f=>
 tk3 c fun g i=>(unc f fun j k=>mJ j fun m=>unc m fun n o=>iK (5,0) n fun q=>unn o (unn k (br (!i)
 (
 iy V 61 [.op [.os (5,0) q,.os (4,0) l,.os (3,0) d,iN h],iN (1)] fun r t=>
 il r fun u=>unn u (unc t fun v w=>tk2 v fun y z A B=>(unn w (some ((.tup []),[.op [.os (5,0) y,.os (4,0) z,.os (3,0) A,iN B]])))))
 (
 iy V 63 [.op [.os (5,0) q,.os (4,0) l,.os (3,0) d,iN h],.rs (1,0) g] fun r t=>
 tk4 r fun u v=>(unc t fun w y=>tk2 w fun z A B C=>(unn y (br (v != 0)
 (
 iy V 61 [.op [.os (5,0) z,.os (4,0) A,.os (3,0) B,iN C],iN v] fun E F=>
 il E fun G=>unn G (unc F fun H I=>tk2 H fun J K L M=>(unn I (some ((.tup []),[.op [.os (5,0) J,.os (4,0) K,.os (3,0) L,iN M]])))))
 (
 grd (cG x.length (some (2)) none) (iy V 95 [.op [.os (5,0) z,.os (4,0) A,.os (3,0) B,iN C],.rs (1,0) u,(.rs (1,0) (vi x (2))),.rs (1,1) e] fun E F=>
 il E fun G=>unn G (unc F fun H I=>tk2 H fun J K L M=>(unn I (some ((.tup []),[.op [.os (5,0) J,.os (4,0) K,.os (3,0) L,iN M]])))))))))))))))
 (
 br (jJ s { data:=#[108,101,116] })
 (
 br (decide (ni x.length > 3))
 (
 grd (cG x.length (some (1)) (some (2))) (iy V 63 [.op [.os (5,0) p,.os (4,0) l,.os (3,0) d,iN h],(.rs (1,0) (vi (vh x (2)) (1)))] fun a b=>
 tk4 a fun c f=>(unc b fun g i=>tk2 g fun j k m n=>(unn i (br (f != 0)
 (
 iy V 61 [.op [.os (5,0) j,.os (4,0) k,.os (3,0) m,iN n],iN f] fun o q=>
 il o fun r=>unn r (unc q fun t u=>tk2 t fun v w y z=>(unn u (some ((.tup []),[.op [.os (5,0) v,.os (4,0) w,.os (3,0) y,iN z]])))))
 (
 grd (cG x.length (some (3)) none) (iy V 95 [.op [.os (5,0) j,.os (4,0) k,.os (3,0) m,iN n],.rs (1,0) c,(.rs (1,0) (vi x (3))),.rs (1,1) e] fun o q=>
 il o fun r=>unn r (unc q fun t u=>tk2 t fun v w y z=>(unn u (grd (decide (0 <= 2) && decide (2 < ni x.length)) (cz x 2 fun A=>
 asI .i64 A fun B=>iy V 78 [.op [.os (5,0) v,.os (4,0) w,.os (3,0) y,iN z],iN B,.rs (1,1) e] fun C E=>
 il C fun F=>unn F (unc E fun G H=>tk2 G fun I J K L=>(unn H (iy V 65 [.op [.os (5,0) I,.os (4,0) J,.os (3,0) K,iN L],(.agg [iN (7),iN (0),iN (1),.str ({ data:=#[] })])] fun M N=>
 asI .i64 M fun _=>unc N fun O P=>tk2 O fun Q R S T=>(unn P (some ((.tup []),[.op [.os (5,0) Q,.os (4,0) R,.os (3,0) S,iN T]])))))))))))))))))
 (
 iy V 61 [.op [.os (5,0) p,.os (4,0) l,.os (3,0) d,iN h],iN (1)] fun a b=>
 il a fun c=>unn c (unc b fun f g=>tk2 f fun i j k m=>(unn g (some ((.tup []),[.op [.os (5,0) i,.os (4,0) j,.os (3,0) k,iN m]]))))))
 (
 iy V 61 [.op [.os (5,0) p,.os (4,0) l,.os (3,0) d,iN h],iN (1)] fun a b=>
 il a fun c=>unn c (unc b fun f g=>tk2 f fun i j k m=>(unn g (some ((.tup []),[.op [.os (5,0) i,.os (4,0) j,.os (3,0) k,iN m]])))))))
 (
 br (jJ s { data:=#[108,101,116] })
 (
 br (decide (ni x.length > 3))
 (
 grd (cG x.length (some (1)) (some (2))) (iy V 63 [.op [.os (5,0) p,.os (4,0) l,.os (3,0) d,iN h],(.rs (1,0) (vi (vh x (2)) (1)))] fun a b=>
 tk4 a fun c f=>(unc b fun g i=>tk2 g fun j k m n=>(unn i (br (f != 0)
 (
 iy V 61 [.op [.os (5,0) j,.os (4,0) k,.os (3,0) m,iN n],iN f] fun o q=>
 il o fun r=>unn r (unc q fun t u=>tk2 t fun v w y z=>(unn u (some ((.tup []),[.op [.os (5,0) v,.os (4,0) w,.os (3,0) y,iN z]])))))
 (
 grd (cG x.length (some (3)) none) (iy V 95 [.op [.os (5,0) j,.os (4,0) k,.os (3,0) m,iN n],.rs (1,0) c,(.rs (1,0) (vi x (3))),.rs (1,1) e] fun o q=>
 il o fun r=>unn r (unc q fun t u=>tk2 t fun v w y z=>(unn u (grd (decide (0 <= 2) && decide (2 < ni x.length)) (cz x 2 fun A=>
 asI .i64 A fun B=>iy V 78 [.op [.os (5,0) v,.os (4,0) w,.os (3,0) y,iN z],iN B,.rs (1,1) e] fun C E=>
 il C fun F=>unn F (unc E fun G H=>tk2 G fun I J K L=>(unn H (iy V 65 [.op [.os (5,0) I,.os (4,0) J,.os (3,0) K,iN L],(.agg [iN (7),iN (0),iN (1),.str ({ data:=#[] })])] fun M N=>
 asI .i64 M fun _=>unc N fun O P=>tk2 O fun Q R S T=>(unn P (some ((.tup []),[.op [.os (5,0) Q,.os (4,0) R,.os (3,0) S,iN T]])))))))))))))))))
 (
 iy V 61 [.op [.os (5,0) p,.os (4,0) l,.os (3,0) d,iN h],iN (1)] fun a b=>
 il a fun c=>unn c (unc b fun f g=>tk2 f fun i j k m=>(unn g (some ((.tup []),[.op [.os (5,0) i,.os (4,0) j,.os (3,0) k,iN m]]))))))
 (
 iy V 61 [.op [.os (5,0) p,.os (4,0) l,.os (3,0) d,iN h],iN (1)] fun a b=>
 il a fun c=>unn c (unc b fun f g=>tk2 f fun i j k m=>(unn g (some ((.tup []),[.op [.os (5,0) i,.os (4,0) j,.os (3,0) k,iN m]]))))))))):=by
 exact (xE Try.func89 rfl _).trans (by kernel_rfl)

end Go.Eng
/-! the functions as the interpreter has them -/
namespace Go.Eng
open Go.Proofs Go.Proofs.Try
set_option maxRecDepth 100000
theorem EK (p l d:List D) (h x:Int) (e:List D):V 78 [.op [.os (5,0) p,.os (4,0) l,.os (3,0) d,iN h],iN x,.rs (1,1) e] =
 br (h != 0)
 (some ((.tup []),[.op [.os (5,0) p,.os (4,0) l,.os (3,0) d,iN h]]))
 (
 grd (decide (0 <= x) && decide (x < ni p.length)) (cz p x.toNat fun a=>
 tk1 a fun b _ c _ _=>(br (b == 2)
 (
 br (b == 2)
 (
 iy V 65 [.op [.os (5,0) p,.os (4,0) l,.os (3,0) d,iN h],(.agg [iN (1),iN x,iN (0),.str ({ data:=#[] })])] fun f g=>
 asI .i64 f fun _=>unc g fun i j=>tk2 i fun k m n o=>(unn j (some ((.tup []),[.op [.os (5,0) k,.os (4,0) m,.os (3,0) n,iN o]]))))
 (
 br (b == 4)
 (
 iy V 88 [.op [.os (5,0) p,.os (4,0) l,.os (3,0) d,iN h],.str c,.rs (1,1) e] fun f g=>
 il f fun i=>unn i (unc g fun j k=>tk2 j fun m n o q=>(unn k (some ((.tup []),[.op [.os (5,0) m,.os (4,0) n,.os (3,0) o,iN q]])))))
 (
 br (b == 5)
 (
 iy V 40 [.op [.os (5,0) p],iN x] fun f g=>
 tk3 f fun i j=>(unc g fun k m=>mJ k fun n=>unc n fun o q=>iK (5,0) o fun r=>unn q (unn m (br (!j)
 (
 iy V 61 [.op [.os (5,0) r,.os (4,0) l,.os (3,0) d,iN h],iN (1)] fun s t=>
 il s fun u=>unn u (unc t fun v w=>tk2 v fun y z A B=>(unn w (some ((.tup []),[.op [.os (5,0) y,.os (4,0) z,.os (3,0) A,iN B]])))))
 (
 grd (decide (0 <= 0) && decide (0 < ni i.length)) (cz i 0 fun s=>
 asI .i64 s fun t=>iy V 41 [.op [.os (5,0) r,.os (4,0) l,.os (3,0) d,iN h],iN t] fun u v=>
 tk5 u fun w y=>(unc v fun z A=>tk2 z fun B C E F=>(unn A (br y
 (
 iy V 62 [.str w] fun G H=>
 asB G fun I=>unn H (br I
 (
 iy V 89 [.op [.os (5,0) B,.os (4,0) C,.os (3,0) E,iN F],.str w,.rs (1,0) i,.rs (1,1) e] fun J K=>
 il J fun L=>unn L (unc K fun M N=>tk2 M fun O P Q R=>(unn N (some ((.tup []),[.op [.os (5,0) O,.os (4,0) P,.os (3,0) Q,iN R]])))))
 (
 br (decide (w6 (ni i.length - 1) > 4))
 (
 iy V 61 [.op [.os (5,0) B,.os (4,0) C,.os (3,0) E,iN F],iN (1)] fun J K=>
 il J fun L=>unn L (unc K fun M N=>tk2 M fun O P Q R=>(unn N (some ((.tup []),[.op [.os (5,0) O,.os (4,0) P,.os (3,0) Q,iN R]])))))
 (xW e (ni i.length) (0) F i B C E))))
 (
 br (decide (w6 (ni i.length - 1) > 4))
 (
 iy V 61 [.op [.os (5,0) B,.os (4,0) C,.os (3,0) E,iN F],iN (1)] fun G H=>
 il G fun I=>unn I (unc H fun J K=>tk2 J fun L M N O=>(unn K (some ((.tup []),[.op [.os (5,0) L,.os (4,0) M,.os (3,0) N,iN O]])))))
 (xW e (ni i.length) (0) F i B C E)))))))))))
 (
 iy V 61 [.op [.os (5,0) p,.os (4,0) l,.os (3,0) d,iN h],iN (1)] fun f g=>
 il f fun i=>unn i (unc g fun j k=>tk2 j fun m n o q=>(unn k (some ((.tup []),[.op [.os (5,0) m,.os (4,0) n,.os (3,0) o,iN q]]))))))))
 (
 br (b == 3)
 (
 br (b == 3)
 (
 iy V 65 [.op [.os (5,0) p,.os (4,0) l,.os (3,0) d,iN h],(.agg [iN (1),iN x,iN (0),.str ({ data:=#[] })])] fun f g=>
 asI .i64 f fun _=>unc g fun i j=>tk2 i fun k m n o=>(unn j (some ((.tup []),[.op [.os (5,0) k,.os (4,0) m,.os (3,0) n,iN o]]))))
 (
 br (b == 4)
 (
 iy V 88 [.op [.os (5,0) p,.os (4,0) l,.os (3,0) d,iN h],.str c,.rs (1,1) e] fun f g=>
 il f fun i=>unn i (unc g fun j k=>tk2 j fun m n o q=>(unn k (some ((.tup []),[.op [.os (5,0) m,.os (4,0) n,.os (3,0) o,iN q]])))))
 (
 br (b == 5)
 (
 iy V 40 [.op [.os (5,0) p],iN x] fun f g=>
 tk3 f fun i j=>(unc g fun k m=>mJ k fun n=>unc n fun o q=>iK (5,0) o fun r=>unn q (unn m (br (!j)
 (
 iy V 61 [.op [.os (5,0) r,.os (4,0) l,.os (3,0) d,iN h],iN (1)] fun s t=>
 il s fun u=>unn u (unc t fun v w=>tk2 v fun y z A B=>(unn w (some ((.tup []),[.op [.os (5,0) y,.os (4,0) z,.os (3,0) A,iN B]])))))
 (
 grd (decide (0 <= 0) && decide (0 < ni i.length)) (cz i 0 fun s=>
 asI .i64 s fun t=>iy V 41 [.op [.os (5,0) r,.os (4,0) l,.os (3,0) d,iN h],iN t] fun u v=>
 tk5 u fun w y=>(unc v fun z A=>tk2 z fun B C E F=>(unn A (br y
 (
 iy V 62 [.str w] fun G H=>
 asB G fun I=>unn H (br I
 (
 iy V 89 [.op [.os (5,0) B,.os (4,0) C,.os (3,0) E,iN F],.str w,.rs (1,0) i,.rs (1,1) e] fun J K=>
 il J fun L=>unn L (unc K fun M N=>tk2 M fun O P Q R=>(unn N (some ((.tup []),[.op [.os (5,0) O,.os (4,0) P,.os (3,0) Q,iN R]])))))
 (
 br (decide (w6 (ni i.length - 1) > 4))
 (
 iy V 61 [.op [.os (5,0) B,.os (4,0) C,.os (3,0) E,iN F],iN (1)] fun J K=>
 il J fun L=>unn L (unc K fun M N=>tk2 M fun O P Q R=>(unn N (some ((.tup []),[.op [.os (5,0) O,.os (4,0) P,.os (3,0) Q,iN R]])))))
 (xW e (ni i.length) (0) F i B C E))))
 (
 br (decide (w6 (ni i.length - 1) > 4))
 (
 iy V 61 [.op [.os (5,0) B,.os (4,0) C,.os (3,0) E,iN F],iN (1)] fun G H=>
 il G fun I=>unn I (unc H fun J K=>tk2 J fun L M N O=>(unn K (some ((.tup []),[.op [.os (5,0) L,.os (4,0) M,.os (3,0) N,iN O]])))))
 (xW e (ni i.length) (0) F i B C E)))))))))))
 (
 iy V 61 [.op [.os (5,0) p,.os (4,0) l,.os (3,0) d,iN h],iN (1)] fun f g=>
 il f fun i=>unn i (unc g fun j k=>tk2 j fun m n o q=>(unn k (some ((.tup []),[.op [.os (5,0) m,.os (4,0) n,.os (3,0) o,iN q]]))))))))
 (
 br (b == 1)
 (
 iy V 65 [.op [.os (5,0) p,.os (4,0) l,.os (3,0) d,iN h],(.agg [iN (1),iN x,iN (0),.str ({ data:=#[] })])] fun f g=>
 asI .i64 f fun _=>unc g fun i j=>tk2 i fun k m n o=>(unn j (some ((.tup []),[.op [.os (5,0) k,.os (4,0) m,.os (3,0) n,iN o]]))))
 (
 br (b == 4)
 (
 iy V 88 [.op [.os (5,0) p,.os (4,0) l,.os (3,0) d,iN h],.str c,.rs (1,1) e] fun f g=>
 il f fun i=>unn i (unc g fun j k=>tk2 j fun m n o q=>(unn k (some ((.tup []),[.op [.os (5,0) m,.os (4,0) n,.os (3,0) o,iN q]])))))
 (
 br (b == 5)
 (
 iy V 40 [.op [.os (5,0) p],iN x] fun f g=>
 tk3 f fun i j=>(unc g fun k m=>mJ k fun n=>unc n fun o q=>iK (5,0) o fun r=>unn q (unn m (br (!j)
 (
 iy V 61 [.op [.os (5,0) r,.os (4,0) l,.os (3,0) d,iN h],iN (1)] fun s t=>
 il s fun u=>unn u (unc t fun v w=>tk2 v fun y z A B=>(unn w (some ((.tup []),[.op [.os (5,0) y,.os (4,0) z,.os (3,0) A,iN B]])))))
 (
 grd (decide (0 <= 0) && decide (0 < ni i.length)) (cz i 0 fun s=>
 asI .i64 s fun t=>iy V 41 [.op [.os (5,0) r,.os (4,0) l,.os (3,0) d,iN h],iN t] fun u v=>
 tk5 u fun w y=>(unc v fun z A=>tk2 z fun B C E F=>(unn A (br y
 (
 iy V 62 [.str w] fun G H=>
 asB G fun I=>unn H (br I
 (
 iy V 89 [.op [.os (5,0) B,.os (4,0) C,.os (3,0) E,iN F],.str w,.rs (1,0) i,.rs (1,1) e] fun J K=>
 il J fun L=>unn L (unc K fun M N=>tk2 M fun O P Q R=>(unn N (some ((.tup []),[.op [.os (5,0) O,.os (4,0) P,.os (3,0) Q,iN R]])))))
 (
 br (decide (w6 (ni i.length - 1) > 4))
 (
 iy V 61 [.op [.os (5,0) B,.os (4,0) C,.os (3,0) E,iN F],iN (1)] fun J K=>
 il J fun L=>unn L (unc K fun M N=>tk2 M fun O P Q R=>(unn N (some ((.tup []),[.op [.os (5,0) O,.os (4,0) P,.os (3,0) Q,iN R]])))))
 (xW e (ni i.length) (0) F i B C E))))
 (
 br (decide (w6 (ni i.length - 1) > 4))
 (
 iy V 61 [.op [.os (5,0) B,.os (4,0) C,.os (3,0) E,iN F],iN (1)] fun G H=>
 il G fun I=>unn I (unc H fun J K=>tk2 J fun L M N O=>(unn K (some ((.tup []),[.op [.os (5,0) L,.os (4,0) M,.os (3,0) N,iN O]])))))
 (xW e (ni i.length) (0) F i B C E)))))))))))
 (
 iy V 61 [.op [.os (5,0) p,.os (4,0) l,.os (3,0) d,iN h],iN (1)] fun f g=>
 il f fun i=>unn i (unc g fun j k=>tk2 j fun m n o q=>(unn k (some ((.tup []),[.op [.os (5,0) m,.os (4,0) n,.os (3,0) o,iN q]])))))))))))):=by
 exact (xE Try.func78 rfl _).trans (by kernel_rfl)
theorem J8 (a0_0 a0_1 a0_2:List D) (a1_:Int):V 44 [.agg [.rs (5,0) a0_0,.rs (4,0) a0_1,.rs (3,0) a0_2],iN a1_] =
 grd (decide (0 <= a1_) && decide (a1_ < ni a0_1.length)) (cz a0_1 a1_.toNat fun a=>
 Rj a fun b c d e=>(br (b == 1)
 (
 iy V 20 [.agg [.rs (5,0) a0_0],iN c] fun f g=>
 asB f fun h=>unn g (br h
 (
 br (d == 0)
 (some ((.bool (jJ e { data:=#[] })),[]))
 (some ((.bool false),[])))
 (some ((.bool false),[]))))
 (
 br (b == 2)
 (
 iy V 39 [iN c,iN (0),iN (20)] fun f g=>
 asB f fun h=>unn g (iy V 39 [iN d,iN (0),iN (3)] fun i j=>
 asB i fun k=>unn j (br h
 (
 br k
 (some ((.bool (jJ e { data:=#[] })),[]))
 (some ((.bool false),[])))
 (some ((.bool false),[])))))
 (
 br (b == 3)
 (
 iy V 45 [.str e] fun f g=>
 asB f fun h=>unn g (br (c == 0)
 (
 br (d == 0)
 (some ((.bool h),[]))
 (some ((.bool false),[])))
 (some ((.bool false),[]))))
 (
 br (b == 4)
 (
 br (b == 4)
 (
 iy V 39 [iN c,(iN (w6 (a1_ + 1))),(iN (ni a0_1.length))] fun f g=>
 asB f fun h=>unn g (br h
 (
 br (d == 0)
 (some ((.bool (jJ e { data:=#[] })),[]))
 (some ((.bool false),[])))
 (some ((.bool false),[]))))
 (
 br (b == 6)
 (
 iy V 39 [iN c,(iN (w6 (a1_ + 1))),(iN (w6 (ni a0_1.length - 1)))] fun f g=>
 asB f fun h=>unn g (iy V 39 [iN d,iN (0),iN (4)] fun i j=>
 asB i fun k=>unn j (br h
 (
 br k
 (some ((.bool (jJ e { data:=#[] })),[]))
 (some ((.bool false),[])))
 (some ((.bool false),[])))))
 (
 br (b == 7)
 (
 iy V 39 [iN d,iN (0),iN (4)] fun f g=>
 asB f fun h=>unn g (br (c == 0)
 (
 br h
 (some ((.bool (jJ e { data:=#[] })),[]))
 (some ((.bool false),[])))
 (some ((.bool false),[]))))
 (
 br (b == 8)
 (
 br (b == 8)
 (
 br (c == 0)
 (
 br (d == 0)
 (some ((.bool (jJ e { data:=#[] })),[]))
 (some ((.bool false),[])))
 (some ((.bool false),[])))
 (some ((.bool false),[])))
 (
 br (b == 9)
 (
 br (c == 0)
 (
 br (d == 0)
 (some ((.bool (jJ e { data:=#[] })),[]))
 (some ((.bool false),[])))
 (some ((.bool false),[])))
 (some ((.bool false),[])))))))
 (
 br (b == 5)
 (
 iy V 39 [iN c,(iN (w6 (a1_ + 1))),(iN (ni a0_1.length))] fun f g=>
 asB f fun h=>unn g (br h
 (
 br (d == 0)
 (some ((.bool (jJ e { data:=#[] })),[]))
 (some ((.bool false),[])))
 (some ((.bool false),[]))))
 (
 br (b == 6)
 (
 iy V 39 [iN c,(iN (w6 (a1_ + 1))),(iN (w6 (ni a0_1.length - 1)))] fun f g=>
 asB f fun h=>unn g (iy V 39 [iN d,iN (0),iN (4)] fun i j=>
 asB i fun k=>unn j (br h
 (
 br k
 (some ((.bool (jJ e { data:=#[] })),[]))
 (some ((.bool false),[])))
 (some ((.bool false),[])))))
 (
 br (b == 7)
 (
 iy V 39 [iN d,iN (0),iN (4)] fun f g=>
 asB f fun h=>unn g (br (c == 0)
 (
 br h
 (some ((.bool (jJ e { data:=#[] })),[]))
 (some ((.bool false),[])))
 (some ((.bool false),[]))))
 (
 br (b == 8)
 (
 br (b == 8)
 (
 br (c == 0)
 (
 br (d == 0)
 (some ((.bool (jJ e { data:=#[] })),[]))
 (some ((.bool false),[])))
 (some ((.bool false),[])))
 (some ((.bool false),[])))
 (
 br (b == 9)
 (
 br (c == 0)
 (
 br (d == 0)
 (some ((.bool (jJ e { data:=#[] })),[]))
 (some ((.bool false),[])))
 (some ((.bool false),[])))
 (some ((.bool false),[])))))))))))):=by
 exact (xE Try.func44 rfl _).trans (by kernel_rfl)
theorem DR (p:List D) (m1 m2 m3 m4 m5 m6 m7:Int) (cp cl cd:List D) (n:Int) (l:List D):V 83 [.op [.os (5,0) p,iN m1,iN m2,iN m3,iN m4,iN m5,iN m6,iN m7,.rs (5,0) cp,.rs (4,0) cl,.rs (3,0) cd],iN n,.rs (1,0) l] =
 br (ni l.length != 1)
 (some ((iN (2)),[.op [.os (5,0) p,iN m1,iN m2,iN m3,iN m4,iN m5,iN m6,iN m7,.rs (5,0) cp,.rs (4,0) cl,.rs (3,0) cd]]))
 (
 iy V 40 [.op [.os (5,0) p],iN n] fun a b=>
 tk3 a fun c d=>(unc b fun e f=>mJ e fun g=>unc g fun h i=>iK (5,0) h fun j=>unn i (unn f (br (!d)
 (some ((iN (7)),[.op [.os (5,0) j,iN m1,iN m2,iN m3,iN m4,iN m5,iN m6,iN m7,.rs (5,0) cp,.rs (4,0) cl,.rs (3,0) cd]]))
 (
 br (ni c.length != 4)
 (some ((iN (7)),[.op [.os (5,0) j,iN m1,iN m2,iN m3,iN m4,iN m5,iN m6,iN m7,.rs (5,0) cp,.rs (4,0) cl,.rs (3,0) cd]]))
 (
 grd (decide (0 <= 0) && decide (0 < ni c.length)) (cz c 0 fun k=>
 asI .i64 k fun m=>grd (decide (0 <= m) && decide (m < ni j.length)) (cz j m.toNat fun o=>
 asAgg o fun q=>cz q 0 fun r=>
 asI .i64 r fun s=>br (s != 3)
 (some ((iN (7)),[.op [.os (5,0) j,iN m1,iN m2,iN m3,iN m4,iN m5,iN m6,iN m7,.rs (5,0) cp,.rs (4,0) cl,.rs (3,0) cd]]))
 (
 grd (decide (0 <= 0) && decide (0 < ni c.length)) (cz c 0 fun t=>
 asI .i64 t fun u=>grd (decide (0 <= u) && decide (u < ni j.length)) (cz j u.toNat fun v=>
 asAgg v fun w=>cz w 1 fun x=>
 asI .i64 x fun y=>iy V 48 [.agg [.rs (5,0) cp,.rs (4,0) cl,.rs (3,0) cd],iN y] fun z A=>
 asB z fun B=>unn A (br (!B)
 (some ((iN (7)),[.op [.os (5,0) j,iN m1,iN m2,iN m3,iN m4,iN m5,iN m6,iN m7,.rs (5,0) cp,.rs (4,0) cl,.rs (3,0) cd]]))
 (
 grd (decide (0 <= 0) && decide (0 < ni c.length)) (cz c 0 fun C=>
 asI .i64 C fun E=>grd (decide (0 <= E) && decide (E < ni j.length)) (cz j E.toNat fun F=>
 asAgg F fun G=>cz G 1 fun H=>
 asI .i64 H fun I=>grd (decide (0 <= 1) && decide (1 < ni c.length)) (cz c 1 fun J=>
 asI .i64 J fun K=>grd (decide (0 <= 2) && decide (2 < ni c.length)) (cz c 2 fun L=>
 asI .i64 L fun M=>grd (decide (0 <= 3) && decide (3 < ni c.length)) (cz c 3 fun N=>
 asI .i64 N fun O=>grd (decide (0 <= 0) && decide (0 < ni l.length)) (cz l 0 fun P=>
 asI .i64 P fun Q=>iy V 71 [.op [.os (5,0) j,iN I,iN K,iN M,iN O,iN m5,iN m6,iN m7,.rs (5,0) cp,.rs (4,0) cl,.rs (3,0) cd],iN Q] fun R S=>
 il R fun T=>unn T (unc S fun U W=>tk6 U fun X Y Z a0 a1 a2 a3 a4 a5 a6 a7=>(unn W (some ((iN (0)),[.op [.os (5,0) X,iN Y,iN Z,iN a0,iN a1,iN a2,iN a3,iN a4,.rs (5,0) a5,.rs (4,0) a6,.rs (3,0) a7]]))))))))))))))))))))))):=by
 exact (xE Try.func83 rfl _).trans (by kernel_rfl)
theorem FF (p l d:List D) (h x:Int):V 21 [.op [.os (5,0) p,.os (4,0) l,.os (3,0) d,iN h],iN x] =
 iy V 40 [.op [.os (5,0) p],iN x] fun a b=>
 tk3 a fun c e=>(unc b fun f g=>mJ f fun i=>unc i fun j k=>iK (5,0) j fun m=>unn k (unn g (br e
 (
 br (decide (ni c.length > 0))
 (
 grd (decide (0 <= 0) && decide (0 < ni c.length)) (cz c 0 fun n=>
 asI .i64 n fun o=>iy V 41 [.op [.os (5,0) m,.os (4,0) l,.os (3,0) d,iN h],iN o] fun q r=>
 tk5 q fun s t=>(unc r fun u v=>tk2 u fun w y z A=>(unn v (br t
 (
 br (jJ s { data:=#[100,101,102,105,110,101] })
 (
 iy V 42 [.op [.os (5,0) w,.os (4,0) y,.os (3,0) z,iN A],.rs (1,0) c] fun B C=>
 il B fun E=>unn E (unc C fun F G=>tk2 F fun H I J K=>(unn G (some ((.tup []),[.op [.os (5,0) H,.os (4,0) I,.os (3,0) J,iN K]])))))
 (
 iy V 43 [.op [.os (5,0) w,.os (4,0) y,.os (3,0) z,iN A],.str ({ data:=#[109,97,105,110] }),.rs (1,0) [],.rs (1,0) [iN x]] fun B C=>
 il B fun E=>unn E (unc C fun F G=>tk2 F fun H I J K=>(unn G (some ((.tup []),[.op [.os (5,0) H,.os (4,0) I,.os (3,0) J,iN K]]))))))
 (
 iy V 43 [.op [.os (5,0) w,.os (4,0) y,.os (3,0) z,iN A],.str ({ data:=#[109,97,105,110] }),.rs (1,0) [],.rs (1,0) [iN x]] fun B C=>
 il B fun E=>unn E (unc C fun F G=>tk2 F fun H I J K=>(unn G (some ((.tup []),[.op [.os (5,0) H,.os (4,0) I,.os (3,0) J,iN K]]))))))))))
 (
 iy V 43 [.op [.os (5,0) m,.os (4,0) l,.os (3,0) d,iN h],.str ({ data:=#[109,97,105,110] }),.rs (1,0) [],.rs (1,0) [iN x]] fun n o=>
 il n fun q=>unn q (unc o fun r s=>tk2 r fun t u v w=>(unn s (some ((.tup []),[.op [.os (5,0) t,.os (4,0) u,.os (3,0) v,iN w]]))))))
 (
 iy V 43 [.op [.os (5,0) m,.os (4,0) l,.os (3,0) d,iN h],.str ({ data:=#[109,97,105,110] }),.rs (1,0) [],.rs (1,0) [iN x]] fun n o=>
 il n fun q=>unn q (unc o fun r s=>tk2 r fun t u v w=>(unn s (some ((.tup []),[.op [.os (5,0) t,.os (4,0) u,.os (3,0) v,iN w]])))))))):=by
 exact (xE Try.func21 rfl _).trans (by kernel_rfl)
theorem DB (p l d:List D) (h:Int) (x e:List D):V 94 [.op [.os (5,0) p,.os (4,0) l,.os (3,0) d,iN h],.rs (1,0) x,.rs (1,1) e] =
 grd (decide (0 <= 1) && decide (1 < ni x.length)) (cz x 1 fun a=>
 asI .i64 a fun b=>iy V 78 [.op [.os (5,0) p,.os (4,0) l,.os (3,0) d,iN h],iN b,.rs (1,1) e] fun c f=>
 il c fun g=>unn g (unc f fun i j=>tk2 i fun k m n o=>(unn j (iy V 65 [.op [.os (5,0) k,.os (4,0) m,.os (3,0) n,iN o],(.agg [iN (4),iN (0),iN (0),.str ({ data:=#[] })])] fun q r=>
 asI .i64 q fun s=>unc r fun t u=>tk2 t fun v w y z=>(unn u (grd (decide (0 <= 2) && decide (2 < ni x.length)) (cz x 2 fun A=>
 asI .i64 A fun B=>iy V 78 [.op [.os (5,0) v,.os (4,0) w,.os (3,0) y,iN z],iN B,.rs (1,1) e] fun C E=>
 il C fun F=>unn F (unc E fun G H=>tk2 G fun I J K L=>(unn H (iy V 65 [.op [.os (5,0) I,.os (4,0) J,.os (3,0) K,iN L],(.agg [iN (5),iN (0),iN (0),.str ({ data:=#[] })])] fun M N=>
 asI .i64 M fun O=>unc N fun P Q=>tk2 P fun R S T U=>(unn Q (iy V 97 [.op [.os (5,0) R,.os (4,0) S,.os (3,0) T,iN U],iN s] fun W X=>
 il W fun Y=>unn Y (unc X fun Z a0=>tk2 Z fun a1 a2 a3 a4=>(unn a0 (grd (decide (0 <= 3) && decide (3 < ni x.length)) (cz x 3 fun a5=>
 asI .i64 a5 fun a6=>iy V 78 [.op [.os (5,0) a1,.os (4,0) a2,.os (3,0) a3,iN a4],iN a6,.rs (1,1) e] fun a7 a8=>
 il a7 fun a9=>unn a9 (unc a8 fun b0 b1=>tk2 b0 fun b2 b3 b4 b5=>(unn b1 (iy V 97 [.op [.os (5,0) b2,.os (4,0) b3,.os (3,0) b4,iN b5],iN O] fun b6 b7=>
 il b6 fun b8=>unn b8 (unc b7 fun b9 c0=>tk2 b9 fun c1 c2 c3 c4=>(unn c0 (some ((.tup []),[.op [.os (5,0) c1,.os (4,0) c2,.os (3,0) c3,iN c4]]))))))))))))))))))))))):=by
 exact (xE Try.func94 rfl _).trans (by kernel_rfl)
theorem CG (p l d:List D) (h:Int) (n x e:List D):V 95 [.op [.os (5,0) p,.os (4,0) l,.os (3,0) d,iN h],.rs (1,0) n,.rs (1,0) x,.rs (1,1) e] =
 iy V 65 [.op [.os (5,0) p,.os (4,0) l,.os (3,0) d,iN h],(.agg [iN (6),(iN (w6 (ni l.length + 2))),(iN (ni n.length)),.str ({ data:=#[] })])] fun a b=>
 asI .i64 a fun _=>unc b fun c f=>tk2 c fun g i j k=>(unn f (iy V 65 [.op [.os (5,0) g,.os (4,0) i,.os (3,0) j,iN k],(.agg [iN (5),iN (0),iN (0),.str ({ data:=#[] })])] fun m o=>
 asI .i64 m fun q=>unc o fun r s=>tk2 r fun t u v w=>(unn s (iy V 98 [.rs (1,1) e] fun y z=>
 iK (1,1) y fun A=>unn z (grd (decide (ni (List.length (A++[D.rs (1,0) n])) <= LIM)) (nam (A++[D.rs (1,0) n]) fun B=>
 iy V 64 [.op [.os (5,0) t,.os (4,0) u,.os (3,0) v,iN w],.rs (1,0) x,.rs (1,1) B] fun C E=>
 il C fun F=>unn F (unc E fun G H=>tk2 G fun I J K L=>(unn H (iy V 65 [.op [.os (5,0) I,.os (4,0) J,.os (3,0) K,iN L],(.agg [iN (8),iN (0),iN (0),.str ({ data:=#[] })])] fun M N=>
 asI .i64 M fun _=>unc N fun O P=>tk2 O fun Q R S T=>(unn P (iy V 97 [.op [.os (5,0) Q,.os (4,0) R,.os (3,0) S,iN T],iN q] fun U W=>
 il U fun X=>unn X (unc W fun Y Z=>tk2 Y fun a0 a1 a2 a3=>(unn Z (some ((.tup []),[.op [.os (5,0) a0,.os (4,0) a1,.os (3,0) a2,iN a3]]))))))))))))))):=by
 exact (xE Try.func95 rfl _).trans (by kernel_rfl)
theorem Lj (a0_0 a0_1 a0_2 a1_0:List D) (a1_1 a1_2 a1_3 a1_4 a1_5 a1_6 a1_7 a2_:Int):V 11 [.agg [.rs (5,0) a0_0,.rs (4,0) a0_1,.rs (3,0) a0_2],.agg [.rs (5,0) a1_0,iN a1_1,iN a1_2,iN a1_3,iN a1_4,iN a1_5,iN a1_6,iN a1_7],iN a2_] =
 iy V 24 [.agg [.rs (5,0) a0_0,.rs (4,0) a0_1,.rs (3,0) a0_2],(.agg [.rs (5,0) a1_0,iN a1_1,iN a1_2,iN a1_3,iN a1_4,iN a1_5,iN a1_6,iN a1_7])] fun a b=>
 asB a fun c=>unn b (br (!c)
 (
 iy V 25 [.agg [.rs (5,0) a0_0,.rs (4,0) a0_1,.rs (3,0) a0_2],(.agg [.rs (5,0) a1_0,iN a1_1,iN a1_2,iN a1_3,iN a1_4,iN a1_5,iN a1_6,iN a1_7])] fun d e=>
 tk7 d fun f g h i j k l m=>(unn e (some ((.tup [.agg [.os (5,0) f,iN g,iN h,iN i,iN j,iN k,iN l,iN m],iN (0)]),[]))))
 (
 iy V 26 [.agg [.rs (5,0) a1_0,iN a1_1,iN a1_2,iN a1_3,iN a1_4,iN a1_5,iN a1_6,iN a1_7]] fun d e=>
 tk7 d fun f g h i j k l m=>(unn e (z8 a2_ (0) a0_0 a0_1 a0_2 g h i j k l m (0) (0) (0) (0) (0) (0) (0) f)))):=by
 exact (xE Try.func11 rfl _).trans (by kernel_rfl)
theorem Fu (p0 p1:List D) (p2 p3 p4:Int) (p5:List D):Dp p0 p1 p2 p3 p4 p5 =
 br (decide (p3 < p2))
 (
 grd (decide (0 <= p3) && decide (p3 < ni p1.length)) (cz p1 p3.toNat fun a=>
 asI .i64 a fun b=>iy V 21 [.op [.os (5,0) p5,.os (4,0) [],.os (3,0) [],iN p4],iN b] fun c d=>
 il c fun e=>unn e (unc d fun f g=>tk2 f fun h i j k=>(unn g (br (k == 1)
 (
 br (k == 1)
 (some ((.tup [.agg [.os (5,0) [],.os (4,0) [],.os (3,0) []],iN k,iN p3]),[]))
 (
 br (k == 3)
 (some ((.tup [.agg [.os (5,0) [],.os (4,0) [],.os (3,0) []],iN (3),iN (0)]),[]))
 (yI p0 p1 p2 (w6 (p3 + 1)) k h i j)))
 (
 br (k == 2)
 (some ((.tup [.agg [.os (5,0) [],.os (4,0) [],.os (3,0) []],iN k,iN p3]),[]))
 (
 br (k == 3)
 (some ((.tup [.agg [.os (5,0) [],.os (4,0) [],.os (3,0) []],iN (3),iN (0)]),[]))
 (yI p0 p1 p2 (w6 (p3 + 1)) k h i j))))))))
 (
 iy V 22 [.agg [.rs (5,0) p5,.rs (4,0) [],.rs (3,0) []]] fun a b=>
 asB a fun c=>unn b (br (!c)
 (some ((.tup [.agg [.os (5,0) [],.os (4,0) [],.os (3,0) []],iN (3),iN (0)]),[]))
 (some ((.tup [.agg [.os (5,0) p5,.os (4,0) [],.os (3,0) []],iN (0),(iN (ni p0.length))]),[])))):=by
 exact (xD _ _ _).trans (by kernel_rfl)
theorem FE (p l d:List D) (h io im ii:Int) (is:ByteArray):V 65 [.op [.os (5,0) p,.os (4,0) l,.os (3,0) d,iN h],.agg [iN io,iN im,iN ii,.str is]] =
 br (ni l.length == 400)
 (
 iy V 61 [.op [.os (5,0) p,.os (4,0) l,.os (3,0) d,iN h],iN (3)] fun a b=>
 il a fun c=>unn c (unc b fun e f=>tk2 e fun g i j k=>(unn f (br (k != 0)
 (some ((iN (0)),[.op [.os (5,0) g,.os (4,0) i,.os (3,0) j,iN k]]))
 (
 grd (decide (ni (List.length (i++[D.agg [iN io,iN im,iN ii,D.str is]])) <= LIM)) (nam (i++[D.agg [iN io,iN im,iN ii,D.str is]]) fun m=>
 some ((iN (w6 (ni m.length - 1))),[.op [.os (5,0) g,.os (4,0) m,.os (3,0) j,iN k]])))))))
 (
 br (h != 0)
 (some ((iN (0)),[.op [.os (5,0) p,.os (4,0) l,.os (3,0) d,iN h]]))
 (
 grd (decide (ni (List.length (l++[D.agg [iN io,iN im,iN ii,D.str is]])) <= LIM)) (nam (l++[D.agg [iN io,iN im,iN ii,D.str is]]) fun a=>
 some ((iN (w6 (ni a.length - 1))),[.op [.os (5,0) p,.os (4,0) a,.os (3,0) d,iN h]])))):=by
 exact (xE Try.func65 rfl _).trans (by kernel_rfl)
theorem Mg (a0_0:List D) (a1_:Int):V 13 [.agg [.rs (5,0) a0_0],iN a1_] =
 iy V 15 [.agg [.rs (5,0) a0_0]] fun a b=>
 asB a fun c=>unn b (br (!c)
 (some ((.str ({ data:=#[] })),[]))
 (
 iy V 20 [.agg [.rs (5,0) a0_0],iN a1_] fun d e=>
 asB d fun f=>unn e (br (!f)
 (some ((.str ({ data:=#[] })),[]))
 (
 grd (decide (0 <= a1_) && decide (a1_ < ni a0_0.length)) (cz a0_0 a1_.toNat fun g=>
 asAgg g fun h=>cz h 0 fun i=>
 asI .i64 i fun j=>br (j == 1)
 (some ((.str ({ data:=#[40,41] })),[]))
 (
 iy V 29 [.op [.rs (5,0) a0_0,.os (1,0) []],iN a1_] fun k l=>
 il k fun m=>unn m (unc l fun n o=>Ah n fun p q=>(unn o (iy V 30 [.op [.rs (5,0) p,.os (1,0) q]] fun r s=>
 asB r fun t=>unc s fun u v=>Ah u fun _ w=>(unn v (br t
 (some ((.str ({ data:=#[] })),[]))
 (gb w fun x=>some ((.str x),[]))))))))))))):=by
 exact (xE Try.func13 rfl _).trans (by kernel_rfl)
theorem C9 (p0:Int) (p1 p2:List D):y7 p0 p1 p2 =
 grd (decide (0 <= p0) && decide (p0 < ni p2.length)) (cz p2 p0.toNat fun a=>
 asAgg a fun b=>cz b 0 fun c=>
 asI .i64 c fun d=>br (d == 5)
 (
 grd (decide (0 <= p0) && decide (p0 < ni p2.length)) (cz p2 p0.toNat fun e=>
 asAgg e fun f=>cz f 3 fun g=>
 asI .i64 g fun h=>grd (decide (ni (List.length (p1++[iN h])) <= LIM)) (nam (p1++[iN h]) fun i=>
 grd (decide (0 <= p0) && decide (p0 < ni p2.length)) (cz p2 p0.toNat fun j=>
 asAgg j fun k=>cz k 4 fun l=>
 asI .i64 l fun m=>y7 m i p2))))
 (
 grd (decide (0 <= p0) && decide (p0 < ni p2.length)) (cz p2 p0.toNat fun e=>
 asAgg e fun f=>cz f 0 fun g=>
 asI .i64 g fun h=>some ((.tup [.os (1,0) p1,.bool (h == 1)]),[.op [.os (5,0) p2]])))):=by
 exact (xD _ _ _).trans (by kernel_rfl)
theorem yo (p0 p1:Int) (p2:List D):yx p0 p1 p2 =
 br (decide (p0 < p1))
 (
 grd (decide (0 <= p1) && decide (p1 < ni p2.length)) (cz p2 p1.toNat fun a=>
 asI .i64 a fun b=>grd (decide (0 <= p0) && decide (p0 < ni p2.length)) (cz p2 p0.toNat fun c=>
 asI .i64 c fun d=>grd (decide (0 <= p0) && decide (p0 < ni p2.length)) (cz p2 p0.toNat fun _=>
 nam (List.set p2 p0.toNat (iN b)) fun e=>
 grd (decide (0 <= p1) && decide (p1 < ni e.length)) (cz e p1.toNat fun _=>
 nam (List.set e p1.toNat (iN d)) fun f=>
 yx (w6 (p0 + 1)) (w6 (p1 - 1)) f)))))
 (some ((.tup []),[.os (1,0) p2])):=by
 exact (xD _ _ _).trans (by kernel_rfl)
theorem Iu :V 93 [] =
 some ((.os (1,0) [.str ({ data:=#[43] }),.str ({ data:=#[45] }),.str ({ data:=#[42] }),.str ({ data:=#[60] }),.str ({ data:=#[61] }),.str ({ data:=#[99,111,110,115] }),.str ({ data:=#[99,97,114] }),.str ({ data:=#[99,100,114] }),.str ({ data:=#[110,117,108,108,63] }),.str ({ data:=#[112,97,105,114,63] }),.str ({ data:=#[101,113,63] }),.str ({ data:=#[110,111,116] }),.str ({ data:=#[112,114,105,110,116] }),.str ({ data:=#[115,101,108,102] }),.str ({ data:=#[115,101,110,100] }),.str ({ data:=#[114,101,99,118] }),.str ({ data:=#[115,112,97,119,110] }),.str ({ data:=#[99,97,108,108,99,99] }),.str ({ data:=#[103,111] })]),[]):=by
 exact (xE Try.func93 rfl _).trans (by kernel_rfl)
theorem Ai (p0:List D) (p1:ByteArray) (p2 p3:Int):zg p0 p1 p2 p3 =
 br (decide (p3 < p2))
 (
 grd (decide (0 <= p3) && decide (p3 < ni p0.length)) (cz p0 p3.toNat fun a=>
 Qd a fun b c d=>(iy V 47 [.agg [.str b,iN c,iN d],(.bp [.str p1])] fun e f=>
 asB e fun g=>unn f (br g
 (some ((iN p3),[]))
 (zg p0 p1 p2 (w6 (p3 + 1)))))))
 (some ((iN (-1)),[])):=by
 exact (xD _ _ _).trans (by kernel_rfl)
theorem Aw (p0:List D) (p1 p2:Int) (p3:List D):zk p0 p1 p2 p3 =
 br (decide (p2 >= 0))
 (
 grd (decide (0 <= p2) && decide (p2 < ni p0.length)) (cz p0 p2.toNat fun a=>
 asI .i64 a fun b=>iy V 75 [.op [.os (5,0) p3],iN b,iN p1] fun c d=>
 asI .i64 c fun e=>unc d fun f g=>mJ f fun h=>unc h fun i j=>iK (5,0) i fun k=>unn j (unn g (zk p0 e (w6 (p2 - 1)) k))))
 (some ((iN p1),[.op [.os (5,0) p3]])):=by
 exact (xD _ _ _).trans (by kernel_rfl)
theorem z0 (p0 p1:List D) (p2 p3:Int):y0 p0 p1 p2 p3 =
 br (decide (p3 < p2))
 (
 grd (decide (0 <= p3) && decide (p3 < ni p0.length)) (cz p0 p3.toNat fun a=>
 asI .i64 a fun b=>iy V 79 [iN b,(.bp [.rs (5,0) p1])] fun c d=>
 asB c fun e=>unn d (br e
 (some ((iN p3),[]))
 (y0 p0 p1 p2 (w6 (p3 + 1))))))
 (some ((iN (-1)),[])):=by
 exact (xD _ _ _).trans (by kernel_rfl)
theorem Ip (p l:List D):V 57 [.op [.os (5,0) p],.rs (1,0) l] =
 iy V 37 [.op [.os (5,0) p],(.agg [iN (1),iN (0),.str ({ data:=#[] }),iN (0),iN (0)])] fun a b=>
 asI .i64 a fun c=>unc b fun d e=>mJ d fun f=>unc f fun g h=>iK (5,0) g fun i=>unn h (unn e (zk l c (w6 (ni l.length - 1)) i)):=by
 exact (xE Try.func57 rfl _).trans (by kernel_rfl)
theorem Gf (p q l:List D):V 80 [.op [.os (5,0) p],.agg [.rs (5,0) q],.rs (1,0) l] =
 grd (decide (0 <= ni q.length) && decide (ni q.length <= LIM)) (iy V 90 [.agg [.rs (5,0) q],.rs (1,0) l] fun a b=>
 iK (1,0) a fun c=>unn b (ya q (ni q.length) (0) (List.replicate (Int.toNat (ni q.length)) (iN (0))) c p)):=by
 exact (xE Try.func80 rfl _).trans (by kernel_rfl)
theorem Mh (a0_0 a1_:List D):V 90 [.agg [.rs (5,0) a0_0],.rs (1,0) a1_] =
 grd (decide (0 <= ni a0_0.length) && decide (ni a0_0.length <= LIM)) (zH a1_ (ni a1_.length) (0) a0_0 (List.replicate (Int.toNat (ni a0_0.length)) (D.bool false))):=by
 exact (xE Try.func90 rfl _).trans (by kernel_rfl)
theorem I8 (a0_:Bool):V 99 [.bool a0_] =
 br a0_
 (some ((.agg [iN (2),iN (1),.str ({ data:=#[] }),iN (0),iN (0)]),[]))
 (some ((.agg [iN (2),iN (0),.str ({ data:=#[] }),iN (0),iN (0)]),[])):=by
 exact (xE Try.func99 rfl _).trans (by kernel_rfl)
theorem DA (l p:List D):V 18 [.rs (1,0) l,.fn 79 [.bp [.rs (5,0) p]]] =
 iy V 38 [.rs (1,0) l,(.fn 79 [(.bp [.rs (5,0) p])])] fun a b=>
 asI .i64 a fun c=>unn b (some ((.bool (decide (c >= 0))),[])):=by
 exact (xE Try.func18 rfl _).trans (by kernel_rfl)
theorem Al (a0_:List D) (a1_:ByteArray):V 77 [.rs (1,0) a0_,.str a1_] =
 iy V 87 [.rs (1,0) a0_,.str a1_] fun a b=>
 asI .i64 a fun c=>unn b (some ((.bool (decide (c >= 0))),[])):=by
 exact (xE Try.func77 rfl _).trans (by kernel_rfl)
theorem FJ (p o:List D) :V 30 [.op [.rs (5,0) p,.os (1,0) o]] =
 some ((.bool (decide (ni o.length > 400))),[.op [.rs (5,0) p,.os (1,0) o]]):=by
 exact (xE Try.func30 rfl _).trans (by kernel_rfl)
theorem QC (a:ByteArray) (b c:Int) (s:ByteArray):V 47 [.agg [.str a,iN b,iN c],.bp [.str s]] =
 some ((.bool (jJ a s)),[]):=by
 exact (xE Try.func47 rfl _).trans (by kernel_rfl)
theorem J9 (a0_:Int):V 59 [.int .u8 a0_] =
 br (decide (a0_ >= 48))
 (some ((.bool (decide (a0_ <= 57))),[]))
 (some ((.bool false),[])):=by
 exact (xE Try.func59 rfl _).trans (by kernel_rfl)
theorem Ge (p:List D) (v:Int):V 40 [.op [.os (5,0) p],iN v] =
 y7 v [] p:=by
 exact (xE Try.func40 rfl _).trans (by kernel_rfl)

end Go.Eng
/-! the functions as the interpreter has them -/
namespace Go.Eng
open Go.Proofs Go.Proofs.Try
set_option maxRecDepth 100000
theorem NH (a0_0 a0_1 a0_2 a1_0:List D) (a1_1 a1_2 a1_3 a1_4 a1_5 a1_6 a1_7:Int):V 28 [.agg [.rs (5,0) a0_0,.rs (4,0) a0_1,.rs (3,0) a0_2],.agg [.rs (5,0) a1_0,iN a1_1,iN a1_2,iN a1_3,iN a1_4,iN a1_5,iN a1_6,iN a1_7]] =
 iy V 26 [.agg [.rs (5,0) a1_0,iN a1_1,iN a1_2,iN a1_3,iN a1_4,iN a1_5,iN a1_6,iN a1_7]] fun a b=>
 tk7 a fun c d e f g h i j=>(unn b (grd (decide (0 <= a1_1) && decide (a1_1 < ni a0_1.length)) (cz a0_1 a1_1.toNat fun k=>
 Rj k fun l m n o=>(br (l == 7)
 (
 iy V 50 [.op [.os (5,0) c,iN d,iN e,iN f,iN g,iN h,iN i,iN j,.rs (5,0) a0_0,.rs (4,0) a0_1,.rs (3,0) a0_2],iN n] fun p q=>
 asI .i64 p fun r=>unc q fun s t=>tk6 s fun u v w x y z A B _ _ _=>(unn t (br (r == 0)
 (
 br (decide (ni u.length > 3000))
 (
 iy V 53 [.agg [.rs (5,0) a1_0,iN a1_1,iN a1_2,iN a1_3,iN a1_4,iN a1_5,iN a1_6,iN a1_7],iN (6)] fun C E=>
 tk7 C fun F G H I J K L M=>(unn E (some ((.agg [.os (5,0) F,iN G,iN H,iN I,iN J,iN K,iN L,iN M]),[]))))
 (
 br (r != 0)
 (
 iy V 53 [.agg [.rs (5,0) a1_0,iN a1_1,iN a1_2,iN a1_3,iN a1_4,iN a1_5,iN a1_6,iN a1_7],iN r] fun C E=>
 tk7 C fun F G H I J K L M=>(unn E (some ((.agg [.os (5,0) F,iN G,iN H,iN I,iN J,iN K,iN L,iN M]),[]))))
 (some ((.agg [.os (5,0) u,iN v,iN w,iN x,iN y,iN z,iN A,iN B]),[]))))
 (
 br (r != 0)
 (
 iy V 53 [.agg [.rs (5,0) a1_0,iN a1_1,iN a1_2,iN a1_3,iN a1_4,iN a1_5,iN a1_6,iN a1_7],iN r] fun C E=>
 tk7 C fun F G H I J K L M=>(unn E (some ((.agg [.os (5,0) F,iN G,iN H,iN I,iN J,iN K,iN L,iN M]),[]))))
 (some ((.agg [.os (5,0) u,iN v,iN w,iN x,iN y,iN z,iN A,iN B]),[]))))))
 (
 br (l == 8)
 (
 iy V 51 [.op [.os (5,0) c,iN d,iN e,iN f,iN g,iN h,iN i,iN j,.rs (5,0) a0_0,.rs (4,0) a0_1,.rs (3,0) a0_2]] fun p q=>
 asI .i64 p fun r=>
 unc q fun s t=>tk6 s fun u v w x y z A B _ _ _=>(unn t (br (r == 0)
 (
 br (decide (ni u.length > 3000))
 (
 iy V 53 [.agg [.rs (5,0) a1_0,iN a1_1,iN a1_2,iN a1_3,iN a1_4,iN a1_5,iN a1_6,iN a1_7],iN (6)] fun C E=>
 tk7 C fun F G H I J K L M=>(unn E (some ((.agg [.os (5,0) F,iN G,iN H,iN I,iN J,iN K,iN L,iN M]),[]))))
 (
 br (r != 0)
 (
 iy V 53 [.agg [.rs (5,0) a1_0,iN a1_1,iN a1_2,iN a1_3,iN a1_4,iN a1_5,iN a1_6,iN a1_7],iN r] fun C E=>
 tk7 C fun F G H I J K L M=>(unn E (some ((.agg [.os (5,0) F,iN G,iN H,iN I,iN J,iN K,iN L,iN M]),[]))))
 (some ((.agg [.os (5,0) u,iN v,iN w,iN x,iN y,iN z,iN A,iN B]),[]))))
 (
 br (r != 0)
 (
 iy V 53 [.agg [.rs (5,0) a1_0,iN a1_1,iN a1_2,iN a1_3,iN a1_4,iN a1_5,iN a1_6,iN a1_7],iN r] fun C E=>
 tk7 C fun F G H I J K L M=>(unn E (some ((.agg [.os (5,0) F,iN G,iN H,iN I,iN J,iN K,iN L,iN M]),[]))))
 (some ((.agg [.os (5,0) u,iN v,iN w,iN x,iN y,iN z,iN A,iN B]),[]))))))
 (
 iy V 52 [.op [.os (5,0) c,iN d,iN e,iN f,iN g,iN h,iN i,iN j,.rs (5,0) a0_0,.rs (4,0) a0_1,.rs (3,0) a0_2],.agg [iN l,iN m,iN n,.str o]] fun p q=>
 asI .i64 p fun r=>
 unc q fun s t=>tk6 s fun u v w x y z A B _ _ _=>(unn t (br (r == 0)
 (
 br (decide (ni u.length > 3000))
 (
 iy V 53 [.agg [.rs (5,0) a1_0,iN a1_1,iN a1_2,iN a1_3,iN a1_4,iN a1_5,iN a1_6,iN a1_7],iN (6)] fun C E=>
 tk7 C fun F G H I J K L M=>(unn E (some ((.agg [.os (5,0) F,iN G,iN H,iN I,iN J,iN K,iN L,iN M]),[]))))
 (
 br (r != 0)
 (
 iy V 53 [.agg [.rs (5,0) a1_0,iN a1_1,iN a1_2,iN a1_3,iN a1_4,iN a1_5,iN a1_6,iN a1_7],iN r] fun C E=>
 tk7 C fun F G H I J K L M=>(unn E (some ((.agg [.os (5,0) F,iN G,iN H,iN I,iN J,iN K,iN L,iN M]),[]))))
 (some ((.agg [.os (5,0) u,iN v,iN w,iN x,iN y,iN z,iN A,iN B]),[]))))
 (
 br (r != 0)
 (
 iy V 53 [.agg [.rs (5,0) a1_0,iN a1_1,iN a1_2,iN a1_3,iN a1_4,iN a1_5,iN a1_6,iN a1_7],iN r] fun C E=>
 tk7 C fun F G H I J K L M=>(unn E (some ((.agg [.os (5,0) F,iN G,iN H,iN I,iN J,iN K,iN L,iN M]),[]))))
 (some ((.agg [.os (5,0) u,iN v,iN w,iN x,iN y,iN z,iN A,iN B]),[]))))))))))):=by
 exact (xE Try.func28 rfl _).trans (by kernel_rfl)
theorem NF (a0_0:List D) (a0_1 a0_2 a0_3 a0_4 a0_5 a0_6 a0_7:Int):V 49 [.agg [.rs (5,0) a0_0,iN a0_1,iN a0_2,iN a0_3,iN a0_4,iN a0_5,iN a0_6,iN a0_7]] =
 br (a0_5 == 1)
 (
 grd (decide (ni 4 <= LIM)) (iy V 66 [.agg [.rs (5,0) a0_0],.rs (1,0) [iN a0_2,iN a0_3,iN a0_4,iN a0_7]] fun a b=>
 asB a fun c=>unn b (br (!c)
 (
 iy V 26 [.agg [.rs (5,0) a0_0,iN a0_1,iN a0_2,iN a0_3,iN a0_4,iN a0_5,iN a0_6,iN a0_7]] fun d e=>
 tk7 d fun f g h i j k l m=>(unn e (some ((.agg [.os (5,0) f,iN g,iN h,iN i,iN j,iN k,iN l,iN m]),[]))))
 (
 iy V 67 [.agg [.rs (5,0) a0_0],.rs (1,0) [iN a0_2,iN a0_3,iN a0_4,iN a0_7]] fun d e=>
 il d fun f=>unc f fun g h=>asAgg g fun i=>unc i fun j k=>iK (5,0) j fun l=>unn k (unc h fun m n=>iK (1,0) m fun o=>unn n (unn e (grd (decide (0 <= 0) && decide (0 < ni o.length)) (cz o 0 fun p=>
 asI .i64 p fun q=>grd (decide (0 <= 1) && decide (1 < ni o.length)) (cz o 1 fun r=>
 asI .i64 r fun s=>grd (decide (0 <= 2) && decide (2 < ni o.length)) (cz o 2 fun t=>
 asI .i64 t fun u=>grd (decide (0 <= 3) && decide (3 < ni o.length)) (cz o 3 fun v=>
 asI .i64 v fun w=>some ((.agg [.os (5,0) l,iN a0_1,iN q,iN s,iN u,iN a0_5,iN a0_6,iN w]),[]))))))))))))
 (
 br (a0_5 == 2)
 (
 grd (decide (ni 4 <= LIM)) (iy V 66 [.agg [.rs (5,0) a0_0],.rs (1,0) [iN a0_2,iN a0_3,iN a0_4,iN a0_7]] fun a b=>
 asB a fun c=>unn b (br (!c)
 (
 iy V 26 [.agg [.rs (5,0) a0_0,iN a0_1,iN a0_2,iN a0_3,iN a0_4,iN a0_5,iN a0_6,iN a0_7]] fun d e=>
 tk7 d fun f g h i j k l m=>(unn e (some ((.agg [.os (5,0) f,iN g,iN h,iN i,iN j,iN k,iN l,iN m]),[]))))
 (
 iy V 67 [.agg [.rs (5,0) a0_0],.rs (1,0) [iN a0_2,iN a0_3,iN a0_4,iN a0_7]] fun d e=>
 il d fun f=>unc f fun g h=>asAgg g fun i=>unc i fun j k=>iK (5,0) j fun l=>unn k (unc h fun m n=>iK (1,0) m fun o=>unn n (unn e (grd (decide (0 <= 0) && decide (0 < ni o.length)) (cz o 0 fun p=>
 asI .i64 p fun q=>grd (decide (0 <= 1) && decide (1 < ni o.length)) (cz o 1 fun r=>
 asI .i64 r fun s=>grd (decide (0 <= 2) && decide (2 < ni o.length)) (cz o 2 fun t=>
 asI .i64 t fun u=>br (a0_5 == 2)
 (
 grd (decide (0 <= 3) && decide (3 < ni o.length)) (cz o 3 fun v=>
 asI .i64 v fun w=>some ((.agg [.os (5,0) l,iN a0_1,iN q,iN s,iN u,iN a0_5,iN a0_6,iN w]),[])))
 (some ((.agg [.os (5,0) l,iN a0_1,iN q,iN s,iN u,iN a0_5,iN a0_6,iN a0_7]),[]))))))))))))
 (
 iy V 66 [.agg [.rs (5,0) a0_0],.rs (1,0) [iN a0_2,iN a0_3,iN a0_4]] fun a b=>
 asB a fun c=>unn b (br (!c)
 (
 iy V 26 [.agg [.rs (5,0) a0_0,iN a0_1,iN a0_2,iN a0_3,iN a0_4,iN a0_5,iN a0_6,iN a0_7]] fun d e=>
 tk7 d fun f g h i j k l m=>(unn e (some ((.agg [.os (5,0) f,iN g,iN h,iN i,iN j,iN k,iN l,iN m]),[]))))
 (
 iy V 67 [.agg [.rs (5,0) a0_0],.rs (1,0) [iN a0_2,iN a0_3,iN a0_4]] fun d e=>
 il d fun f=>unc f fun g h=>asAgg g fun i=>unc i fun j k=>iK (5,0) j fun l=>unn k (unc h fun m n=>iK (1,0) m fun o=>unn n (unn e (grd (decide (0 <= 0) && decide (0 < ni o.length)) (cz o 0 fun p=>
 asI .i64 p fun q=>grd (decide (0 <= 1) && decide (1 < ni o.length)) (cz o 1 fun r=>
 asI .i64 r fun s=>grd (decide (0 <= 2) && decide (2 < ni o.length)) (cz o 2 fun t=>
 asI .i64 t fun u=>br (a0_5 == 2)
 (
 grd (decide (0 <= 3) && decide (3 < ni o.length)) (cz o 3 fun v=>
 asI .i64 v fun w=>some ((.agg [.os (5,0) l,iN a0_1,iN q,iN s,iN u,iN a0_5,iN a0_6,iN w]),[])))
 (some ((.agg [.os (5,0) l,iN a0_1,iN q,iN s,iN u,iN a0_5,iN a0_6,iN a0_7]),[])))))))))))):=by
 exact (xE Try.func49 rfl _).trans (by kernel_rfl)
theorem Iv (a0_:List D):V 4 [.rs (1,0) a0_] =
 iy V 7 [.rs (1,0) a0_] fun a b=>
 asB a fun c=>unn b (br c
 (some ((.bool true),[]))
 (
 iy V 12 [.rs (1,0) a0_,iN (1)] fun d e=>
 asI .i64 d fun f=>unn e (iy V 12 [.rs (1,0) a0_,iN (2)] fun g h=>
 asI .i64 g fun i=>unn h (iy V 14 [iN f] fun j k=>
 asS j fun l=>unn k (grd (decide (ni (ByteArray.size { data:=#[40,108,101,116,32,97,32] } + ByteArray.size l) <= LIM)) (grd (decide (ni (ByteArray.size ({ data:=#[40,108,101,116,32,97,32] }++l) + ByteArray.size { data:=#[32,40,108,101,116,32,102,32,40,102,110,32,40,98,41,32,40,45,32,97,32,98,41,41,32,40,108,101,116,32,97,32,48,32,40,102,32] }) <= LIM)) (iy V 14 [iN i] fun m n=>
 asS m fun o=>unn n (grd (decide (ni (ByteArray.size ({ data:=#[40,108,101,116,32,97,32] }++l++{ data:=#[32,40,108,101,116,32,102,32,40,102,110,32,40,98,41,32,40,45,32,97,32,98,41,41,32,40,108,101,116,32,97,32,48,32,40,102,32] }) + ByteArray.size o) <= LIM)) (grd (decide (ni (ByteArray.size ({ data:=#[40,108,101,116,32,97,32] }++l++{ data:=#[32,40,108,101,116,32,102,32,40,102,110,32,40,98,41,32,40,45,32,97,32,98,41,41,32,40,108,101,116,32,97,32,48,32,40,102,32] }++o) + ByteArray.size { data:=#[41,41,41,41] }) <= LIM)) (iy V 8 [.agg [.rs (5,0) []],.str ({ data:=#[40,108,101,116,32,97,32] }++l++{ data:=#[32,40,108,101,116,32,102,32,40,102,110,32,40,98,41,32,40,45,32,97,32,98,41,41,32,40,108,101,116,32,97,32,48,32,40,102,32] }++o++{ data:=#[41,41,41,41] })] fun p q=>
 il p fun r=>unc r fun s t=>asAgg s fun u=>unc u fun v w=>iK (5,0) v fun x=>unn w (unc t fun y z=>iK (1,0) y fun A=>unc z fun B C=>asI .i64 B fun E=>unc C fun F G=>asI .i64 F fun _=>unn G (unn q (iy V 9 [.agg [.rs (5,0) x],.rs (1,0) A] fun H I=>
 il H fun J=>unc J fun K L=>asAgg K fun M=>unc M fun N O=>iK (5,0) N fun P=>unc O fun Q R=>iK (4,0) Q fun S=>unc R fun T U=>iK (3,0) T fun W=>unn U (unc L fun X Y=>asI .i64 X fun Z=>unc Y fun a0 a1=>asI .i64 a0 fun _=>unn a1 (unn I (iy V 10 [.agg [.rs (5,0) P,.rs (4,0) S,.rs (3,0) W],.str ({ data:=#[109,97,105,110] })] fun a2 a3=>
 il a2 fun a4=>unc a4 fun a5 a6=>asAgg a5 fun a7=>unc a7 fun a8 a9=>iK (5,0) a8 fun b0=>unc a9 fun b1 b3=>asI .i64 b1 fun b4=>unc b3 fun b5 b6=>asI .i64 b5 fun b7=>unc b6 fun b8 b9=>asI .i64 b8 fun c0=>unc b9 fun c1 c2=>asI .i64 c1 fun c3=>unc c2 fun c4 c5=>asI .i64 c4 fun c6=>unc c5 fun c7 c8=>asI .i64 c7 fun c9=>unc c8 fun d0 d1=>asI .i64 d0 fun d2=>unn d1 (unc a6 fun d3 d4=>asB d3 fun d5=>unn d4 (unn a3 (iy V 11 [.agg [.rs (5,0) P,.rs (4,0) S,.rs (3,0) W],(.agg [.rs (5,0) b0,iN b4,iN b7,iN c0,iN c3,iN c6,iN c9,iN d2]),iN (200)] fun d6 d7=>
 il d6 fun d8=>unc d8 fun d9 e0=>asAgg d9 fun e1=>unc e1 fun e2 e3=>iK (5,0) e2 fun e4=>unc e3 fun e5 e6=>asI .i64 e5 fun _=>unc e6 fun e7 e8=>asI .i64 e7 fun _=>unc e8 fun e9 f0=>asI .i64 e9 fun _=>unc f0 fun f1 f2=>asI .i64 f1 fun _=>unc f2 fun f3 f4=>asI .i64 f3 fun f5=>unc f4 fun f6 f7=>asI .i64 f6 fun _=>unc f7 fun f8 f9=>asI .i64 f8 fun g0=>unn f9 (unc e0 fun g1 g2=>asI .i64 g1 fun _=>unn g2 (unn d7 (br (E == 0)
 (
 br (Z == 0)
 (
 br d5
 (
 br (f5 == 2)
 (
 iy V 13 [.agg [.rs (5,0) e4],iN g0] fun g3 g4=>
 asS g3 fun g5=>unn g4 (iy V 14 [(iN (w6 (f - i)))] fun g6 g7=>
 asS g6 fun g8=>unn g7 (some ((.bool (jJ g5 g8)),[]))))
 (some ((.bool false),[])))
 (some ((.bool false),[])))
 (some ((.bool false),[])))
 (some ((.bool false),[])))))))))))))))))))))))):=by
 exact (xE Try.func4 rfl _).trans (by kernel_rfl)
theorem z7 (p0:List D) (p1 p2:Int) (p3 p4 p5:List D):ya p0 p1 p2 p3 p4 p5 =
 br (decide (p2 < p1))
 (
 grd (decide (0 <= p2) && decide (p2 < ni p0.length)) (cz p0 p2.toNat fun a=>
 tk1 a fun b c d e f=>(grd (decide (0 <= p2) && decide (p2 < ni p3.length)) (cz p3 p2.toNat fun _=>
 nam (List.set p3 p2.toNat (iN (-1))) fun g=>
 grd (decide (0 <= p2) && decide (p2 < ni p4.length)) (cz p4 p2.toNat fun h=>
 asB h fun i=>br (!i)
 (ya p0 p1 (w6 (p2 + 1)) g p4 p5)
 (
 br (b == 5)
 (
 grd (decide (0 <= e) && decide (e < ni g.length)) (cz g e.toNat fun j=>
 asI .i64 j fun k=>grd (decide (0 <= f) && decide (f < ni g.length)) (cz g f.toNat fun l=>
 asI .i64 l fun m=>iy V 37 [.op [.os (5,0) p5],.agg [iN b,iN c,.str d,iN k,iN m]] fun n o=>
 asI .i64 n fun p=>unc o fun q r=>mJ q fun s=>unc s fun t u=>iK (5,0) t fun v=>unn u (unn r (grd (decide (0 <= p2) && decide (p2 < ni g.length)) (cz g p2.toNat fun _=>
 nam (List.set g p2.toNat (iN p)) fun w=>
 ya p0 p1 (w6 (p2 + 1)) w p4 v))))))
 (
 br (b == 6)
 (
 br (b == 6)
 (
 grd (decide (0 <= e) && decide (e < ni g.length)) (cz g e.toNat fun j=>
 asI .i64 j fun k=>iy V 37 [.op [.os (5,0) p5],.agg [iN b,iN c,.str d,iN k,iN f]] fun l m=>
 asI .i64 l fun n=>unc m fun o p=>mJ o fun q=>unc q fun r s=>iK (5,0) r fun t=>unn s (unn p (grd (decide (0 <= p2) && decide (p2 < ni g.length)) (cz g p2.toNat fun _=>
 nam (List.set g p2.toNat (iN n)) fun u=>
 ya p0 p1 (w6 (p2 + 1)) u p4 t)))))
 (
 iy V 37 [.op [.os (5,0) p5],.agg [iN b,iN c,.str d,iN e,iN f]] fun j k=>
 asI .i64 j fun l=>unc k fun m n=>mJ m fun o=>unc o fun p q=>iK (5,0) p fun r=>unn q (unn n (grd (decide (0 <= p2) && decide (p2 < ni g.length)) (cz g p2.toNat fun _=>
 nam (List.set g p2.toNat (iN l)) fun s=>
 ya p0 p1 (w6 (p2 + 1)) s p4 r)))))
 (
 br (b == 7)
 (
 grd (decide (0 <= e) && decide (e < ni g.length)) (cz g e.toNat fun j=>
 asI .i64 j fun k=>iy V 37 [.op [.os (5,0) p5],.agg [iN b,iN c,.str d,iN k,iN f]] fun l m=>
 asI .i64 l fun n=>unc m fun o p=>mJ o fun q=>unc q fun r s=>iK (5,0) r fun t=>unn s (unn p (grd (decide (0 <= p2) && decide (p2 < ni g.length)) (cz g p2.toNat fun _=>
 nam (List.set g p2.toNat (iN n)) fun u=>
 ya p0 p1 (w6 (p2 + 1)) u p4 t)))))
 (
 iy V 37 [.op [.os (5,0) p5],.agg [iN b,iN c,.str d,iN e,iN f]] fun j k=>
 asI .i64 j fun l=>unc k fun m n=>mJ m fun o=>unc o fun p q=>iK (5,0) p fun r=>unn q (unn n (grd (decide (0 <= p2) && decide (p2 < ni g.length)) (cz g p2.toNat fun _=>
 nam (List.set g p2.toNat (iN l)) fun s=>
 ya p0 p1 (w6 (p2 + 1)) s p4 r))))))))))))
 (some ((.os (1,0) p3),[.op [.os (5,0) p5]])):=by
 exact (xD _ _ _).trans (by kernel_rfl)
theorem Ln (a0_0 a0_1:Int) (a0_2:ByteArray) (a0_3 a0_4 a1_:Int):V 31 [.agg [iN a0_0,iN a0_1,.str a0_2,iN a0_3,iN a0_4],iN a1_] =
 br (a0_0 == 1)
 (
 iy V 39 [iN a0_1,iN (0),iN (0)] fun a b=>
 asB a fun c=>unn b (br c
 (
 br (jJ a0_2 { data:=#[] })
 (
 br (a0_3 == 0)
 (some ((.bool (a0_4 == 0)),[]))
 (some ((.bool false),[])))
 (some ((.bool false),[])))
 (some ((.bool false),[]))))
 (
 br (a0_0 == 2)
 (
 iy V 39 [iN a0_1,iN (0),iN (1)] fun a b=>
 asB a fun c=>unn b (br c
 (
 br (jJ a0_2 { data:=#[] })
 (
 br (a0_3 == 0)
 (some ((.bool (a0_4 == 0)),[]))
 (some ((.bool false),[])))
 (some ((.bool false),[])))
 (some ((.bool false),[]))))
 (
 br (a0_0 == 3)
 (
 iy V 39 [iN a0_1,iN (-1000000000),iN (1000000000)] fun a b=>
 asB a fun c=>unn b (br c
 (
 br (jJ a0_2 { data:=#[] })
 (
 br (a0_3 == 0)
 (some ((.bool (a0_4 == 0)),[]))
 (some ((.bool false),[])))
 (some ((.bool false),[])))
 (some ((.bool false),[]))))
 (
 br (a0_0 == 4)
 (
 iy V 45 [.str a0_2] fun a b=>
 asB a fun c=>unn b (iy V 39 [iN a0_1,iN (0),iN (0)] fun d e=>
 asB d fun f=>unn e (br f
 (
 br c
 (
 br (a0_3 == 0)
 (some ((.bool (a0_4 == 0)),[]))
 (some ((.bool false),[])))
 (some ((.bool false),[])))
 (some ((.bool false),[])))))
 (
 br (a0_0 == 5)
 (
 iy V 39 [iN a0_3,iN (0),(iN (w6 (a1_ - 1)))] fun a b=>
 asB a fun c=>unn b (iy V 39 [iN a0_4,iN (0),(iN (w6 (a1_ - 1)))] fun d e=>
 asB d fun f=>unn e (iy V 39 [iN a0_1,iN (0),iN (0)] fun g h=>
 asB g fun i=>unn h (br i
 (
 br (jJ a0_2 { data:=#[] })
 (
 br c
 (some ((.bool f),[]))
 (some ((.bool false),[])))
 (some ((.bool false),[])))
 (some ((.bool false),[]))))))
 (
 br (a0_0 == 6)
 (
 iy V 39 [iN a0_3,iN (0),(iN (w6 (a1_ - 1)))] fun a b=>
 asB a fun c=>unn b (iy V 39 [iN a0_1,iN (0),iN (1000000000)] fun d e=>
 asB d fun f=>unn e (br f
 (
 br (jJ a0_2 { data:=#[] })
 (
 br c
 (some ((.bool (a0_4 == 0)),[]))
 (some ((.bool false),[])))
 (some ((.bool false),[])))
 (some ((.bool false),[])))))
 (
 br (a0_0 == 7)
 (
 iy V 39 [iN a0_3,iN (0),(iN (w6 (a1_ - 1)))] fun a b=>
 asB a fun c=>unn b (iy V 39 [iN a0_1,iN (0),iN (0)] fun d e=>
 asB d fun f=>unn e (br f
 (
 br (jJ a0_2 { data:=#[] })
 (
 br c
 (some ((.bool (a0_4 == 0)),[]))
 (some ((.bool false),[])))
 (some ((.bool false),[])))
 (some ((.bool false),[])))))
 (
 br (a0_0 == 8)
 (
 iy V 39 [iN a0_1,iN (0),iN (99)] fun a b=>
 asB a fun c=>unn b (br c
 (
 br (jJ a0_2 { data:=#[] })
 (
 br (a0_3 == 0)
 (some ((.bool (a0_4 == 0)),[]))
 (some ((.bool false),[])))
 (some ((.bool false),[])))
 (some ((.bool false),[]))))
 (
 br (a0_0 == 9)
 (
 iy V 39 [iN a0_1,iN (0),iN (1000000000)] fun a b=>
 asB a fun c=>unn b (br c
 (
 br (jJ a0_2 { data:=#[] })
 (
 br (a0_3 == 0)
 (some ((.bool (a0_4 == 0)),[]))
 (some ((.bool false),[])))
 (some ((.bool false),[])))
 (some ((.bool false),[]))))
 (some ((.bool false),[])))))))))):=by
 exact (xE Try.func31 rfl _).trans (by kernel_rfl)
theorem z3 (p0:ByteArray) (p1 p2:Int) (p3 p4 p5:List D):yE p0 p1 p2 p3 p4 p5 =
 br (decide (p2 < ni (ByteArray.size p0)))
 (
 grd (decide (0 <= p2) && decide (p2 < ni (ByteArray.size p0))) (iy V 34 [.int .u8 (bt p0 p2)] fun a b=>
 asB a fun c=>unn b (br c
 (yE p0 p1 (w6 (p2 + 1)) p3 p4 p5)
 (
 grd (cG (ByteArray.size p0) (some p1) (some p2)) (iy V 35 [(.str (ByteArray.extract p0 p1.toNat p2.toNat))] fun d e=>
 il d fun f=>unc f fun g h=>tk1 g fun i j k l m=>(unc h fun n o=>asB n fun p=>unn o (unn e (br (!p)
 (some ((.tup [iN (3),iN p1]),[.op [.os (5,0) p3,.os (1,2) p4,.os (1,0) p5]]))
 (
 iy V 37 [.op [.os (5,0) p3],.agg [iN i,iN j,.str k,iN l,iN m]] fun q r=>
 asI .i64 q fun s=>unc r fun t u=>mJ t fun v=>unc v fun w x=>iK (5,0) w fun y=>unn x (unn u (iy V 36 [.op [.os (5,0) y,.os (1,2) p4,.os (1,0) p5],iN s] fun z A=>
 il z fun B=>unn B (unc A fun C E=>JQ C fun F G H=>(unn E (xQ p0 p2 F G H))))))))))))))
 (
 grd (cG (ByteArray.size p0) (some p1) (some p2)) (iy V 35 [(.str (ByteArray.extract p0 p1.toNat p2.toNat))] fun a b=>
 il a fun c=>unc c fun d e=>tk1 d fun f g h i j=>(unc e fun k l=>asB k fun m=>unn l (unn b (br (!m)
 (some ((.tup [iN (3),iN p1]),[.op [.os (5,0) p3,.os (1,2) p4,.os (1,0) p5]]))
 (
 iy V 37 [.op [.os (5,0) p3],.agg [iN f,iN g,.str h,iN i,iN j]] fun n o=>
 asI .i64 n fun p=>unc o fun q r=>mJ q fun s=>unc s fun t u=>iK (5,0) t fun v=>unn u (unn r (iy V 36 [.op [.os (5,0) v,.os (1,2) p4,.os (1,0) p5],iN p] fun w x=>
 il w fun y=>unn y (unc x fun z A=>JQ z fun B C E=>(unn A (xQ p0 p2 B C E))))))))))):=by
 exact (xD _ _ _).trans (by kernel_rfl)
theorem NB (a0_0:List D) (a1_:ByteArray):V 8 [.agg [.rs (5,0) a0_0],.str a1_] =
 iy V 15 [.agg [.rs (5,0) a0_0]] fun a b=>
 asB a fun c=>unn b (br (!c)
 (some ((.tup [.agg [.os (5,0) []],.os (1,0) [],iN (6),iN (0)]),[]))
 (
 br (decide (ni (ByteArray.size a1_) > 400))
 (
 iy V 16 [.agg [.rs (5,0) a0_0]] fun d e=>
 asAgg d fun f=>unc f fun g h=>iK (5,0) g fun i=>unn h (unn e (some ((.tup [.agg [.os (5,0) i],.os (1,0) [],iN (1),iN (0)]),[]))))
 (
 iy V 16 [.agg [.rs (5,0) a0_0]] fun d e=>
 asAgg d fun f=>unc f fun g h=>iK (5,0) g fun i=>unn h (unn e (iy V 17 [(.op [.os (5,0) i,(.os (1,2) [.os (1,0) []]),.os (1,0) []]),.str a1_] fun j k=>
 Qc j fun l m=>(unc k fun n o=>JQ n fun p q _=>(unn o (br (l == 0)
 (
 iy V 15 [.agg [.rs (5,0) p]] fun r s=>
 asB r fun t=>unn s (br (!t)
 (
 iy V 16 [.agg [.rs (5,0) a0_0]] fun u v=>
 asAgg u fun w=>unc w fun x y=>iK (5,0) x fun z=>unn y (unn v (some ((.tup [.agg [.os (5,0) z],.os (1,0) [],iN (6),iN (0)]),[]))))
 (
 br (l != 0)
 (
 iy V 16 [.agg [.rs (5,0) a0_0]] fun u v=>
 asAgg u fun w=>unc w fun x y=>iK (5,0) x fun z=>unn y (unn v (some ((.tup [.agg [.os (5,0) z],.os (1,0) [],iN l,iN m]),[]))))
 (
 grd (decide (0 <= 0) && decide (0 < ni q.length)) (cz q 0 fun u=>
 iK (1,0) u fun v=>some ((.tup [.agg [.os (5,0) p],.os (1,0) v,iN (0),iN m]),[]))))))
 (
 br (l != 0)
 (
 iy V 16 [.agg [.rs (5,0) a0_0]] fun r s=>
 asAgg r fun t=>unc t fun u v=>iK (5,0) u fun w=>unn v (unn s (some ((.tup [.agg [.os (5,0) w],.os (1,0) [],iN l,iN m]),[]))))
 (
 grd (decide (0 <= 0) && decide (0 < ni q.length)) (cz q 0 fun r=>
 iK (1,0) r fun s=>some ((.tup [.agg [.os (5,0) p],.os (1,0) s,iN (0),iN m]),[])))))))))))):=by
 exact (xE Try.func8 rfl _).trans (by kernel_rfl)
theorem zn (p0 p1:List D) (p2 p3 p4:Int) (p5 p6 p7:List D):yI p0 p1 p2 p3 p4 p5 p6 p7 =
 br (decide (p3 < p2))
 (
 grd (decide (0 <= p3) && decide (p3 < ni p1.length)) (cz p1 p3.toNat fun a=>
 asI .i64 a fun b=>iy V 21 [.op [.os (5,0) p5,.os (4,0) p6,.os (3,0) p7,iN p4],iN b] fun c d=>
 il c fun e=>unn e (unc d fun f g=>tk2 f fun h i j k=>(unn g (br (k == 1)
 (
 br (k == 1)
 (some ((.tup [.agg [.os (5,0) [],.os (4,0) [],.os (3,0) []],iN k,iN p3]),[]))
 (
 br (k == 3)
 (some ((.tup [.agg [.os (5,0) [],.os (4,0) [],.os (3,0) []],iN (3),iN (0)]),[]))
 (yI p0 p1 p2 (w6 (p3 + 1)) k h i j)))
 (
 br (k == 2)
 (some ((.tup [.agg [.os (5,0) [],.os (4,0) [],.os (3,0) []],iN k,iN p3]),[]))
 (
 br (k == 3)
 (some ((.tup [.agg [.os (5,0) [],.os (4,0) [],.os (3,0) []],iN (3),iN (0)]),[]))
 (yI p0 p1 p2 (w6 (p3 + 1)) k h i j))))))))
 (
 iy V 22 [.agg [.rs (5,0) p5,.rs (4,0) p6,.rs (3,0) p7]] fun a b=>
 asB a fun c=>unn b (br (!c)
 (some ((.tup [.agg [.os (5,0) [],.os (4,0) [],.os (3,0) []],iN (3),iN (0)]),[]))
 (some ((.tup [.agg [.os (5,0) p5,.os (4,0) p6,.os (3,0) p7],iN (0),(iN (ni p0.length))]),[])))):=by
 exact (xD _ _ _).trans (by kernel_rfl)
theorem zG (p0 p1:List D) (p2 p3 p4:Int) (p5 p6 p7:List D):yz p0 p1 p2 p3 p4 p5 p6 p7 =
 br (decide (p3 < p2))
 (
 grd (decide (0 <= p3) && decide (p3 < ni p1.length)) (cz p1 p3.toNat fun a=>
 asI .i64 a fun b=>br (decide (p3 > 0))
 (
 iy V 65 [.op [.os (5,0) p5,.os (4,0) p6,.os (3,0) p7,iN p4],(.agg [iN (9),iN (0),iN (0),.str ({ data:=#[] })])] fun c d=>
 asI .i64 c fun _=>unc d fun e f=>tk2 e fun g h i j=>(unn f (iy V 78 [.op [.os (5,0) g,.os (4,0) h,.os (3,0) i,iN j],iN b,.rs (1,1) p0] fun k l=>
 il k fun m=>unn m (unc l fun n o=>tk2 n fun p q r s=>(unn o (yz p0 p1 p2 (w6 (p3 + 1)) s p q r))))))
 (
 iy V 78 [.op [.os (5,0) p5,.os (4,0) p6,.os (3,0) p7,iN p4],iN b,.rs (1,1) p0] fun c d=>
 il c fun e=>unn e (unc d fun f g=>tk2 f fun h i j k=>(unn g (yz p0 p1 p2 (w6 (p3 + 1)) k h i j))))))
 (some ((.tup []),[.op [.os (5,0) p5,.os (4,0) p6,.os (3,0) p7,iN p4]])):=by
 exact (xD _ _ _).trans (by kernel_rfl)
theorem zz (p0:List D) (p1 p2 p3:Int) (p4 p5 p6 p7:List D):xW p0 p1 p2 p3 p4 p5 p6 p7 =
 br (decide (p2 < p1))
 (
 grd (decide (0 <= p2) && decide (p2 < ni p4.length)) (cz p4 p2.toNat fun a=>
 asI .i64 a fun b=>iy V 78 [.op [.os (5,0) p5,.os (4,0) p6,.os (3,0) p7,iN p3],iN b,.rs (1,1) p0] fun c d=>
 il c fun e=>unn e (unc d fun f g=>tk2 f fun h i j k=>(unn g (xW p0 p1 (w6 (p2 + 1)) k p4 h i j)))))
 (
 iy V 65 [.op [.os (5,0) p5,.os (4,0) p6,.os (3,0) p7,iN p3],(.agg [iN (7),iN (0),(iN (w6 (ni p4.length - 1))),.str ({ data:=#[] })])] fun a b=>
 asI .i64 a fun _=>unc b fun c d=>tk2 c fun e f g h=>(unn d (some ((.tup []),[.op [.os (5,0) e,.os (4,0) f,.os (3,0) g,iN h]])))):=by
 exact (xD _ _ _).trans (by kernel_rfl)
theorem Bj (p0:List D) (p1 p2:Int) (p3 p4 p5:List D):zO p0 p1 p2 p3 p4 p5 =
 br (decide (p2 < p1))
 (
 grd (decide (0 <= p2) && decide (p2 < ni p0.length)) (cz p0 p2.toNat fun a=>
 Qd a fun b c d=>(iy V 45 [.str b] fun e f=>
 asB e fun g=>unn f (br (!g)
 (some ((.bool false),[]))
 (
 iy V 23 [.agg [.rs (5,0) p3,.rs (4,0) p4,.rs (3,0) p5],.str b] fun h i=>
 asI .i64 h fun j=>unn i (br (j != p2)
 (some ((.bool false),[]))
 (
 iy V 39 [iN c,iN (0),(iN (w6 (ni p4.length - 1)))] fun k l=>
 asB k fun m=>unn l (br (!m)
 (some ((.bool false),[]))
 (
 iy V 39 [iN d,iN (0),iN (4)] fun n o=>
 asB n fun p=>unn o (br (!p)
 (some ((.bool false),[]))
 (zO p0 p1 (w6 (p2 + 1)) p3 p4 p5)))))))))))
 (some ((.bool true),[])):=by
 exact (xD _ _ _).trans (by kernel_rfl)
theorem NC (a0_0:List D) (a1_ a2_:Int):V 100 [.agg [.rs (5,0) a0_0],iN a1_,iN a2_] =
 iy V 15 [.agg [.rs (5,0) a0_0]] fun a b=>
 asB a fun c=>unn b (br (!c)
 (some ((.bool false),[]))
 (
 iy V 20 [.agg [.rs (5,0) a0_0],iN a1_] fun d e=>
 asB d fun f=>unn e (br (!f)
 (some ((.bool false),[]))
 (
 iy V 20 [.agg [.rs (5,0) a0_0],iN a2_] fun g h=>
 asB g fun i=>unn h (br (!i)
 (some ((.bool false),[]))
 (
 iy V 102 [.agg [.rs (5,0) a0_0]] fun j k=>
 iK (1,0) j fun l=>unn k (grd (decide (0 <= a1_) && decide (a1_ < ni l.length)) (cz l a1_.toNat fun m=>
 asI .i64 m fun n=>grd (decide (0 <= a2_) && decide (a2_ < ni l.length)) (cz l a2_.toNat fun o=>
 asI .i64 o fun p=>some ((.bool (n == p)),[])))))))))):=by
 exact (xE Try.func100 rfl _).trans (by kernel_rfl)
theorem zp (p0 p1:Int) (p2:List D) (p3:Int) (p4 p5 p6:List D):yJ p0 p1 p2 p3 p4 p5 p6 =
 br (decide (p1 < p0))
 (
 grd (decide (0 <= p1) && decide (p1 < ni p2.length)) (cz p2 p1.toNat fun a=>
 asS a fun b=>grd (cG p2.length none (some p1)) (iy V 77 [(.rs (1,0) (part p2 (some (0,Int.toNat p1)))),.str b] fun c d=>
 asB c fun e=>unn d (br e
 (some ((.tup [.os (1,0) [],iN (2)]),[.op [.os (5,0) p4,.os (4,0) p5,.os (3,0) p6,iN p3]]))
 (yJ p0 (w6 (p1 + 1)) p2 p3 p4 p5 p6)))))
 (some ((.tup [.os (1,0) p2,iN (0)]),[.op [.os (5,0) p4,.os (4,0) p5,.os (3,0) p6,iN p3]])):=by
 exact (xD _ _ _).trans (by kernel_rfl)
theorem Gi (p:List D) (m1 m2 m3 m4 m5 m6 m7:Int) (cp cl cd:List D) (v:Int):V 71 [.op [.os (5,0) p,iN m1,iN m2,iN m3,iN m4,iN m5,iN m6,iN m7,.rs (5,0) cp,.rs (4,0) cl,.rs (3,0) cd],iN v] =
 iy V 75 [.op [.os (5,0) p],iN v,iN m2] fun a b=>
 asI .i64 a fun c=>unc b fun d e=>mJ d fun f=>unc f fun g h=>iK (5,0) g fun i=>unn h (unn e (some ((.tup []),[.op [.os (5,0) i,iN m1,iN c,iN m3,iN m4,iN m5,iN m6,iN m7,.rs (5,0) cp,.rs (4,0) cl,.rs (3,0) cd]]))):=by
 exact (xE Try.func71 rfl _).trans (by kernel_rfl)
theorem EO (p l d:List D) (h x:Int):V 97 [.op [.os (5,0) p,.os (4,0) l,.os (3,0) d,iN h],iN x] =
 br (h == 0)
 (
 grd (decide (0 <= x) && decide (x < ni l.length)) (cz l x.toNat fun a=>
 asAgg a fun b=>nam (List.set l x.toNat (D.agg (List.take 1 b++[iN (ni l.length)]++List.drop 2 b))) fun c=>
 some ((.tup []),[.op [.os (5,0) p,.os (4,0) c,.os (3,0) d,iN h]])))
 (some ((.tup []),[.op [.os (5,0) p,.os (4,0) l,.os (3,0) d,iN h]])):=by
 exact (xE Try.func97 rfl _).trans (by kernel_rfl)
theorem Cx (p0:List D) (p1 p2:Int) (p3 p4:List D):zH p0 p1 p2 p3 p4 =
 br (decide (p2 < p1))
 (
 grd (decide (0 <= p2) && decide (p2 < ni p0.length)) (cz p0 p2.toNat fun a=>
 asI .i64 a fun b=>grd (decide (0 <= b) && decide (b < ni p4.length)) (cz p4 b.toNat fun _=>
 nam (List.set p4 b.toNat (D.bool true)) fun c=>
 zH p0 p1 (w6 (p2 + 1)) p3 c)))
 (yD (w6 (ni p3.length - 1)) p3 p4):=by
 exact (xD _ _ _).trans (by kernel_rfl)
theorem QD (a0_:List D) (a1_:Int):V 12 [.rs (1,0) a0_,iN a1_] =
 br (decide (a1_ < ni a0_.length))
 (
 grd (decide (0 <= a1_) && decide (a1_ < ni a0_.length)) (cz a0_ a1_.toNat fun a=>
 asI .u8 a fun b=>some ((iN (w6 b)),[])))
 (grd (!decide (256 = 0)) (some ((iN (Int.tmod (w6 (w6 (a1_ * 7) + ni a0_.length)) (256))),[]))):=by
 exact (xE Try.func12 rfl _).trans (by kernel_rfl)
theorem BN (p0 p1:Int) (p2 p3 p4:List D):z5 p0 p1 p2 p3 p4 =
 br (decide (p1 < p0))
 (
 iy V 44 [.agg [.rs (5,0) p2,.rs (4,0) p3,.rs (3,0) p4],iN p1] fun a b=>
 asB a fun c=>unn b (br (!c)
 (some ((.bool false),[]))
 (z5 p0 (w6 (p1 + 1)) p2 p3 p4)))
 (zO p4 (ni p4.length) (0) p2 p3 p4):=by
 exact (xD _ _ _).trans (by kernel_rfl)
theorem NG (a0_0 a1_:List D):V 67 [.agg [.rs (5,0) a0_0],.rs (1,0) a1_] =
 iy V 80 [.op [.os (5,0) []],(.agg [.rs (5,0) a0_0]),.rs (1,0) a1_] fun a b=>
 iK (1,0) a fun c=>unc b fun d e=>mJ d fun f=>unc f fun g h=>iK (5,0) g fun i=>unn h (unn e (A7 a1_ (ni a1_.length) (0) c [] i)):=by
 exact (xE Try.func67 rfl _).trans (by kernel_rfl)
theorem Lm (a0_0:List D) (a1_:Int):V 20 [.agg [.rs (5,0) a0_0],iN a1_] =
 iy V 39 [iN a1_,iN (0),(iN (w6 (ni a0_0.length - 1)))] fun a b=>
 asB a fun c=>unn b (some ((.bool c),[])):=by
 exact (xE Try.func20 rfl _).trans (by kernel_rfl)
theorem EJ (p l d:List D) (h:Int) (x e:List D):V 64 [.op [.os (5,0) p,.os (4,0) l,.os (3,0) d,iN h],.rs (1,0) x,.rs (1,1) e] =
 yz e x (ni x.length) (0) h p l d:=by
 exact (xE Try.func64 rfl _).trans (by kernel_rfl)
theorem A8 (a0_:List D):V 98 [.rs (1,1) a0_] =
 uJ a0_
 (some ((.os (1,1) []),[]))
 (
 grd (decide (ni (List.length ([]++a0_)) <= LIM)) (nam ([]++a0_) fun a=>
 some ((.os (1,1) a),[]))):=by
 exact (xE Try.func98 rfl _).trans (by kernel_rfl)
theorem FG (p o t:List D) (s:ByteArray):V 17 [.op [.os (5,0) p,.os (1,2) o,.os (1,0) t],.str s] =
 xQ s (0) p o t:=by
 exact (xE Try.func17 rfl _).trans (by kernel_rfl)
theorem zl (a0_:List D) (a1_:ByteArray):V 87 [.rs (1,0) a0_,.str a1_] =
 yn a0_ a1_ (ni a0_.length) (0):=by
 exact (xE Try.func87 rfl _).trans (by kernel_rfl)
theorem FA (l p:List D):V 38 [.rs (1,0) l,.fn 19 [.bp [.rs (5,0) p]]] =
 yZ l p (ni l.length) (0):=by
 exact (xE Try.func38 rfl _).trans (by kernel_rfl)
theorem Lh (a0_0:List D):V 15 [.agg [.rs (5,0) a0_0]] =
 z6 a0_0 (ni a0_0.length) (0) a0_0:=by
 exact (xE Try.func15 rfl _).trans (by kernel_rfl)

end Go.Eng
