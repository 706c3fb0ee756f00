/- the program and the reference on plain data, part 1 -/
import Derived.Test.YtkndfhaehnfnmaaEngC
import Derived.Test.YtkndfhaehnfnmaaProg
/-! the functions as the interpreter has them: loop heads -/
namespace Go.Eng
noncomputable section
open Go.Proofs Go.Proofs.Try
set_option maxRecDepth 100000
def cf0:Cfg:={ ext:=fun _=>none,own:=fun f=>match f with  | _=>true,mode:=fun f i=>match f,i with | 69,0=>.mut | 27,0=>.mv | _,_=>.ro }
abbrev iN:Int->D:=D.int IntKind.i64
abbrev tk1 {R:Type} (x:D) (K:Int->Int->ByteArray->Int->Int->Option R):Option R:=asAgg x fun l=>unc l fun x0 l0=>asI .i64 x0 fun v0=>unc l0 fun x1 l1=>asI .i64 x1 fun v1=>unc l1 fun x2 l2=>asS x2 fun v2=>unc l2 fun x3 l3=>asI .i64 x3 fun v3=>unc l3 fun x4 l4=>asI .i64 x4 fun v4=>unn l4 (K v0 v1 v2 v3 v4)
@[congr] theorem SM {R:Type} {x y:D} (h:x = y) (K:_):tk1 (R:=R) x K = tk1 y K:=by rw [h]
abbrev tk2 {R:Type} (x:D) (K:List D->List D->List D->Int->Option R):Option R:=mE x fun l=>unc l fun x0 l0=>iJ (5,0) x0 fun v0=>unc l0 fun x1 l1=>iJ (4,0) x1 fun v1=>unc l1 fun x2 l2=>iJ (3,0) x2 fun v2=>unc l2 fun x3 l3=>asI .i64 x3 fun v3=>unn l3 (K v0 v1 v2 v3)
@[congr] theorem SN {R:Type} {x y:D} (h:x = y) (K:_):tk2 (R:=R) x K = tk2 y K:=by rw [h]
abbrev tk3 {R:Type} (x:D) (K:List D->Bool->Option R):Option R:=ik x fun l=>unc l fun x0 l0=>iJ (1,0) x0 fun v0=>unc l0 fun x1 l1=>asB x1 fun v1=>unn l1 (K v0 v1)
@[congr] theorem SQ {R:Type} {x y:D} (h:x = y) (K:_):tk3 (R:=R) x K = tk3 y K:=by rw [h]
abbrev tk4 {R:Type} (x:D) (K:List D->Int->Option R):Option R:=ik x fun l=>unc l fun x0 l0=>iJ (1,0) x0 fun v0=>unc l0 fun x1 l1=>asI .i64 x1 fun v1=>unn l1 (K v0 v1)
@[congr] theorem SU {R:Type} {x y:D} (h:x = y) (K:_):tk4 (R:=R) x K = tk4 y K:=by rw [h]
abbrev tk5 {R:Type} (x:D) (K:ByteArray->Bool->Option R):Option R:=ik x fun l=>unc l fun x0 l0=>asS x0 fun v0=>unc l0 fun x1 l1=>asB x1 fun v1=>unn l1 (K v0 v1)
@[congr] theorem SW {R:Type} {x y:D} (h:x = y) (K:_):tk5 (R:=R) x K = tk5 y K:=by rw [h]
abbrev tk6 {R:Type} (x:D) (K:List D->Int->Int->Int->Int->Int->Int->Int->List D->List D->List D->Option R):Option R:=mE x fun l=>unc l fun x0 l0=>iJ (5,0) x0 fun v0=>unc l0 fun x1 l1=>asI .i64 x1 fun v1=>unc l1 fun x2 l2=>asI .i64 x2 fun v2=>unc l2 fun x3 l3=>asI .i64 x3 fun v3=>unc l3 fun x4 l4=>asI .i64 x4 fun v4=>unc l4 fun x5 l5=>asI .i64 x5 fun v5=>unc l5 fun x6 l6=>asI .i64 x6 fun v6=>unc l6 fun x7 l7=>asI .i64 x7 fun v7=>unc l7 fun x8 l8=>jS (5,0) x8 fun v8=>unc l8 fun x9 l9=>jS (4,0) x9 fun v9=>unc l9 fun x10 l10=>jS (3,0) x10 fun v10=>unn l10 (K v0 v1 v2 v3 v4 v5 v6 v7 v8 v9 v10)
@[congr] theorem SY {R:Type} {x y:D} (h:x = y) (K:_):tk6 (R:=R) x K = tk6 y K:=by rw [h]
abbrev tk7 {R:Type} (x:D) (K:List D->Int->Int->Int->Int->Int->Int->Int->Option R):Option R:=asAgg x fun l=>unc l fun x0 l0=>iJ (5,0) x0 fun v0=>unc l0 fun x1 l1=>asI .i64 x1 fun v1=>unc l1 fun x2 l2=>asI .i64 x2 fun v2=>unc l2 fun x3 l3=>asI .i64 x3 fun v3=>unc l3 fun x4 l4=>asI .i64 x4 fun v4=>unc l4 fun x5 l5=>asI .i64 x5 fun v5=>unc l5 fun x6 l6=>asI .i64 x6 fun v6=>unc l6 fun x7 l7=>asI .i64 x7 fun v7=>unn l7 (K v0 v1 v2 v3 v4 v5 v6 v7)
@[congr] theorem S9 {R:Type} {x y:D} (h:x = y) (K:_):tk7 (R:=R) x K = tk7 y K:=by rw [h]
abbrev tk8 {R:Type} (x:D) (K:List D->List D->List D->Option R):Option R:=asAgg x fun l=>unc l fun x0 l0=>iJ (5,0) x0 fun v0=>unc l0 fun x1 l1=>iJ (4,0) x1 fun v1=>unc l1 fun x2 l2=>iJ (3,0) x2 fun v2=>unn l2 (K v0 v1 v2)
@[congr] theorem Tc {R:Type} {x y:D} (h:x = y) (K:_):tk8 (R:=R) x K = tk8 y K:=by rw [h]
abbrev tk9 {R:Type} (x:D) (K:Int->Bool->Option R):Option R:=ik x fun l=>unc l fun x0 l0=>asI .i64 x0 fun v0=>unc l0 fun x1 l1=>asB x1 fun v1=>unn l1 (K v0 v1)
@[congr] theorem Te {R:Type} {x y:D} (h:x = y) (K:_):tk9 (R:=R) x K = tk9 y K:=by rw [h]
abbrev JD {R:Type} (x:D) (K:List D->List D->List D->Option R):Option R:=mE x fun l=>unc l fun x0 l0=>iJ (5,0) x0 fun v0=>unc l0 fun x1 l1=>iJ (1,2) x1 fun v1=>unc l1 fun x2 l2=>iJ (1,0) x2 fun v2=>unn l2 (K v0 v1 v2)
@[congr] theorem SF {R:Type} {x y:D} (h:x = y) (K:_):JD (R:=R) x K = JD y K:=by rw [h]
abbrev Pz {R:Type} (x:D) (K:Int->Int->Option R):Option R:=ik x fun l=>unc l fun x0 l0=>asI .i64 x0 fun v0=>unc l0 fun x1 l1=>asI .i64 x1 fun v1=>unn l1 (K v0 v1)
@[congr] theorem SG {R:Type} {x y:D} (h:x = y) (K:_):Pz (R:=R) x K = Pz y K:=by rw [h]
abbrev z6 {R:Type} (x:D) (K:List D->List D->Option R):Option R:=mE x fun l=>unc l fun x0 l0=>jS (5,0) x0 fun v0=>unc l0 fun x1 l1=>iJ (1,0) x1 fun v1=>unn l1 (K v0 v1)
@[congr] theorem SI {R:Type} {x y:D} (h:x = y) (K:_):z6 (R:=R) x K = z6 y K:=by rw [h]
abbrev Qy {R:Type} (x:D) (K:Int->Int->Int->ByteArray->Option R):Option R:=asAgg x fun l=>unc l fun x0 l0=>asI .i64 x0 fun v0=>unc l0 fun x1 l1=>asI .i64 x1 fun v1=>unc l1 fun x2 l2=>asI .i64 x2 fun v2=>unc l2 fun x3 l3=>asS x3 fun v3=>unn l3 (K v0 v1 v2 v3)
@[congr] theorem SJ {R:Type} {x y:D} (h:x = y) (K:_):Qy (R:=R) x K = Qy y K:=by rw [h]
abbrev PA {R:Type} (x:D) (K:ByteArray->Int->Int->Option R):Option R:=asAgg x fun l=>unc l fun x0 l0=>asS x0 fun v0=>unc l0 fun x1 l1=>asI .i64 x1 fun v1=>unc l1 fun x2 l2=>asI .i64 x2 fun v2=>unn l2 (K v0 v1 v2)
@[congr] theorem SK {R:Type} {x y:D} (h:x = y) (K:_):PA (R:=R) x K = PA y K:=by rw [h]
abbrev uu : A := .undef
abbrev V:=Vn Try.prog cf0
abbrev R:=Rn Try.prog cf0
def Dd (p0 p1:List D) (p2 p3 p4:Int) (p5:List D):Option Ret:=R 9 Try.f9 [] (xm Try.f9 5) ⟨[uu,.d (.rs (1,0) p0),uu,uu,.ref 0 0 0,uu,uu,.ref 1 0 0,uu,uu,uu,uu,uu,uu,uu,uu,uu,uu,uu,uu,uu,uu,uu,uu,.d (.rs (1,0) p1),.d (iN p2),.d (iN p3),uu,uu,uu,uu,uu,uu,uu,uu,uu,uu,uu,uu,uu,uu,uu,uu,uu,uu,uu,uu,uu,uu,uu,uu,uu,uu,uu,uu,uu,uu,uu,uu,uu,uu,uu,uu,uu],[(0,some (.var [.d .nl,.d .nl,.d .nl])),(1,some (.var [.asl 2 none,.d .nl,.d .nl,.d (iN p4)])),(2,some (.arr (5,0) p5))],3,[]⟩
def yz (p0 p1:List D) (p2 p3 p4:Int) (p5 p6 p7:List D):Option Ret:=R 9 Try.f9 [] (xm Try.f9 5) ⟨[uu,.d (.rs (1,0) p0),uu,uu,.ref 0 0 0,uu,uu,.ref 1 0 0,uu,uu,uu,uu,uu,uu,uu,uu,uu,uu,uu,uu,uu,uu,uu,uu,.d (.rs (1,0) p1),.d (iN p2),.d (iN p3),uu,uu,uu,uu,uu,uu,uu,uu,uu,uu,uu,uu,uu,uu,uu,uu,uu,uu,uu,uu,uu,uu,uu,uu,uu,uu,uu,uu,uu,uu,uu,uu,uu,uu,uu,uu,uu],[(0,some (.var [.d .nl,.d .nl,.d .nl])),(1,some (.var [.asl 2 none,.asl 3 none,.asl 4 none,.d (iN p4)])),(2,some (.arr (5,0) p5)),(3,some (.arr (4,0) p6)),(4,some (.arr (3,0) p7))],5,[]⟩
def zX (p0 p1:Int) (p2 p3 p4:List D) (p5 p6 p7 p8 p9 p10 p11 p12 p13 p14 p15 p16 p17 p18:Int) (p19:List D):Option Ret:=R 11 Try.f11 [] (xm Try.f11 5) ⟨[uu,uu,.d (iN p0),.ref 0 0 0,.ref 1 0 0,uu,.ref 2 0 0,uu,.d (iN p1),uu,uu,uu,uu,uu,uu,uu,uu,uu,uu,uu,uu,uu,uu,uu,uu,uu,uu,uu,uu,uu,uu,uu,uu,uu,uu],[(0,some (.var [.d (.rs (5,0) p2),.d (.rs (4,0) p3),.d (.rs (3,0) p4)])),(1,some (.var [.asl 3 none,.d (iN p5),.d (iN p6),.d (iN p7),.d (iN p8),.d (iN p9),.d (iN p10),.d (iN p11)])),(2,some (.var [.d .nl,.d (iN p12),.d (iN p13),.d (iN p14),.d (iN p15),.d (iN p16),.d (iN p17),.d (iN p18)])),(3,some (.arr (5,0) p19))],4,[]⟩
def zU (p0:List D) (p1 p2:Int) (p3:List D):Option Ret:=R 15 Try.f15 [] (xm Try.f15 2) ⟨[uu,.ref 0 0 0,uu,uu,uu,uu,.d (.rs (5,0) p0),.d (iN p1),.d (iN p2),uu,uu,uu,uu,uu,uu,uu,uu,uu,uu,uu,uu,uu],[(0,some (.var [.d (.rs (5,0) p3)]))],1,[]⟩
def xI (p0:ByteArray) (p1:Int) (p2 p3 p4:List D):Option Ret:=R 17 Try.f17 [((Go.Func.params Try.f17).toList.getD 0 0)] (xm Try.f17 2) ⟨[.ref 0 0 0,.d (.str p0),uu,uu,uu,uu,.d (iN p1),uu,uu,uu,uu,uu,uu,uu,uu,uu,uu,uu,uu,uu,uu,uu,uu,uu,uu,uu,uu,uu,uu,uu,uu,uu,uu,uu,uu,uu,uu,uu,uu,uu,uu,uu,uu,uu,uu,uu,uu,uu,uu,uu,uu,uu,uu,uu,uu,uu,uu,uu,uu,uu,uu,uu,uu,uu,uu,uu,uu,uu,uu,uu,uu,uu,uu,uu,uu,uu,uu,uu,uu,uu,uu,uu,uu,uu,uu,uu,uu,uu,uu,uu,uu,uu,uu,uu,uu,uu,uu,uu,uu,uu,uu,uu,uu,uu,uu,uu,uu,uu,uu,uu,uu,uu,uu],[(0,some (.var [.asl 1 none,.asl 2 none,.asl 3 none])),(1,some (.arr (5,0) p2)),(2,some (.arr (1,2) p3)),(3,some (.arr (1,0) p4))],4,[.ref 0 0 0]⟩
def yu (p0:ByteArray) (p1 p2:Int) (p3 p4 p5:List D):Option Ret:=R 17 Try.f17 [((Go.Func.params Try.f17).toList.getD 0 0)] (xm Try.f17 5) ⟨[.ref 0 0 0,.d (.str p0),uu,uu,uu,uu,.d (iN p1),uu,.d (iN p2),uu,uu,uu,uu,uu,uu,uu,uu,uu,uu,uu,uu,uu,uu,uu,uu,uu,uu,uu,uu,uu,uu,uu,uu,uu,uu,uu,uu,uu,uu,uu,uu,uu,uu,uu,uu,uu,uu,uu,uu,uu,uu,uu,uu,uu,uu,uu,uu,uu,uu,uu,uu,uu,uu,uu,uu,uu,uu,uu,uu,uu,uu,uu,uu,uu,uu,uu,uu,uu,uu,uu,uu,uu,uu,uu,uu,uu,uu,uu,uu,uu,uu,uu,uu,uu,uu,uu,uu,uu,uu,uu,uu,uu,uu,uu,uu,uu,uu,uu,uu,uu,uu,uu,uu],[(0,some (.var [.asl 1 none,.asl 2 none,.asl 3 none])),(1,some (.arr (5,0) p3)),(2,some (.arr (1,2) p4)),(3,some (.arr (1,0) p5))],4,[.ref 0 0 0]⟩
def zT (p0 p1:Int) (p2 p3 p4:List D):Option Ret:=R 22 Try.f22 [] (xm Try.f22 4) ⟨[uu,.ref 0 0 0,uu,uu,uu,uu,uu,uu,uu,uu,uu,uu,uu,uu,uu,uu,uu,uu,uu,uu,uu,uu,uu,uu,.d (iN p0),.d (iN p1),uu,uu,uu,uu,uu,uu,uu,uu,uu,uu,uu,uu,uu,uu,uu,uu,uu,uu,uu,uu,uu,uu,uu,uu,uu,uu,uu,uu,uu,uu,uu,uu,uu,uu,uu,uu,uu,uu,uu,uu,uu,uu,uu,uu],[(0,some (.var [.d (.rs (5,0) p2),.d (.rs (4,0) p3),.d (.rs (3,0) p4)]))],1,[]⟩
def zG (p0:List D) (p1 p2:Int) (p3 p4 p5:List D):Option Ret:=R 22 Try.f22 [] (xm Try.f22 10) ⟨[uu,.ref 0 0 0,uu,uu,uu,uu,uu,uu,uu,uu,uu,uu,uu,uu,uu,uu,uu,uu,uu,uu,uu,uu,uu,uu,uu,uu,uu,uu,uu,uu,uu,uu,uu,uu,.d (.rs (3,0) p0),.d (iN p1),.d (iN p2),uu,uu,uu,uu,uu,uu,uu,uu,uu,uu,uu,uu,uu,uu,uu,uu,uu,uu,uu,uu,uu,uu,uu,uu,uu,uu,uu,uu,uu,uu,uu,uu,uu],[(0,some (.var [.d (.rs (5,0) p3),.d (.rs (4,0) p4),.d (.rs (3,0) p5)]))],1,[]⟩
def yP (p0 p1:List D) (p2 p3:Int):Option Ret:=R 38 Try.f38 [] (xm Try.f38 2) ⟨[.d (.rs (1,0) p0),.fn 79 [.rp (1,1) [.rs (5,0) p1] 0 0],uu,uu,uu,uu,uu,.d (iN p2),.d (iN p3),uu,uu,uu,uu,uu,uu,uu,uu,uu,uu],[],0,[]⟩
def yO (p0 p1:List D) (p2 p3:Int):Option Ret:=R 38 Try.f38 [] (xm Try.f38 2) ⟨[.d (.rs (1,0) p0),.fn 19 [.rp (1,1) [.rs (5,0) p1] 0 0],uu,uu,uu,uu,uu,.d (iN p2),.d (iN p3),uu,uu,uu,uu,uu,uu,uu,uu,uu,uu],[],0,[]⟩
def yZ (p0:Int) (p1 p2:List D):Option Ret:=R 40 Try.f40 [((Go.Func.params Try.f40).toList.getD 0 0)] (xm Try.f40 2) ⟨[.ref 0 0 0,.d (iN p0),uu,uu,uu,uu,.asl 1 none,uu,uu,uu,uu,uu,uu,uu,uu,uu,uu,uu,uu,uu,uu,uu,uu,uu,uu,uu,uu,uu,uu,uu,uu,uu,uu,uu,uu,uu,uu,uu,uu,uu,uu,uu,uu,uu,uu,uu],[(0,some (.var [.asl 2 none])),(1,some (.arr (1,0) p1)),(2,some (.arr (5,0) p2))],3,[.ref 0 0 0]⟩
def zh (p0:ByteArray) (p1 p2:Int):Option Ret:=R 45 Try.f45 [] (xm Try.f45 4) ⟨[.d (.str p0),uu,uu,uu,uu,uu,uu,uu,uu,.d (iN p1),.d (iN p2),uu,uu,uu,uu,uu,uu,uu,uu],[],0,[]⟩
def y7 (p0:List D) (p1:ByteArray) (p2 p3:Int):Option Ret:=R 46 Try.f46 [] (xm Try.f46 2) ⟨[.d (.rs (3,0) p0),.fn 47 [.rp (1,1) [.str p1] 0 0],uu,uu,uu,uu,uu,.d (iN p2),.d (iN p3),uu,uu,uu,uu,uu,uu,uu,uu,uu,uu],[],0,[]⟩
def yB (p0 p1 p2 p3 p4 p5 p6 p7 p8:Int) (p9 p10 p11 p12 p13:List D):Option Ret:=R 50 Try.f50 [((Go.Func.params Try.f50).toList.getD 0 0)] (xm Try.f50 5) ⟨[.ref 0 0 0,uu,uu,uu,uu,.asl 1 none,uu,uu,uu,uu,uu,uu,uu,uu,uu,uu,uu,uu,uu,uu,uu,uu,.d (iN p0),.d (iN p1),uu,uu,uu,uu,uu,uu,uu,uu,uu,uu,uu,uu,uu,uu,uu,uu,uu,uu,uu,uu,uu,uu],[(0,some (.var [.asl 2 none,.d (iN p2),.d (iN p3),.d (iN p4),.d (iN p5),.d (iN p6),.d (iN p7),.d (iN p8),.d (.rs (5,0) p9),.d (.rs (4,0) p10),.d (.rs (3,0) p11)])),(1,some (.arr (1,0) p12)),(2,some (.arr (5,0) p13))],3,[.ref 0 0 0]⟩
def yo (p0:Int) (p1:Bool) (p2 p3:List D):Option Ret:=R 55 Try.f55 [((Go.Func.params Try.f55).toList.getD 0 0)] (xm Try.f55 1) ⟨[.ref 0 0 0,.d (iN p0),uu,uu,.d (.bool p1),uu,uu,uu,uu,uu,uu,uu,uu,uu,uu,uu,uu,uu,uu,uu,uu,uu,uu,uu,uu,uu,uu,uu,uu,uu,uu,uu,uu,uu,uu,uu,uu,uu,uu,uu,uu,uu,uu,uu,uu,uu,uu,uu,uu,uu,uu,uu,uu,uu,uu,uu,uu,uu,uu,uu,uu,uu,uu,uu,uu],[(0,some (.var [.d (.rs (5,0) p2),.asl 1 none])),(1,some (.arr (1,0) p3))],2,[.ref 0 0 0]⟩
def zb (p0:List D) (p1 p2:Int) (p3:List D):Option Ret:=R 57 Try.f57 [((Go.Func.params Try.f57).toList.getD 0 0)] (xm Try.f57 3) ⟨[.ref 0 0 0,.d (.rs (1,0) p0),uu,uu,uu,.d (iN p1),.d (iN p2),uu,uu,uu,uu,uu,uu,uu,uu,uu,uu,uu,uu,uu,uu,uu,uu,uu,uu],[(0,some (.var [.asl 1 none])),(1,some (.arr (5,0) p3))],2,[.ref 0 0 0]⟩
def yL (p0:ByteArray) (p1 p2 p3:Int):Option Ret:=R 60 Try.f60 [] (xm Try.f60 5) ⟨[.d (.str p0),uu,uu,uu,uu,uu,.d (iN p1),uu,uu,uu,uu,uu,uu,uu,uu,uu,uu,uu,uu,uu,uu,uu,uu,uu,uu,uu,uu,.d (iN p2),.d (iN p3),uu,uu,uu,uu,uu,uu,uu,uu,uu,uu,uu,uu,uu,uu,uu,uu,uu],[],0,[]⟩
def yi (p0:List D) (p1 p2 p3:Int) (p4 p5 p6 p7:List D):Option Ret:=R 63 Try.f63 [((Go.Func.params Try.f63).toList.getD 0 0)] (xm Try.f63 3) ⟨[.ref 0 0 0,uu,uu,uu,uu,uu,.asl 1 none,uu,uu,uu,uu,uu,uu,uu,.d (.rs (1,0) p0),.d (iN p1),.d (iN p2),uu,uu,uu,uu,uu,uu,uu,uu,uu,uu,uu,uu,uu,uu,uu,uu,uu,uu,uu,uu,uu,uu,uu,uu,uu,uu,uu,uu,uu,uu,uu,uu,uu,uu,uu,uu,uu],[(0,some (.var [.asl 2 none,.asl 3 none,.asl 4 none,.d (iN p3)])),(1,some (.arr (1,0) p4)),(2,some (.arr (5,0) p5)),(3,some (.arr (4,0) p6)),(4,some (.arr (3,0) p7))],5,[.ref 0 0 0]⟩
def yA (p0 p1:Int) (p2:List D) (p3:Int) (p4 p5 p6:List D):Option Ret:=R 63 Try.f63 [((Go.Func.params Try.f63).toList.getD 0 0)] (xm Try.f63 13) ⟨[uu,uu,uu,uu,uu,uu,.asl 0 none,uu,uu,uu,uu,uu,uu,uu,uu,uu,uu,uu,uu,uu,uu,uu,uu,uu,uu,uu,uu,uu,uu,uu,uu,uu,uu,uu,uu,uu,uu,uu,uu,uu,.asl 0 none,.d (iN p0),.d (iN p1),uu,uu,uu,uu,uu,uu,uu,uu,uu,uu,uu],[(0,some (.arr (1,0) p2)),(1,some (.var [.asl 2 none,.asl 3 none,.asl 4 none,.d (iN p3)])),(2,some (.arr (5,0) p4)),(3,some (.arr (4,0) p5)),(4,some (.arr (3,0) p6))],5,[.ref 1 0 0]⟩
def yn (p0 p1:List D) (p2 p3 p4:Int) (p5 p6 p7:List D):Option Ret:=R 64 Try.f64 [((Go.Func.params Try.f64).toList.getD 0 0)] (xm Try.f64 1) ⟨[.ref 0 0 0,uu,.d (.rs (1,1) p0),uu,uu,uu,uu,uu,.d (.rs (1,0) p1),.d (iN p2),.d (iN p3),uu,uu,uu,uu,uu,uu,uu,uu,uu,uu,uu,uu,uu,uu],[(0,some (.var [.asl 1 none,.asl 2 none,.asl 3 none,.d (iN p4)])),(1,some (.arr (5,0) p5)),(2,some (.arr (4,0) p6)),(3,some (.arr (3,0) p7))],4,[.ref 0 0 0]⟩
def AL (p0:List D) (p1 p2:Int) (p3 p4 p5:List D):Option Ret:=R 67 Try.f67 [] (xm Try.f67 5) ⟨[uu,uu,uu,uu,.ref 0 0 0,uu,.ref 1 0 0,.asl 2 none,.asl 3 none,uu,uu,uu,uu,uu,uu,uu,.d (.rs (1,0) p0),.d (iN p1),.d (iN p2),uu,uu,uu,uu,uu,uu,uu,uu,uu,uu,uu,uu,uu],[(0,some (.var [.d .nl])),(1,some (.var [.asl 4 none])),(2,some (.arr (1,0) p3)),(3,some (.arr (1,0) p4)),(4,some (.arr (5,0) p5))],5,[]⟩
def ym (p0 p1:Int) (p2:List D):Option Ret:=R 69 Try.f69 [27] (xm Try.f69 1) ⟨[.asl 0 none,uu,.d (iN p0),.d (iN p1),uu,uu,uu,uu,uu,uu,uu,uu,uu,uu,uu,uu,uu,uu,uu,uu,uu,uu,uu,uu,uu,uu,uu,uu],[(0,some (.arr (1,0) p2))],1,[.asl 0 none]⟩
def xM (p0:List D) (p1 p2 p3:Int) (p4 p5 p6 p7:List D):Option Ret:=R 78 Try.f78 [((Go.Func.params Try.f78).toList.getD 0 0)] (xm Try.f78 16) ⟨[.ref 0 0 0,uu,.d (.rs (1,1) p0),uu,uu,uu,uu,.asl 1 none,uu,uu,uu,uu,uu,uu,uu,uu,uu,uu,uu,uu,uu,uu,uu,uu,uu,uu,uu,uu,uu,uu,uu,uu,uu,uu,uu,uu,uu,uu,uu,uu,uu,uu,uu,uu,uu,uu,uu,uu,uu,uu,uu,uu,uu,uu,uu,uu,uu,uu,uu,uu,uu,uu,uu,uu,uu,uu,uu,uu,uu,.asl 1 none,.d (iN p1),.d (iN p2),uu,uu,uu,uu,uu,uu,uu,uu,uu,uu,uu,uu,uu,uu,uu,uu,uu,uu,uu,uu,uu,uu,uu,uu,uu,uu,uu,uu,uu,uu,uu,uu],[(0,some (.var [.asl 2 none,.asl 3 none,.asl 4 none,.d (iN p3)])),(1,some (.arr (1,0) p4)),(2,some (.arr (5,0) p5)),(3,some (.arr (4,0) p6)),(4,some (.arr (3,0) p7))],5,[.ref 0 0 0]⟩
def xP (p0:List D) (p1 p2:Int) (p3 p4 p5:List D):Option Ret:=R 80 Try.f80 [((Go.Func.params Try.f80).toList.getD 0 0)] (xm Try.f80 4) ⟨[.ref 0 0 0,uu,uu,uu,uu,uu,uu,.asl 1 none,.asl 2 none,uu,uu,uu,uu,uu,uu,uu,uu,uu,uu,.d (.rs (5,0) p0),.d (iN p1),.d (iN p2),uu,uu,uu,uu,uu,uu,uu,uu,uu,uu,uu,uu,uu,uu,uu,uu,uu,uu,uu,uu,uu,uu,uu,uu,uu,uu,uu,uu,uu,uu,uu,uu,uu,uu,uu,uu,uu,uu,uu,uu,uu,uu,uu,uu,uu],[(0,some (.var [.asl 3 none])),(1,some (.arr (1,0) p3)),(2,some (.arr (1,0) p4)),(3,some (.arr (5,0) p5))],4,[.ref 0 0 0]⟩
def yJ (p0 p1 p2 p3 p4 p5 p6 p7 p8:Int) (p9 p10 p11 p12:List D):Option Ret:=R 84 Try.f84 [((Go.Func.params Try.f84).toList.getD 0 0)] (xm Try.f84 1) ⟨[.ref 0 0 0,.d (iN p0),.d (iN p1),uu,uu,uu,uu,uu,uu,uu,uu,uu,uu,uu,uu,uu,uu,uu,uu,uu,uu,uu,uu,uu,uu,uu,uu,uu,uu,uu,uu,uu,uu,uu,uu,uu,uu,uu,uu,uu,uu,uu,uu,uu,uu,uu,uu,uu,uu,uu,uu,uu,uu,uu],[(0,some (.var [.asl 1 none,.d (iN p2),.d (iN p3),.d (iN p4),.d (iN p5),.d (iN p6),.d (iN p7),.d (iN p8),.d (.rs (5,0) p9),.d (.rs (4,0) p10),.d (.rs (3,0) p11)])),(1,some (.arr (5,0) p12))],2,[.ref 0 0 0]⟩
def yl (p0:List D) (p1 p2 p3:Int):Option Ret:=R 86 Try.f86 [] (xm Try.f86 2) ⟨[.d (.rs (1,0) p0),.d (.int .u8 p1),uu,uu,uu,uu,uu,.d (iN p2),.d (iN p3),uu,uu,uu,uu,uu,uu,uu,uu,uu,uu],[],0,[]⟩
def yf (p0:List D) (p1:ByteArray) (p2 p3:Int):Option Ret:=R 87 Try.f87 [] (xm Try.f87 2) ⟨[.d (.rs (1,0) p0),.d (.str p1),uu,uu,uu,uu,uu,.d (iN p2),.d (iN p3),uu,uu,uu,uu,uu,uu,uu,uu,uu,uu],[],0,[]⟩
def yk (p0:ByteArray) (p1:List D) (p2 p3:Int) (p4 p5 p6:List D):Option Ret:=R 88 Try.f88 [((Go.Func.params Try.f88).toList.getD 0 0)] (xm Try.f88 3) ⟨[.ref 0 0 0,.d (.str p0),.d (.rs (1,1) p1),uu,uu,uu,.d (iN p2),uu,uu,uu,uu,uu,uu,uu,uu,uu,uu,uu,uu,uu,uu,uu,uu,uu,uu,uu,uu,uu,uu,uu,uu,uu,uu,uu,uu,uu,uu,uu,uu,uu],[(0,some (.var [.asl 1 none,.asl 2 none,.asl 3 none,.d (iN p3)])),(1,some (.arr (5,0) p4)),(2,some (.arr (4,0) p5)),(3,some (.arr (3,0) p6))],4,[.ref 0 0 0]⟩
def zw (p0:List D) (p1 p2:Int) (p3 p4:List D):Option Ret:=R 90 Try.f90 [] (xm Try.f90 3) ⟨[uu,uu,.ref 0 0 0,uu,uu,.asl 1 none,uu,uu,uu,uu,uu,uu,uu,uu,.d (.rs (1,0) p0),.d (iN p1),.d (iN p2),uu,uu,uu,uu,uu,uu,uu,uu,uu,uu,uu,uu,uu,uu,uu,uu,uu,uu,uu,uu,uu,uu,uu,uu,uu,uu,uu,uu,uu,uu,uu,uu,uu,uu,uu,uu,uu,uu,uu,uu,uu,uu,uu,uu,uu],[(0,some (.var [.d (.rs (5,0) p3)])),(1,some (.arr (1,0) p4))],2,[]⟩
def yr (p0:Int) (p1 p2:List D):Option Ret:=R 90 Try.f90 [] (xm Try.f90 8) ⟨[uu,uu,.ref 0 0 0,uu,uu,.asl 1 none,uu,uu,.d (iN p0),uu,uu,uu,uu,uu,uu,uu,uu,uu,uu,uu,uu,uu,uu,uu,uu,uu,uu,uu,uu,uu,uu,uu,uu,uu,uu,uu,uu,uu,uu,uu,uu,uu,uu,uu,uu,uu,uu,uu,uu,uu,uu,uu,uu,uu,uu,uu,uu,uu,uu,uu,uu,uu],[(0,some (.var [.d (.rs (5,0) p1)])),(1,some (.arr (1,0) p2))],2,[]⟩
def xR (p0:Int) (p1 p2:List D) (p3 p4:Int) (p5:List D):Option Ret:=R 92 Try.f92 [((Go.Func.params Try.f92).toList.getD 0 0)] (xm Try.f92 2) ⟨[.ref 0 0 0,.d (iN p0),.d (.rs (1,0) p1),uu,uu,uu,uu,uu,uu,uu,uu,.d (.rs (1,0) p2),.d (iN p3),.d (iN p4),uu,uu,uu,uu,uu,uu,uu,uu,uu,uu,uu,uu,uu,uu,uu,uu,uu,uu,uu,uu,uu,uu,uu,uu,uu,uu,uu,uu,uu,uu,uu,uu,uu,uu,uu,uu,uu,uu,uu,uu,uu,uu,uu,uu,uu,uu,uu,uu,uu,uu,uu,uu,uu,uu,uu,uu,uu,uu,uu,uu,uu,uu,uu,uu,uu,uu,uu,uu,uu,uu,uu,uu,uu,uu],[(0,some (.var [.asl 1 none])),(1,some (.arr (5,0) p5))],2,[.ref 0 0 0]⟩
def xL (p0:List D) (p1 p2:Int) (p3 p4:List D):Option Ret:=R 102 Try.f102 [] (xm Try.f102 4) ⟨[uu,uu,uu,.mp 0,.asl 1 none,uu,uu,uu,uu,uu,uu,uu,.d (.rs (5,0) p0),.d (iN p1),.d (iN p2),uu,uu,uu,uu,uu,uu,uu,uu,uu,uu,uu,uu,uu,uu,uu,uu,uu,uu,uu,uu,uu,uu,uu,uu,uu,uu,uu,uu,uu,uu,uu,uu,uu,uu,uu,uu,uu,uu,uu,uu,uu,uu,uu,uu,uu,uu,uu],[(0,some (.mp [iN 0,iN 0,.str ⟨#[]⟩,iN 0,iN 0] p3)),(1,some (.arr (1,0) p4))],2,[]⟩
end
end Go.Eng
/-! the functions as the interpreter has them -/
namespace Go.Eng
open Go.Proofs Go.Proofs.Try
set_option maxRecDepth 100000
theorem AZ (p0:List D) (p1 p2:Int) (p3 p4:List D):xL p0 p1 p2 p3 p4 =
 br (decide (p2 < p1))
 (
 grd (decide (0 <= p2) && decide (p2 < ni p0.length)) (cy p0 p2.toNat fun a=>
 tk1 a fun b c d e f=>(br (b == 5)
 (
 grd (decide (0 <= e) && decide (e < ni p4.length)) (cy p4 e.toNat fun g=>
 asI .i64 g fun h=>grd (decide (0 <= f) && decide (f < ni p4.length)) (cy p4 f.toNat fun i=>
 asI .i64 i fun j=>br (!iv p3 [iN b,iN c,D.str d,iN h,iN j])
 (
 grd (!iv p3 [iN b,iN c,D.str d,iN h,iN j]) (nam (uB p3 [iN b,iN c,D.str d,iN h,iN j] p2) fun k=>
 grd (decide (ni (List.length (p4++[iN p2])) <= LIM)) (nam (p4++[iN p2]) fun l=>
 xL p0 p1 (w6 (p2 + 1)) k l)))
 (
 grd (decide (ni (List.length (p4++[iN (lX p3 [iN b,iN c,D.str d,iN h,iN j])])) <= LIM)) (nam (p4++[iN (lX p3 [iN b,iN c,D.str d,iN h,iN j])]) fun k=>
 xL p0 p1 (w6 (p2 + 1)) p3 k)))))
 (
 br (b == 6)
 (
 br (b == 6)
 (
 grd (decide (0 <= e) && decide (e < ni p4.length)) (cy p4 e.toNat fun g=>
 asI .i64 g fun h=>br (!iv p3 [iN b,iN c,D.str d,iN h,iN f])
 (
 grd (!iv p3 [iN b,iN c,D.str d,iN h,iN f]) (nam (uB p3 [iN b,iN c,D.str d,iN h,iN f] p2) fun i=>
 grd (decide (ni (List.length (p4++[iN p2])) <= LIM)) (nam (p4++[iN p2]) fun j=>
 xL p0 p1 (w6 (p2 + 1)) i j)))
 (
 grd (decide (ni (List.length (p4++[iN (lX p3 [iN b,iN c,D.str d,iN h,iN f])])) <= LIM)) (nam (p4++[iN (lX p3 [iN b,iN c,D.str d,iN h,iN f])]) fun i=>
 xL p0 p1 (w6 (p2 + 1)) p3 i))))
 (
 br (!iv p3 [iN b,iN c,D.str d,iN e,iN f])
 (
 grd (!iv p3 [iN b,iN c,D.str d,iN e,iN f]) (nam (uB p3 [iN b,iN c,D.str d,iN e,iN f] p2) fun g=>
 grd (decide (ni (List.length (p4++[iN p2])) <= LIM)) (nam (p4++[iN p2]) fun h=>
 xL p0 p1 (w6 (p2 + 1)) g h)))
 (
 grd (decide (ni (List.length (p4++[iN (lX p3 [iN b,iN c,D.str d,iN e,iN f])])) <= LIM)) (nam (p4++[iN (lX p3 [iN b,iN c,D.str d,iN e,iN f])]) fun g=>
 xL p0 p1 (w6 (p2 + 1)) p3 g))))
 (
 br (b == 7)
 (
 grd (decide (0 <= e) && decide (e < ni p4.length)) (cy p4 e.toNat fun g=>
 asI .i64 g fun h=>br (!iv p3 [iN b,iN c,D.str d,iN h,iN f])
 (
 grd (!iv p3 [iN b,iN c,D.str d,iN h,iN f]) (nam (uB p3 [iN b,iN c,D.str d,iN h,iN f] p2) fun i=>
 grd (decide (ni (List.length (p4++[iN p2])) <= LIM)) (nam (p4++[iN p2]) fun j=>
 xL p0 p1 (w6 (p2 + 1)) i j)))
 (
 grd (decide (ni (List.length (p4++[iN (lX p3 [iN b,iN c,D.str d,iN h,iN f])])) <= LIM)) (nam (p4++[iN (lX p3 [iN b,iN c,D.str d,iN h,iN f])]) fun i=>
 xL p0 p1 (w6 (p2 + 1)) p3 i))))
 (
 br (!iv p3 [iN b,iN c,D.str d,iN e,iN f])
 (
 grd (!iv p3 [iN b,iN c,D.str d,iN e,iN f]) (nam (uB p3 [iN b,iN c,D.str d,iN e,iN f] p2) fun g=>
 grd (decide (ni (List.length (p4++[iN p2])) <= LIM)) (nam (p4++[iN p2]) fun h=>
 xL p0 p1 (w6 (p2 + 1)) g h)))
 (
 grd (decide (ni (List.length (p4++[iN (lX p3 [iN b,iN c,D.str d,iN e,iN f])])) <= LIM)) (nam (p4++[iN (lX p3 [iN b,iN c,D.str d,iN e,iN f])]) fun g=>
 xL p0 p1 (w6 (p2 + 1)) p3 g))))))))
 (some ((.os (1,0) p4),[])):=by
 exact (xt _ _ _).trans (by kernel_rfl)
theorem IU (a0_:ByteArray):V 35 [.str a0_] =
 br (jH a0_ { data:=#[35,116] })
 (some ((.tup [.agg [iN (2),iN (1),.str ({ data:=#[] }),iN (0),iN (0)],.bool true]),[]))
 (
 br (jH a0_ { data:=#[35,102] })
 (some ((.tup [.agg [iN (2),iN (0),.str ({ data:=#[] }),iN (0),iN (0)],.bool true]),[]))
 (
 br (decide (ni (ByteArray.size a0_) > 1))
 (
 grd (decide (0 <= 0) && decide (0 < ni (ByteArray.size a0_))) (br (bt a0_ (0) == 45)
 (
 grd (decide (0 <= 1) && decide (1 < ni (ByteArray.size a0_))) (iw V 59 [(.int .u8 (bt a0_ (1)))] fun a b=>
 asB a fun c=>unn b (br c
 (
 grd (cE (ByteArray.size a0_) (some (1)) none) (iw V 60 [(.str (ByteArray.extract a0_ (Int.toNat (1)) (ByteArray.size a0_))),iN (10)] fun d e=>
 tk9 d fun f g=>(unn e (br g
 (
 br (decide (f <= 1000000000))
 (
 br (decide (f > 0))
 (some ((.tup [(.agg [iN (3),(iN (w6 (-1 * f))),.str ({ data:=#[] }),iN (0),iN (0)]),.bool true]),[]))
 (some ((.tup [(.agg [iN (3),(iN (w6 (-1 * f))),.str ({ data:=#[] }),iN (0),iN (0)]),.bool false]),[])))
 (some ((.tup [(.agg [iN (3),(iN (w6 (-1 * f))),.str ({ data:=#[] }),iN (0),iN (0)]),.bool false]),[])))
 (some ((.tup [.agg [iN (4),iN (0),.str a0_,iN (0),iN (0)],.bool false]),[]))))))
 (
 iw V 60 [.str a0_,iN (10)] fun d e=>
 tk9 d fun f g=>(unn e (br g
 (
 br (decide (f <= 1000000000))
 (
 br (decide (f > 0))
 (some ((.tup [(.agg [iN (3),(iN (w6 (1 * f))),.str ({ data:=#[] }),iN (0),iN (0)]),.bool true]),[]))
 (some ((.tup [(.agg [iN (3),(iN (w6 (1 * f))),.str ({ data:=#[] }),iN (0),iN (0)]),.bool true]),[])))
 (some ((.tup [(.agg [iN (3),(iN (w6 (1 * f))),.str ({ data:=#[] }),iN (0),iN (0)]),.bool false]),[])))
 (
 iw V 45 [.str a0_] fun h i=>
 asB h fun j=>unn i (some ((.tup [.agg [iN (4),iN (0),.str a0_,iN (0),iN (0)],.bool j]),[])))))))))
 (
 iw V 60 [.str a0_,iN (10)] fun a b=>
 tk9 a fun c d=>(unn b (br d
 (
 br (decide (c <= 1000000000))
 (
 br (decide (c > 0))
 (some ((.tup [(.agg [iN (3),(iN (w6 (1 * c))),.str ({ data:=#[] }),iN (0),iN (0)]),.bool true]),[]))
 (some ((.tup [(.agg [iN (3),(iN (w6 (1 * c))),.str ({ data:=#[] }),iN (0),iN (0)]),.bool true]),[])))
 (some ((.tup [(.agg [iN (3),(iN (w6 (1 * c))),.str ({ data:=#[] }),iN (0),iN (0)]),.bool false]),[])))
 (
 iw V 45 [.str a0_] fun e f=>
 asB e fun g=>unn f (some ((.tup [.agg [iN (4),iN (0),.str a0_,iN (0),iN (0)],.bool g]),[]))))))))
 (
 iw V 60 [.str a0_,iN (10)] fun a b=>
 tk9 a fun c d=>(unn b (br d
 (
 br (decide (c <= 1000000000))
 (
 br (decide (c > 0))
 (some ((.tup [(.agg [iN (3),(iN (w6 (1 * c))),.str ({ data:=#[] }),iN (0),iN (0)]),.bool true]),[]))
 (some ((.tup [(.agg [iN (3),(iN (w6 (1 * c))),.str ({ data:=#[] }),iN (0),iN (0)]),.bool true]),[])))
 (some ((.tup [(.agg [iN (3),(iN (w6 (1 * c))),.str ({ data:=#[] }),iN (0),iN (0)]),.bool false]),[])))
 (
 iw V 45 [.str a0_] fun e f=>
 asB e fun g=>unn f (some ((.tup [.agg [iN (4),iN (0),.str a0_,iN (0),iN (0)],.bool g]),[])))))))):=by
 exact (xu Try.func35 rfl _).trans (by kernel_rfl)
theorem BN (p0:Int) (p1:Bool) (p2 p3:List D):yo p0 p1 p2 p3 =
 grd (decide (0 <= p0) && decide (p0 < ni p2.length)) (cy p2 p0.toNat fun a=>
 asAgg a fun b=>cy b 0 fun c=>
 asI .i64 c fun d=>br (d == 5)
 (
 iw V 30 [.op [.rs (5,0) p2,.os (1,0) p3]] fun e f=>
 asB e fun g=>unc f fun h i=>z6 h fun j k=>(unn i (br (!g)
 (
 br (!p1)
 (
 iw V 54 [.op [.rs (5,0) j,.os (1,0) k],.str ({ data:=#[32] })] fun l m=>
 ik l fun n=>unn n (unc m fun o p=>z6 o fun q r=>(unn p (grd (decide (0 <= p0) && decide (p0 < ni q.length)) (cy q p0.toNat fun s=>
 asAgg s fun t=>cy t 3 fun u=>
 asI .i64 u fun v=>iw V 29 [.op [.rs (5,0) q,.os (1,0) r],iN v] fun w x=>
 ik w fun y=>unn y (unc x fun z A=>z6 z fun B C=>(unn A (grd (decide (0 <= p0) && decide (p0 < ni B.length)) (cy B p0.toNat fun E=>
 asAgg E fun F=>cy F 4 fun G=>
 asI .i64 G fun H=>yo H false B C)))))))))
 (
 grd (decide (0 <= p0) && decide (p0 < ni j.length)) (cy j p0.toNat fun l=>
 asAgg l fun m=>cy m 3 fun n=>
 asI .i64 n fun o=>iw V 29 [.op [.rs (5,0) j,.os (1,0) k],iN o] fun p q=>
 ik p fun r=>unn r (unc q fun s t=>z6 s fun u v=>(unn t (grd (decide (0 <= p0) && decide (p0 < ni u.length)) (cy u p0.toNat fun w=>
 asAgg w fun x=>cy x 4 fun y=>
 asI .i64 y fun z=>yo z false u v)))))))
 (
 grd (decide (0 <= p0) && decide (p0 < ni j.length)) (cy j p0.toNat fun l=>
 asAgg l fun m=>cy m 0 fun n=>
 asI .i64 n fun o=>br (o != 1)
 (
 br (o != 5)
 (
 iw V 54 [.op [.rs (5,0) j,.os (1,0) k],.str ({ data:=#[32,46,32] })] fun p q=>
 ik p fun r=>unn r (unc q fun s t=>z6 s fun u v=>(unn t (iw V 29 [.op [.rs (5,0) u,.os (1,0) v],iN p0] fun w x=>
 ik w fun y=>unn y (unc x fun z A=>z6 z fun B C=>(unn A (some ((.tup []),[.op [.rs (5,0) B,.os (1,0) C]]))))))))
 (some ((.tup []),[.op [.rs (5,0) j,.os (1,0) k]])))
 (some ((.tup []),[.op [.rs (5,0) j,.os (1,0) k]])))))))
 (
 grd (decide (0 <= p0) && decide (p0 < ni p2.length)) (cy p2 p0.toNat fun e=>
 asAgg e fun f=>cy f 0 fun g=>
 asI .i64 g fun h=>br (h != 1)
 (
 br (h != 5)
 (
 iw V 54 [.op [.rs (5,0) p2,.os (1,0) p3],.str ({ data:=#[32,46,32] })] fun i j=>
 ik i fun k=>unn k (unc j fun l m=>z6 l fun n o=>(unn m (iw V 29 [.op [.rs (5,0) n,.os (1,0) o],iN p0] fun p q=>
 ik p fun r=>unn r (unc q fun s t=>z6 s fun u v=>(unn t (some ((.tup []),[.op [.rs (5,0) u,.os (1,0) v]]))))))))
 (some ((.tup []),[.op [.rs (5,0) p2,.os (1,0) p3]])))
 (some ((.tup []),[.op [.rs (5,0) p2,.os (1,0) p3]]))))):=by
 exact (xt _ _ _).trans (by kernel_rfl)
theorem DD (p:List D) (m1 m2 m3 m4 m5 m6 m7:Int) (cp cl cd:List D) (s:ByteArray):V 74 [.op [.os (5,0) p,iN m1,iN m2,iN m3,iN m4,iN m5,iN m6,iN m7,.rs (5,0) cp,.rs (4,0) cl,.rs (3,0) cd],.str s] =
 iw V 23 [.agg [.rs (5,0) cp,.rs (4,0) cl,.rs (3,0) cd],.str s] fun a b=>
 asI .i64 a fun c=>unn b (br (decide (c >= 0))
 (
 grd (decide (0 <= c) && decide (c < ni cd.length)) (cy cd c.toNat fun d=>
 PA d fun _ e f=>(iw V 37 [.op [.os (5,0) p],(.agg [iN (1),iN (0),.str ({ data:=#[] }),iN (0),iN (0)])] fun g h=>
 asI .i64 g fun i=>unc h fun j k=>mE j fun l=>unc l fun m n=>iJ (5,0) m fun o=>unn n (unn k (iw V 37 [.op [.os (5,0) o],(.agg [iN (6),(iN (w6 (w6 (8 * e) + f))),.str ({ data:=#[] }),iN i,iN (0)])] fun q r=>
 asI .i64 q fun t=>unc r fun u v=>mE u fun w=>unc w fun x y=>iJ (5,0) x fun z=>unn y (unn v (iw V 71 [.op [.os (5,0) z,iN m1,iN m2,iN m3,iN m4,iN m5,iN m6,iN m7,.rs (5,0) cp,.rs (4,0) cl,.rs (3,0) cd],iN t] fun A B=>
 ik A fun C=>unn C (unc B fun E F=>tk6 E fun G H I J K L M N O P Q=>(unn F (some ((iN (0)),[.op [.os (5,0) G,iN H,iN I,iN J,iN K,iN L,iN M,iN N,.rs (5,0) O,.rs (4,0) P,.rs (3,0) Q]])))))))))))
 (
 iw V 85 [.str s] fun d e=>
 asI .i64 d fun f=>unn e (br (f == 0)
 (some ((iN (1)),[.op [.os (5,0) p,iN m1,iN m2,iN m3,iN m4,iN m5,iN m6,iN m7,.rs (5,0) cp,.rs (4,0) cl,.rs (3,0) cd]]))
 (
 iw V 37 [.op [.os (5,0) p],(.agg [iN (8),iN f,.str ({ data:=#[] }),iN (0),iN (0)])] fun g h=>
 asI .i64 g fun i=>unc h fun j k=>mE j fun l=>unc l fun m n=>iJ (5,0) m fun o=>unn n (unn k (iw V 71 [.op [.os (5,0) o,iN m1,iN m2,iN m3,iN m4,iN m5,iN m6,iN m7,.rs (5,0) cp,.rs (4,0) cl,.rs (3,0) cd],iN i] fun q r=>
 ik q fun t=>unn t (unc r fun u v=>tk6 u fun w x y z A B C E F G H=>(unn v (some ((iN (0)),[.op [.os (5,0) w,iN x,iN y,iN z,iN A,iN B,iN C,iN E,.rs (5,0) F,.rs (4,0) G,.rs (3,0) H]])))))))))):=by
 exact (xu Try.func74 rfl _).trans (by kernel_rfl)
theorem GZ (a0_0 a0_1 a0_2 a1_0:List D) (a1_1 a1_2 a1_3 a1_4 a1_5 a1_6 a1_7:Int):V 24 [.agg [.rs (5,0) a0_0,.rs (4,0) a0_1,.rs (3,0) a0_2],.agg [.rs (5,0) a1_0,iN a1_1,iN a1_2,iN a1_3,iN a1_4,iN a1_5,iN a1_6,iN a1_7]] =
 iw V 22 [.agg [.rs (5,0) a0_0,.rs (4,0) a0_1,.rs (3,0) a0_2]] fun a b=>
 asB a fun c=>unn b (br (!c)
 (some ((.bool false),[]))
 (
 iw V 15 [.agg [.rs (5,0) a1_0]] fun d e=>
 asB d fun f=>unn e (br (!f)
 (some ((.bool false),[]))
 (
 iw V 20 [.agg [.rs (5,0) a1_0],iN a1_2] fun g h=>
 asB g fun i=>unn h (br (!i)
 (some ((.bool false),[]))
 (
 iw V 20 [.agg [.rs (5,0) a1_0],iN a1_3] fun j k=>
 asB j fun l=>unn k (br (!l)
 (some ((.bool false),[]))
 (
 iw V 20 [.agg [.rs (5,0) a1_0],iN a1_4] fun m n=>
 asB m fun o=>unn n (br (!o)
 (some ((.bool false),[]))
 (
 br (a1_5 == 0)
 (
 iw V 48 [.agg [.rs (5,0) a0_0,.rs (4,0) a0_1,.rs (3,0) a0_2],iN a1_1] fun p q=>
 asB p fun r=>unn q (br r
 (
 br (a1_6 == 0)
 (some ((.bool (a1_7 == 0)),[]))
 (some ((.bool false),[])))
 (some ((.bool false),[]))))
 (
 br (a1_5 == 1)
 (
 iw V 48 [.agg [.rs (5,0) a0_0,.rs (4,0) a0_1,.rs (3,0) a0_2],iN a1_1] fun p q=>
 asB p fun r=>unn q (br r
 (
 iw V 39 [iN a1_6,iN (13),iN (19)] fun s t=>
 asB s fun u=>unn t (br u
 (
 br (a1_6 != 18)
 (
 iw V 20 [.agg [.rs (5,0) a1_0],iN a1_7] fun v w=>
 asB v fun x=>unn w (some ((.bool x),[])))
 (some ((.bool false),[])))
 (some ((.bool false),[]))))
 (some ((.bool false),[]))))
 (
 br (a1_5 == 2)
 (
 br (a1_1 == 0)
 (
 br (a1_6 == 0)
 (
 iw V 20 [.agg [.rs (5,0) a1_0],iN a1_7] fun p q=>
 asB p fun r=>unn q (some ((.bool r),[])))
 (some ((.bool false),[])))
 (some ((.bool false),[])))
 (
 br (a1_5 == 3)
 (
 br (a1_1 == 0)
 (
 iw V 39 [iN a1_6,iN (1),iN (7)] fun p q=>
 asB p fun r=>unn q (br r
 (some ((.bool (a1_7 == 0)),[]))
 (some ((.bool false),[]))))
 (some ((.bool false),[])))
 (some ((.bool false),[]))))))))))))))):=by
 exact (xu Try.func24 rfl _).trans (by kernel_rfl)
theorem Cj (p0:ByteArray) (p1:Int) (p2 p3 p4:List D):xI p0 p1 p2 p3 p4 =
 br (decide (p1 < ni (ByteArray.size p0)))
 (
 grd (decide (0 <= p1) && decide (p1 < ni (ByteArray.size p0))) (br (bt p0 p1 == 32)
 (xI p0 (w6 (p1 + 1)) p2 p3 p4)
 (
 br (bt p0 p1 == 40)
 (grd (decide
 (ni
 (List.length
 (p3 ++
 [D.os
 (TypeInfo.size (Tables.types (Program.toTables Try.prog))[3],
 match qc Try.prog (3) with
 | true=>0
 | false=>1)
 []])) <=
 LIM)) (nam (p3 ++
 [D.os
 (TypeInfo.size (Tables.types (Program.toTables Try.prog))[3],
 match qc Try.prog (3) with
 | true=>0
 | false=>1)
 []]) fun a=>
 grd (decide (ni (List.length (p4++[iN p1])) <= LIM)) (nam (p4++[iN p1]) fun b=>
 xI p0 (w6 (p1 + 1)) p2 a b)))
 (
 br (bt p0 p1 == 41)
 (
 iw V 33 [.op [.os (5,0) p2,.os (1,2) p3,.os (1,0) p4]] fun a b=>
 asB a fun c=>unc b fun d e=>JD d fun f g h=>(unn e (br (!c)
 (some ((.tup [iN (5),iN p1]),[.op [.os (5,0) f,.os (1,2) g,.os (1,0) h]]))
 (xI p0 (w6 (p1 + 1)) f g h))))
 (
 iw V 34 [.int .u8 (bt p0 p1)] fun a b=>
 asB a fun c=>unn b (br (!c)
 (some ((.tup [iN (2),iN p1]),[.op [.os (5,0) p2,.os (1,2) p3,.os (1,0) p4]]))
 (yu p0 p1 p1 p2 p3 p4)))))))
 (
 br (decide (ni p4.length > 0))
 (
 grd (decide (0 <= w6 (ni p4.length - 1)) && decide (w6 (ni p4.length - 1) < ni p4.length)) (cy p4 (Int.toNat (w6 (ni p4.length - 1))) fun a=>
 asI .i64 a fun b=>some ((.tup [iN (4),iN b]),[.op [.os (5,0) p2,.os (1,2) p3,.os (1,0) p4]])))
 (some ((.tup [iN (0),(iN (ni (ByteArray.size p0)))]),[.op [.os (5,0) p2,.os (1,2) p3,.os (1,0) p4]]))):=by
 exact (xt _ _ _).trans (by kernel_rfl)
theorem Dr (p l d:List D) (h:Int) (s:ByteArray) (n x:List D):V 43 [.op [.os (5,0) p,.os (4,0) l,.os (3,0) d,iN h],.str s,.rs (1,0) n,.rs (1,0) x] =
 iw V 23 [.agg [.rs (5,0) p,.rs (4,0) l,.rs (3,0) d],.str s] fun a b=>
 asI .i64 a fun c=>unn b (br (decide (c >= 0))
 (
 iw V 61 [.op [.os (5,0) p,.os (4,0) l,.os (3,0) d,iN h],iN (2)] fun e f=>
 ik e fun g=>unn g (unc f fun i j=>tk2 i fun k m o q=>(unn j (some ((.tup []),[.op [.os (5,0) k,.os (4,0) m,.os (3,0) o,iN q]])))))
 (
 grd (decide (ni (List.length (d++[D.agg [D.str s,iN (ni l.length),iN (ni n.length)]])) <= LIM)) (nam (d++[D.agg [D.str s,iN (ni l.length),iN (ni n.length)]]) fun e=>
 iw V 64 [.op [.os (5,0) p,.os (4,0) l,.os (3,0) e,iN h],.rs (1,0) x,(.rs (1,1) [.rs (1,0) n])] fun f g=>
 ik f fun i=>unn i (unc g fun j k=>tk2 j fun m o q r=>(unn k (iw V 65 [.op [.os (5,0) m,.os (4,0) o,.os (3,0) q,iN r],(.agg [iN (8),iN (0),iN (0),.str ({ data:=#[] })])] fun t u=>
 asI .i64 t fun _=>unc u fun v w=>tk2 v fun y z A B=>(unn w (some ((.tup []),[.op [.os (5,0) y,.os (4,0) z,.os (3,0) A,iN B]]))))))))):=by
 exact (xu Try.func43 rfl _).trans (by kernel_rfl)
theorem zx (p0 p1 p2 p3 p4 p5 p6 p7 p8:Int) (p9 p10 p11 p12:List D):yJ p0 p1 p2 p3 p4 p5 p6 p7 p8 p9 p10 p11 p12 =
 br (decide (p1 > 0))
 (
 grd (decide (0 <= p0) && decide (p0 < ni p12.length)) (cy p12 p0.toNat fun a=>
 asAgg a fun b=>cy b 0 fun c=>
 asI .i64 c fun d=>br (d != 5)
 (some ((.tup [iN (0),.bool false]),[.op [.os (5,0) p12,iN p2,iN p3,iN p4,iN p5,iN p6,iN p7,iN p8,.rs (5,0) p9,.rs (4,0) p10,.rs (3,0) p11]]))
 (
 grd (decide (0 <= p0) && decide (p0 < ni p12.length)) (cy p12 p0.toNat fun e=>
 asAgg e fun f=>cy f 4 fun g=>
 asI .i64 g fun h=>yJ h (w6 (p1 - 1)) p2 p3 p4 p5 p6 p7 p8 p9 p10 p11 p12))))
 (
 grd (decide (0 <= p0) && decide (p0 < ni p12.length)) (cy p12 p0.toNat fun a=>
 asAgg a fun b=>cy b 0 fun c=>
 asI .i64 c fun d=>br (d != 5)
 (some ((.tup [iN (0),.bool false]),[.op [.os (5,0) p12,iN p2,iN p3,iN p4,iN p5,iN p6,iN p7,iN p8,.rs (5,0) p9,.rs (4,0) p10,.rs (3,0) p11]]))
 (
 grd (decide (0 <= p0) && decide (p0 < ni p12.length)) (cy p12 p0.toNat fun e=>
 asAgg e fun f=>cy f 3 fun g=>
 asI .i64 g fun h=>some ((.tup [iN h,.bool true]),[.op [.os (5,0) p12,iN p2,iN p3,iN p4,iN p5,iN p6,iN p7,iN p8,.rs (5,0) p9,.rs (4,0) p10,.rs (3,0) p11]]))))):=by
 exact (xt _ _ _).trans (by kernel_rfl)
theorem AH (p o t:List D) :V 33 [.op [.os (5,0) p,.os (1,2) o,.os (1,0) t]] =
 br (w6 (ni o.length - 1) == 0)
 (some ((.bool false),[.op [.os (5,0) p,.os (1,2) o,.os (1,0) t]]))
 (
 grd (decide (0 <= w6 (ni o.length - 1)) && decide (w6 (ni o.length - 1) < ni o.length)) (cy o (Int.toNat (w6 (ni o.length - 1))) fun a=>
 iJ (1,0) a fun b=>iw V 57 [.op [.os (5,0) p],.rs (1,0) b] fun c d=>
 asI .i64 c fun e=>unc d fun f g=>mE f fun h=>unc h fun i j=>iJ (5,0) i fun k=>unn j (unn g (grd (cE (List.length (List.set o (Int.toNat (w6 (ni o.length - 1))) D.dead)) none (some (w6 (ni o.length - 1)))) (grd (cE t.length none (some (w6 (ni t.length - 1)))) (iw V 36 [(.op [.os (5,0) k,(.os (1,2) (part (List.set o (Int.toNat (w6 (ni o.length - 1))) D.dead) (some (0,Int.toNat (w6 (ni o.length - 1)))))),(.os (1,0) (part t (some (0,Int.toNat (w6 (ni t.length - 1))))))]),iN e] fun l m=>
 ik l fun n=>unn n (unc m fun q r=>JD q fun s u v=>(unn r (some ((.bool true),[.op [.os (5,0) s,.os (1,2) u,.os (1,0) v]])))))))))):=by
 exact (xu Try.func33 rfl _).trans (by kernel_rfl)
theorem FU (p o t:List D) (v:Int):V 36 [.op [.os (5,0) p,.os (1,2) o,.os (1,0) t],iN v] =
 grd (decide (0 <= w6 (ni o.length - 1)) && decide (w6 (ni o.length - 1) < ni o.length)) (cy o (Int.toNat (w6 (ni o.length - 1))) fun a=>
 iJ (1,0) a fun b=>grd (decide (ni (List.length (b++[iN v])) <= LIM)) (nam (b++[iN v]) fun c=>
 grd (decide (0 <= w6 (ni o.length - 1)) && decide (w6 (ni o.length - 1) < ni (List.length (List.set o (Int.toNat (w6 (ni o.length - 1))) D.dead)))) (cy (List.set o (Int.toNat (w6 (ni o.length - 1))) D.dead) (Int.toNat (w6 (ni o.length - 1))) fun _=>
 nam (List.set (List.set o (Int.toNat (w6 (ni o.length - 1))) D.dead) (Int.toNat (w6 (ni o.length - 1)))
 (D.os
 (TypeInfo.size (Tables.types (Program.toTables Try.prog))[3],
 match qc Try.prog (3) with
 | true=>0
 | false=>1)
 c)) fun d=>
 some ((.tup []),[.op [.os (5,0) p,.os (1,2) d,.os (1,0) t]])))):=by
 exact (xu Try.func36 rfl _).trans (by kernel_rfl)
theorem IL (a0_:Int):V 91 [iN a0_] =
 iw V 39 [iN a0_,iN (1),iN (19)] fun a b=>
 asB a fun c=>unn b (br (!c)
 (some ((iN (-1)),[]))
 (
 grd (decide (0 <= w6 (a0_ - 1)) && decide (w6 (a0_ - 1) < ni 19)) (cy ([iN (2),iN (2),iN (2),iN (2),iN (2),iN (2),iN (1),iN (1),iN (1),iN (1),iN (2),iN (1),iN (1),iN (0),iN (2),iN (0),iN (1),iN (1),iN (1)]) (Int.toNat (w6 (a0_ - 1))) fun d=>
 asI .i64 d fun e=>some ((iN e),[])))):=by
 exact (xu Try.func91 rfl _).trans (by kernel_rfl)
theorem Ga (a0_:Int):V 14 [iN a0_] =
 br (decide (a0_ < 0))
 (
 iw V 14 [(iN (w6 (0 - a0_)))] fun a b=>
 asS a fun c=>unn b (grd (decide (ni (ByteArray.size { data:=#[45] } + ByteArray.size c) <= LIM)) (some ((.str ({ data:=#[45] }++c)),[]))))
 (
 br (decide (a0_ < 10))
 (ga ([D.int IntKind.u8 (IntKind.wrap IntKind.u8 (w6 (48 + a0_)))]) fun a=>some ((.str a),[]))
 (
 grd (!decide (10 = 0)) (iw V 14 [(iN (w6 (Int.tdiv a0_ (10))))] fun a b=>
 asS a fun c=>unn b (grd (!decide (10 = 0)) (ga ([D.int IntKind.u8 (IntKind.wrap IntKind.u8 (w6 (48 + Int.tmod a0_ (10))))]) fun d=>grd (decide (ni (ByteArray.size c + ByteArray.size d) <= LIM)) (some ((.str (c++d)),[]))))))):=by
 exact (xu Try.func14 rfl _).trans (by kernel_rfl)
theorem JP (a0_0 a1_:List D):V 9 [.agg [.rs (5,0) a0_0],.rs (1,0) a1_] =
 iw V 15 [.agg [.rs (5,0) a0_0]] fun a b=>
 asB a fun c=>unn b (br (!c)
 (some ((.tup [.agg [.os (5,0) [],.os (4,0) [],.os (3,0) []],iN (3),iN (0)]),[]))
 (
 iw V 18 [.rs (1,0) a1_,(.fn 19 [(.bp [.rs (5,0) a0_0])])] fun d e=>
 asB d fun f=>unn e (br f
 (some ((.tup [.agg [.os (5,0) [],.os (4,0) [],.os (3,0) []],iN (3),iN (0)]),[]))
 (
 iw V 16 [.agg [.rs (5,0) a0_0]] fun g h=>
 asAgg g fun i=>unc i fun j k=>iJ (5,0) j fun l=>unn k (unn h (Dd a1_ a1_ (ni a1_.length) (0) (0) l)))))):=by
 exact (xu Try.func9 rfl _).trans (by kernel_rfl)
theorem Dt (p l d:List D) (h x:Int):V 41 [.op [.os (5,0) p,.os (4,0) l,.os (3,0) d,iN h],iN x] =
 grd (decide (0 <= x) && decide (x < ni p.length)) (cy p x.toNat fun a=>
 tk1 a fun b _ c _ _=>(some ((.tup [.str c,.bool (b == 4)]),[.op [.os (5,0) p,.os (4,0) l,.os (3,0) d,iN h]]))):=by
 exact (xu Try.func41 rfl _).trans (by kernel_rfl)
theorem FT (a0_0:List D) (a0_1 a0_2 a0_3 a0_4 a0_5 a0_6 a0_7:Int):V 26 [.agg [.rs (5,0) a0_0,iN a0_1,iN a0_2,iN a0_3,iN a0_4,iN a0_5,iN a0_6,iN a0_7]] =
 iw V 16 [.agg [.rs (5,0) a0_0]] fun a b=>
 asAgg a fun c=>unc c fun d e=>iJ (5,0) d fun f=>unn e (unn b (some ((.agg [.os (5,0) f,iN a0_1,iN a0_2,iN a0_3,iN a0_4,iN a0_5,iN a0_6,iN a0_7]),[]))):=by
 exact (xu Try.func26 rfl _).trans (by kernel_rfl)
theorem KO (a0_0 a0_1 a0_2:List D):V 22 [.agg [.rs (5,0) a0_0,.rs (4,0) a0_1,.rs (3,0) a0_2]] =
 iw V 15 [.agg [.rs (5,0) a0_0]] fun a b=>
 asB a fun c=>unn b (br (!c)
 (some ((.bool false),[]))
 (
 br (decide (ni a0_1.length > 400))
 (some ((.bool false),[]))
 (
 br (decide (ni a0_2.length > 20))
 (some ((.bool false),[]))
 (zT (ni a0_1.length) (0) a0_0 a0_1 a0_2)))):=by
 exact (xu Try.func22 rfl _).trans (by kernel_rfl)
theorem Ia (p:List D) (a b:Int):V 75 [.op [.os (5,0) p],iN a,iN b] =
 iw V 37 [.op [.os (5,0) p],(.agg [iN (5),iN (0),.str ({ data:=#[] }),iN a,iN b])] fun c d=>
 asI .i64 c fun e=>unc d fun f g=>mE f fun h=>unc h fun i j=>iJ (5,0) i fun k=>unn j (unn g (some ((iN e),[.op [.os (5,0) k]]))):=by
 exact (xu Try.func75 rfl _).trans (by kernel_rfl)
theorem Bx (p0:ByteArray) (p1 p2:Int):zh p0 p1 p2 =
 br (decide (p2 < p1))
 (
 grd (decide (0 <= p2) && decide (p2 < ni (ByteArray.size p0))) (iw V 58 [.int .u8 (bt p0 p2)] fun a b=>
 asB a fun c=>unn b (br (!c)
 (some ((.bool false),[]))
 (zh p0 p1 (w6 (p2 + 1))))))
 (some ((.bool true),[])):=by
 exact (xt _ _ _).trans (by kernel_rfl)
theorem JW (a0_0 a1_:List D):V 66 [.agg [.rs (5,0) a0_0],.rs (1,0) a1_] =
 iw V 15 [.agg [.rs (5,0) a0_0]] fun a b=>
 asB a fun c=>unn b (br c
 (
 iw V 18 [.rs (1,0) a1_,(.fn 79 [(.bp [.rs (5,0) a0_0])])] fun d e=>
 asB d fun f=>unn e (some ((.bool (!f)),[])))
 (some ((.bool false),[]))):=by
 exact (xu Try.func66 rfl _).trans (by kernel_rfl)
theorem KT (a0_:ByteArray):V 85 [.str a0_] =
 iw V 93 [] fun a b=>
 iJ (1,0) a fun c=>unn b (iw V 87 [.rs (1,0) c,.str a0_] fun d e=>
 asI .i64 d fun f=>unn e (some ((iN (w6 (f + 1))),[]))):=by
 exact (xu Try.func85 rfl _).trans (by kernel_rfl)
theorem Fw (p o:List D) (s:ByteArray):V 54 [.op [.rs (5,0) p,.os (1,0) o],.str s] =
 grd (decide (ni (List.length (o++gw s)) <= LIM)) (nam (o++gw s) fun a=>
 some ((.tup []),[.op [.rs (5,0) p,.os (1,0) a]])):=by
 exact (xu Try.func54 rfl _).trans (by kernel_rfl)
theorem KZ (a0_ a1_ a2_:Int):V 39 [iN a0_,iN a1_,iN a2_] =
 br (decide (a0_ >= a1_))
 (some ((.bool (decide (a0_ <= a2_))),[]))
 (some ((.bool false),[])):=by
 exact (xu Try.func39 rfl _).trans (by kernel_rfl)
theorem MZ (r:Int) (p:List D):V 19 [iN r,.bp [.rs (5,0) p]] =
 iw V 20 [.agg [.rs (5,0) p],iN r] fun a b=>
 asB a fun c=>unn b (some ((.bool (!c)),[])):=by
 exact (xu Try.func19 rfl _).trans (by kernel_rfl)
theorem Ct (a0_:List D):V 69 [.os (1,0) a0_] =
 ym (0) (w6 (ni a0_.length - 1)) a0_:=by
 exact (xu Try.func69 rfl _).trans (by kernel_rfl)
theorem Fj (l p:List D):V 38 [.rs (1,0) l,.fn 79 [.bp [.rs (5,0) p]]] =
 yP l p (ni l.length) (0):=by
 exact (xu Try.func38 rfl _).trans (by kernel_rfl)
theorem JQ (a0_0:List D):V 102 [.agg [.rs (5,0) a0_0]] =
 xL a0_0 (ni a0_0.length) (0) [] []:=by
 exact (xu Try.func102 rfl _).trans (by kernel_rfl)

end Go.Eng
/-! bytes,texts,digits: plain facts -/
namespace Go.Eng
noncomputable section

def mk (l : List UInt8) : ByteArray := ⟨l.toArray⟩
theorem xH (l : List UInt8) : (mk l).size = l.length := by simp [mk,ByteArray.size]
theorem y3 (a b : List UInt8) : mk a ++ mk b = mk (a ++ b) := by
 apply ByteArray.ext
 simp [mk]
theorem Lh (l : List UInt8) : (mk l).data.toList = l := by simp [mk]
theorem Qf (s : ByteArray) : mk s.data.toList = s := by
 apply ByteArray.ext
 simp [mk]
theorem RI {a b : List UInt8} : mk a = mk b ↔ a = b := by
 constructor
 ·intro h
  have := congrArg (fun s => s.data.toList) h
  simpa [Lh] using this
 ·rintro rfl; rfl
theorem GY (s : ByteArray) : ∀ (k i : Nat) (acc : List UInt8),k = s.size - i -> ByteArray.toList.loop s i acc = acc.reverse ++ s.data.toList.drop i
 | 0,i,acc,h => by
  unfold ByteArray.toList.loop
  have hs : s.data.toList.length = s.size := by rw [Array.length_toList]; rfl
  rw [if_neg (by omega),List.drop_of_length_le (by omega),List.append_nil]
 | k + 1,i,acc,h => by
  unfold ByteArray.toList.loop
  have hs : s.data.toList.length = s.size := by rw [Array.length_toList]; rfl
  rw [if_pos (by omega),GY s k (i + 1) _ (by omega)]
  have hi : i < s.data.toList.length := by omega
  rw [List.drop_eq_getElem_cons hi]
  have hi' : i < s.data.size := by simpa using hi
  have hg : s.get! i = s.data.toList[i] := by
   show s.data[i]! = _
   rw [getElem!_pos s.data i hi',Array.getElem_toList]
  rw [hg]
  simp
theorem GX (s : ByteArray) : s.toList = s.data.toList := by
 have := GY s s.size 0 [] (by omega)
 rw [List.reverse_nil,List.nil_append,List.drop_zero] at this
 exact this
theorem Az (x y : ByteArray) : jH x y = decide (x = y) := by
 unfold jH
 rw [GX,GX]
 by_cases h : x = y
 ·subst h; simp
 ·have h2 : ¬ x.data.toList = y.data.toList := by
   intro e; apply h; rw [<- Qf x,<- Qf y,e]
  rw [decide_eq_false h]
  exact beq_eq_false_iff_ne.2 h2
theorem JA (a b : List UInt8) : jH (mk a) (mk b) = decide (a = b) := by
 rw [Az]; simp only [RI]
abbrev eU (b : UInt8) : D := .int .u8 (b.toNat : Int)
theorem GN {l : List UInt8} {i : Nat} {x : UInt8} (h : l[i]? = some x) : bt (mk l) (i : Int) = (x.toNat : Int) := by
 simp only [bt,Lh,Int.toNat_natCast]
 rw [List.getD_eq_getElem?_getD,h]; rfl
theorem Fx (l : List UInt8) (a b : Nat) : (mk l).extract a b = mk ((l.drop a).take (b - a)) := by
 apply ByteArray.ext
 simp [mk,ByteArray.data_extract,List.extract_eq_take_drop]
theorem OX (l : List UInt8) : gw (mk l) = l.map eU := by simp [gw,Lh]
theorem Jg {R : Type} (l : List UInt8) (K : ByteArray -> Option R) : ga (l.map eU) K = K (mk l) := by
 have hm : ∀ (f : D -> Option UInt8),(∀ x : UInt8,f (eU x) = some x) -> ∀ l : List UInt8,(l.map eU).mapM f = some l := by
  intro f hf l
  induction l with
  | nil => rfl
  | cons x l ih => rw [List.map_cons,List.mapM_cons,hf,ih]; rfl
 unfold ga
 rw [hm _ (fun x => by simp [])]; rfl
theorem OT {n : Int} (h0 : 0 <= n) (h1 : n < 256) : IntKind.wrap .u8 n = n := by
 simp [IntKind.wrap,IntKind.bits,IntKind.signed]; omega

def Bn (n : Nat) : List UInt8 := if n < 10 then [UInt8.ofNat (48 + n)] else Bn (n / 10) ++ [UInt8.ofNat (48 + n % 10)]
termination_by n
def zY (n : Int) : List UInt8 := if n < 0 then 45 :: Bn n.natAbs else Bn n.natAbs
theorem yW {n : Nat} (h : n < 10) : Bn n = [UInt8.ofNat (48 + n)] := by rw [Bn,if_pos h]
theorem Ap {n : Nat} (h : ¬ n < 10) : Bn n = Bn (n / 10) ++ [UInt8.ofNat (48 + n % 10)] := by rw [Bn,if_neg h]
theorem FK : ∀ (k n : Nat),n < 10 ^ (k + 1) -> (Bn n).length <= k + 1
 | 0,n,h => by rw [yW (by simpa using h)]; simp
 | k + 1,n,h => by
  by_cases h10 : n < 10
  ·rw [yW h10]; simp
  ·rw [Ap h10]
   have := FK k (n / 10) (by rw [Nat.pow_succ] at h; omega)
   simp; omega
theorem IG (n : Nat) : 0 < (Bn n).length := by
 by_cases h10 : n < 10
 ·rw [yW h10]; simp
 ·rw [Ap h10]; simp
theorem K8 {n : Int} (h0 : 0 <= n) (h1 : n < 10) : Utf8.encode (48 + n) = mk [UInt8.ofNat (48 + n).toNat] := by
 obtain ⟨k,rfl⟩ := Int.eq_ofNat_of_zero_le h0
 have : k = 0 \/ k = 1 \/ k = 2 \/ k = 3 \/ k = 4 \/ k = 5 \/ k = 6 \/ k = 7 \/ k = 8 \/ k = 9 := by omega
 rcases this with rfl | rfl | rfl | rfl | rfl | rfl | rfl | rfl | rfl | rfl <;> rfl
end
end Go.Eng
/-! the functions as the interpreter has them -/
namespace Go.Eng
open Go.Proofs Go.Proofs.Try
set_option maxRecDepth 100000
theorem y0 (p l d:List D) (h:Int) (s:ByteArray) (x e:List D):V 89 [.op [.os (5,0) p,.os (4,0) l,.os (3,0) d,iN h],.str s,.rs (1,0) x,.rs (1,1) e] =
 br (jH s { data:=#[113,117,111,116,101] })
 (
 br (ni x.length == 2)
 (
 grd (decide (0 <= 1) && decide (1 < ni x.length)) (cy x 1 fun a=>
 asI .i64 a fun b=>iw V 65 [.op [.os (5,0) p,.os (4,0) l,.os (3,0) d,iN h],(.agg [iN (1),iN b,iN (0),.str ({ data:=#[] })])] fun c f=>
 asI .i64 c fun _=>unc f fun g i=>tk2 g fun j k m n=>(unn i (some ((.tup []),[.op [.os (5,0) j,.os (4,0) k,.os (3,0) m,iN n]])))))
 (
 br (jH s { data:=#[105,102] })
 (
 br (ni x.length == 4)
 (
 iw V 94 [.op [.os (5,0) p,.os (4,0) l,.os (3,0) d,iN h],.rs (1,0) x,.rs (1,1) e] fun a b=>
 ik a fun c=>unn c (unc b fun f g=>tk2 f fun i j k m=>(unn g (some ((.tup []),[.op [.os (5,0) i,.os (4,0) j,.os (3,0) k,iN m]])))))
 (
 br (jH s { data:=#[100,111] })
 (
 br (decide (ni x.length > 1))
 (
 grd (cE x.length (some (1)) none) (iw V 64 [.op [.os (5,0) p,.os (4,0) l,.os (3,0) d,iN h],(.rs (1,0) (u9 x (1))),.rs (1,1) e] fun a b=>
 ik a fun c=>unn c (unc b fun f g=>tk2 f fun i j k m=>(unn g (some ((.tup []),[.op [.os (5,0) i,.os (4,0) j,.os (3,0) k,iN m]]))))))
 (
 br (jH s { data:=#[102,110] })
 (
 br (decide (ni x.length > 2))
 (
 grd (decide (0 <= 1) && decide (1 < ni x.length)) (cy x 1 fun a=>
 asI .i64 a fun b=>iw V 40 [.op [.os (5,0) p],iN b] fun c f=>
 tk3 c fun g i=>(unc f fun j k=>mE j fun m=>unc m fun n o=>iJ (5,0) n fun q=>unn o (unn k (br (!i)
 (
 iw V 61 [.op [.os (5,0) q,.os (4,0) l,.os (3,0) d,iN h],iN (1)] fun r t=>
 ik r fun u=>unn u (unc t fun v w=>tk2 v fun y z A B=>(unn w (some ((.tup []),[.op [.os (5,0) y,.os (4,0) z,.os (3,0) A,iN B]])))))
 (
 iw V 63 [.op [.os (5,0) q,.os (4,0) l,.os (3,0) d,iN h],.rs (1,0) g] fun r t=>
 tk4 r fun u v=>(unc t fun w y=>tk2 w fun z A B C=>(unn y (br (v != 0)
 (
 iw V 61 [.op [.os (5,0) z,.os (4,0) A,.os (3,0) B,iN C],iN v] fun E F=>
 ik E fun G=>unn G (unc F fun H I=>tk2 H fun J K L M=>(unn I (some ((.tup []),[.op [.os (5,0) J,.os (4,0) K,.os (3,0) L,iN M]])))))
 (
 grd (cE x.length (some (2)) none) (iw V 95 [.op [.os (5,0) z,.os (4,0) A,.os (3,0) B,iN C],.rs (1,0) u,(.rs (1,0) (u9 x (2))),.rs (1,1) e] fun E F=>
 ik E fun G=>unn G (unc F fun H I=>tk2 H fun J K L M=>(unn I (some ((.tup []),[.op [.os (5,0) J,.os (4,0) K,.os (3,0) L,iN M]])))))))))))))))
 (
 br (jH s { data:=#[108,101,116] })
 (
 br (decide (ni x.length > 3))
 (
 grd (cE x.length (some (1)) (some (2))) (iw V 63 [.op [.os (5,0) p,.os (4,0) l,.os (3,0) d,iN h],(.rs (1,0) (u9 (u7 x (2)) (1)))] fun a b=>
 tk4 a fun c f=>(unc b fun g i=>tk2 g fun j k m n=>(unn i (br (f != 0)
 (
 iw V 61 [.op [.os (5,0) j,.os (4,0) k,.os (3,0) m,iN n],iN f] fun o q=>
 ik o fun r=>unn r (unc q fun t u=>tk2 t fun v w y z=>(unn u (some ((.tup []),[.op [.os (5,0) v,.os (4,0) w,.os (3,0) y,iN z]])))))
 (
 grd (cE x.length (some (3)) none) (iw V 95 [.op [.os (5,0) j,.os (4,0) k,.os (3,0) m,iN n],.rs (1,0) c,(.rs (1,0) (u9 x (3))),.rs (1,1) e] fun o q=>
 ik o fun r=>unn r (unc q fun t u=>tk2 t fun v w y z=>(unn u (grd (decide (0 <= 2) && decide (2 < ni x.length)) (cy x 2 fun A=>
 asI .i64 A fun B=>iw V 78 [.op [.os (5,0) v,.os (4,0) w,.os (3,0) y,iN z],iN B,.rs (1,1) e] fun C E=>
 ik C fun F=>unn F (unc E fun G H=>tk2 G fun I J K L=>(unn H (iw V 65 [.op [.os (5,0) I,.os (4,0) J,.os (3,0) K,iN L],(.agg [iN (7),iN (0),iN (1),.str ({ data:=#[] })])] fun M N=>
 asI .i64 M fun _=>unc N fun O P=>tk2 O fun Q R S T=>(unn P (some ((.tup []),[.op [.os (5,0) Q,.os (4,0) R,.os (3,0) S,iN T]])))))))))))))))))
 (
 iw V 61 [.op [.os (5,0) p,.os (4,0) l,.os (3,0) d,iN h],iN (1)] fun a b=>
 ik a fun c=>unn c (unc b fun f g=>tk2 f fun i j k m=>(unn g (some ((.tup []),[.op [.os (5,0) i,.os (4,0) j,.os (3,0) k,iN m]]))))))
 (
 iw V 61 [.op [.os (5,0) p,.os (4,0) l,.os (3,0) d,iN h],iN (1)] fun a b=>
 ik a fun c=>unn c (unc b fun f g=>tk2 f fun i j k m=>(unn g (some ((.tup []),[.op [.os (5,0) i,.os (4,0) j,.os (3,0) k,iN m]])))))))
 (
 br (jH s { data:=#[108,101,116] })
 (
 br (decide (ni x.length > 3))
 (
 grd (cE x.length (some (1)) (some (2))) (iw V 63 [.op [.os (5,0) p,.os (4,0) l,.os (3,0) d,iN h],(.rs (1,0) (u9 (u7 x (2)) (1)))] fun a b=>
 tk4 a fun c f=>(unc b fun g i=>tk2 g fun j k m n=>(unn i (br (f != 0)
 (
 iw V 61 [.op [.os (5,0) j,.os (4,0) k,.os (3,0) m,iN n],iN f] fun o q=>
 ik o fun r=>unn r (unc q fun t u=>tk2 t fun v w y z=>(unn u (some ((.tup []),[.op [.os (5,0) v,.os (4,0) w,.os (3,0) y,iN z]])))))
 (
 grd (cE x.length (some (3)) none) (iw V 95 [.op [.os (5,0) j,.os (4,0) k,.os (3,0) m,iN n],.rs (1,0) c,(.rs (1,0) (u9 x (3))),.rs (1,1) e] fun o q=>
 ik o fun r=>unn r (unc q fun t u=>tk2 t fun v w y z=>(unn u (grd (decide (0 <= 2) && decide (2 < ni x.length)) (cy x 2 fun A=>
 asI .i64 A fun B=>iw V 78 [.op [.os (5,0) v,.os (4,0) w,.os (3,0) y,iN z],iN B,.rs (1,1) e] fun C E=>
 ik C fun F=>unn F (unc E fun G H=>tk2 G fun I J K L=>(unn H (iw V 65 [.op [.os (5,0) I,.os (4,0) J,.os (3,0) K,iN L],(.agg [iN (7),iN (0),iN (1),.str ({ data:=#[] })])] fun M N=>
 asI .i64 M fun _=>unc N fun O P=>tk2 O fun Q R S T=>(unn P (some ((.tup []),[.op [.os (5,0) Q,.os (4,0) R,.os (3,0) S,iN T]])))))))))))))))))
 (
 iw V 61 [.op [.os (5,0) p,.os (4,0) l,.os (3,0) d,iN h],iN (1)] fun a b=>
 ik a fun c=>unn c (unc b fun f g=>tk2 f fun i j k m=>(unn g (some ((.tup []),[.op [.os (5,0) i,.os (4,0) j,.os (3,0) k,iN m]]))))))
 (
 iw V 61 [.op [.os (5,0) p,.os (4,0) l,.os (3,0) d,iN h],iN (1)] fun a b=>
 ik a fun c=>unn c (unc b fun f g=>tk2 f fun i j k m=>(unn g (some ((.tup []),[.op [.os (5,0) i,.os (4,0) j,.os (3,0) k,iN m]]))))))))
 (
 br (jH s { data:=#[102,110] })
 (
 br (decide (ni x.length > 2))
 (
 grd (decide (0 <= 1) && decide (1 < ni x.length)) (cy x 1 fun a=>
 asI .i64 a fun b=>iw V 40 [.op [.os (5,0) p],iN b] fun c f=>
 tk3 c fun g i=>(unc f fun j k=>mE j fun m=>unc m fun n o=>iJ (5,0) n fun q=>unn o (unn k (br (!i)
 (
 iw V 61 [.op [.os (5,0) q,.os (4,0) l,.os (3,0) d,iN h],iN (1)] fun r t=>
 ik r fun u=>unn u (unc t fun v w=>tk2 v fun y z A B=>(unn w (some ((.tup []),[.op [.os (5,0) y,.os (4,0) z,.os (3,0) A,iN B]])))))
 (
 iw V 63 [.op [.os (5,0) q,.os (4,0) l,.os (3,0) d,iN h],.rs (1,0) g] fun r t=>
 tk4 r fun u v=>(unc t fun w y=>tk2 w fun z A B C=>(unn y (br (v != 0)
 (
 iw V 61 [.op [.os (5,0) z,.os (4,0) A,.os (3,0) B,iN C],iN v] fun E F=>
 ik E fun G=>unn G (unc F fun H I=>tk2 H fun J K L M=>(unn I (some ((.tup []),[.op [.os (5,0) J,.os (4,0) K,.os (3,0) L,iN M]])))))
 (
 grd (cE x.length (some (2)) none) (iw V 95 [.op [.os (5,0) z,.os (4,0) A,.os (3,0) B,iN C],.rs (1,0) u,(.rs (1,0) (u9 x (2))),.rs (1,1) e] fun E F=>
 ik E fun G=>unn G (unc F fun H I=>tk2 H fun J K L M=>(unn I (some ((.tup []),[.op [.os (5,0) J,.os (4,0) K,.os (3,0) L,iN M]])))))))))))))))
 (
 br (jH s { data:=#[108,101,116] })
 (
 br (decide (ni x.length > 3))
 (
 grd (cE x.length (some (1)) (some (2))) (iw V 63 [.op [.os (5,0) p,.os (4,0) l,.os (3,0) d,iN h],(.rs (1,0) (u9 (u7 x (2)) (1)))] fun a b=>
 tk4 a fun c f=>(unc b fun g i=>tk2 g fun j k m n=>(unn i (br (f != 0)
 (
 iw V 61 [.op [.os (5,0) j,.os (4,0) k,.os (3,0) m,iN n],iN f] fun o q=>
 ik o fun r=>unn r (unc q fun t u=>tk2 t fun v w y z=>(unn u (some ((.tup []),[.op [.os (5,0) v,.os (4,0) w,.os (3,0) y,iN z]])))))
 (
 grd (cE x.length (some (3)) none) (iw V 95 [.op [.os (5,0) j,.os (4,0) k,.os (3,0) m,iN n],.rs (1,0) c,(.rs (1,0) (u9 x (3))),.rs (1,1) e] fun o q=>
 ik o fun r=>unn r (unc q fun t u=>tk2 t fun v w y z=>(unn u (grd (decide (0 <= 2) && decide (2 < ni x.length)) (cy x 2 fun A=>
 asI .i64 A fun B=>iw V 78 [.op [.os (5,0) v,.os (4,0) w,.os (3,0) y,iN z],iN B,.rs (1,1) e] fun C E=>
 ik C fun F=>unn F (unc E fun G H=>tk2 G fun I J K L=>(unn H (iw V 65 [.op [.os (5,0) I,.os (4,0) J,.os (3,0) K,iN L],(.agg [iN (7),iN (0),iN (1),.str ({ data:=#[] })])] fun M N=>
 asI .i64 M fun _=>unc N fun O P=>tk2 O fun Q R S T=>(unn P (some ((.tup []),[.op [.os (5,0) Q,.os (4,0) R,.os (3,0) S,iN T]])))))))))))))))))
 (
 iw V 61 [.op [.os (5,0) p,.os (4,0) l,.os (3,0) d,iN h],iN (1)] fun a b=>
 ik a fun c=>unn c (unc b fun f g=>tk2 f fun i j k m=>(unn g (some ((.tup []),[.op [.os (5,0) i,.os (4,0) j,.os (3,0) k,iN m]]))))))
 (
 iw V 61 [.op [.os (5,0) p,.os (4,0) l,.os (3,0) d,iN h],iN (1)] fun a b=>
 ik a fun c=>unn c (unc b fun f g=>tk2 f fun i j k m=>(unn g (some ((.tup []),[.op [.os (5,0) i,.os (4,0) j,.os (3,0) k,iN m]])))))))
 (
 br (jH s { data:=#[108,101,116] })
 (
 br (decide (ni x.length > 3))
 (
 grd (cE x.length (some (1)) (some (2))) (iw V 63 [.op [.os (5,0) p,.os (4,0) l,.os (3,0) d,iN h],(.rs (1,0) (u9 (u7 x (2)) (1)))] fun a b=>
 tk4 a fun c f=>(unc b fun g i=>tk2 g fun j k m n=>(unn i (br (f != 0)
 (
 iw V 61 [.op [.os (5,0) j,.os (4,0) k,.os (3,0) m,iN n],iN f] fun o q=>
 ik o fun r=>unn r (unc q fun t u=>tk2 t fun v w y z=>(unn u (some ((.tup []),[.op [.os (5,0) v,.os (4,0) w,.os (3,0) y,iN z]])))))
 (
 grd (cE x.length (some (3)) none) (iw V 95 [.op [.os (5,0) j,.os (4,0) k,.os (3,0) m,iN n],.rs (1,0) c,(.rs (1,0) (u9 x (3))),.rs (1,1) e] fun o q=>
 ik o fun r=>unn r (unc q fun t u=>tk2 t fun v w y z=>(unn u (grd (decide (0 <= 2) && decide (2 < ni x.length)) (cy x 2 fun A=>
 asI .i64 A fun B=>iw V 78 [.op [.os (5,0) v,.os (4,0) w,.os (3,0) y,iN z],iN B,.rs (1,1) e] fun C E=>
 ik C fun F=>unn F (unc E fun G H=>tk2 G fun I J K L=>(unn H (iw V 65 [.op [.os (5,0) I,.os (4,0) J,.os (3,0) K,iN L],(.agg [iN (7),iN (0),iN (1),.str ({ data:=#[] })])] fun M N=>
 asI .i64 M fun _=>unc N fun O P=>tk2 O fun Q R S T=>(unn P (some ((.tup []),[.op [.os (5,0) Q,.os (4,0) R,.os (3,0) S,iN T]])))))))))))))))))
 (
 iw V 61 [.op [.os (5,0) p,.os (4,0) l,.os (3,0) d,iN h],iN (1)] fun a b=>
 ik a fun c=>unn c (unc b fun f g=>tk2 f fun i j k m=>(unn g (some ((.tup []),[.op [.os (5,0) i,.os (4,0) j,.os (3,0) k,iN m]]))))))
 (
 iw V 61 [.op [.os (5,0) p,.os (4,0) l,.os (3,0) d,iN h],iN (1)] fun a b=>
 ik a fun c=>unn c (unc b fun f g=>tk2 f fun i j k m=>(unn g (some ((.tup []),[.op [.os (5,0) i,.os (4,0) j,.os (3,0) k,iN m]])))))))))
 (
 br (jH s { data:=#[100,111] })
 (
 br (decide (ni x.length > 1))
 (
 grd (cE x.length (some (1)) none) (iw V 64 [.op [.os (5,0) p,.os (4,0) l,.os (3,0) d,iN h],(.rs (1,0) (u9 x (1))),.rs (1,1) e] fun a b=>
 ik a fun c=>unn c (unc b fun f g=>tk2 f fun i j k m=>(unn g (some ((.tup []),[.op [.os (5,0) i,.os (4,0) j,.os (3,0) k,iN m]]))))))
 (
 br (jH s { data:=#[102,110] })
 (
 br (decide (ni x.length > 2))
 (
 grd (decide (0 <= 1) && decide (1 < ni x.length)) (cy x 1 fun a=>
 asI .i64 a fun b=>iw V 40 [.op [.os (5,0) p],iN b] fun c f=>
 tk3 c fun g i=>(unc f fun j k=>mE j fun m=>unc m fun n o=>iJ (5,0) n fun q=>unn o (unn k (br (!i)
 (
 iw V 61 [.op [.os (5,0) q,.os (4,0) l,.os (3,0) d,iN h],iN (1)] fun r t=>
 ik r fun u=>unn u (unc t fun v w=>tk2 v fun y z A B=>(unn w (some ((.tup []),[.op [.os (5,0) y,.os (4,0) z,.os (3,0) A,iN B]])))))
 (
 iw V 63 [.op [.os (5,0) q,.os (4,0) l,.os (3,0) d,iN h],.rs (1,0) g] fun r t=>
 tk4 r fun u v=>(unc t fun w y=>tk2 w fun z A B C=>(unn y (br (v != 0)
 (
 iw V 61 [.op [.os (5,0) z,.os (4,0) A,.os (3,0) B,iN C],iN v] fun E F=>
 ik E fun G=>unn G (unc F fun H I=>tk2 H fun J K L M=>(unn I (some ((.tup []),[.op [.os (5,0) J,.os (4,0) K,.os (3,0) L,iN M]])))))
 (
 grd (cE x.length (some (2)) none) (iw V 95 [.op [.os (5,0) z,.os (4,0) A,.os (3,0) B,iN C],.rs (1,0) u,(.rs (1,0) (u9 x (2))),.rs (1,1) e] fun E F=>
 ik E fun G=>unn G (unc F fun H I=>tk2 H fun J K L M=>(unn I (some ((.tup []),[.op [.os (5,0) J,.os (4,0) K,.os (3,0) L,iN M]])))))))))))))))
 (
 br (jH s { data:=#[108,101,116] })
 (
 br (decide (ni x.length > 3))
 (
 grd (cE x.length (some (1)) (some (2))) (iw V 63 [.op [.os (5,0) p,.os (4,0) l,.os (3,0) d,iN h],(.rs (1,0) (u9 (u7 x (2)) (1)))] fun a b=>
 tk4 a fun c f=>(unc b fun g i=>tk2 g fun j k m n=>(unn i (br (f != 0)
 (
 iw V 61 [.op [.os (5,0) j,.os (4,0) k,.os (3,0) m,iN n],iN f] fun o q=>
 ik o fun r=>unn r (unc q fun t u=>tk2 t fun v w y z=>(unn u (some ((.tup []),[.op [.os (5,0) v,.os (4,0) w,.os (3,0) y,iN z]])))))
 (
 grd (cE x.length (some (3)) none) (iw V 95 [.op [.os (5,0) j,.os (4,0) k,.os (3,0) m,iN n],.rs (1,0) c,(.rs (1,0) (u9 x (3))),.rs (1,1) e] fun o q=>
 ik o fun r=>unn r (unc q fun t u=>tk2 t fun v w y z=>(unn u (grd (decide (0 <= 2) && decide (2 < ni x.length)) (cy x 2 fun A=>
 asI .i64 A fun B=>iw V 78 [.op [.os (5,0) v,.os (4,0) w,.os (3,0) y,iN z],iN B,.rs (1,1) e] fun C E=>
 ik C fun F=>unn F (unc E fun G H=>tk2 G fun I J K L=>(unn H (iw V 65 [.op [.os (5,0) I,.os (4,0) J,.os (3,0) K,iN L],(.agg [iN (7),iN (0),iN (1),.str ({ data:=#[] })])] fun M N=>
 asI .i64 M fun _=>unc N fun O P=>tk2 O fun Q R S T=>(unn P (some ((.tup []),[.op [.os (5,0) Q,.os (4,0) R,.os (3,0) S,iN T]])))))))))))))))))
 (
 iw V 61 [.op [.os (5,0) p,.os (4,0) l,.os (3,0) d,iN h],iN (1)] fun a b=>
 ik a fun c=>unn c (unc b fun f g=>tk2 f fun i j k m=>(unn g (some ((.tup []),[.op [.os (5,0) i,.os (4,0) j,.os (3,0) k,iN m]]))))))
 (
 iw V 61 [.op [.os (5,0) p,.os (4,0) l,.os (3,0) d,iN h],iN (1)] fun a b=>
 ik a fun c=>unn c (unc b fun f g=>tk2 f fun i j k m=>(unn g (some ((.tup []),[.op [.os (5,0) i,.os (4,0) j,.os (3,0) k,iN m]])))))))
 (
 br (jH s { data:=#[108,101,116] })
 (
 br (decide (ni x.length > 3))
 (
 grd (cE x.length (some (1)) (some (2))) (iw V 63 [.op [.os (5,0) p,.os (4,0) l,.os (3,0) d,iN h],(.rs (1,0) (u9 (u7 x (2)) (1)))] fun a b=>
 tk4 a fun c f=>(unc b fun g i=>tk2 g fun j k m n=>(unn i (br (f != 0)
 (
 iw V 61 [.op [.os (5,0) j,.os (4,0) k,.os (3,0) m,iN n],iN f] fun o q=>
 ik o fun r=>unn r (unc q fun t u=>tk2 t fun v w y z=>(unn u (some ((.tup []),[.op [.os (5,0) v,.os (4,0) w,.os (3,0) y,iN z]])))))
 (
 grd (cE x.length (some (3)) none) (iw V 95 [.op [.os (5,0) j,.os (4,0) k,.os (3,0) m,iN n],.rs (1,0) c,(.rs (1,0) (u9 x (3))),.rs (1,1) e] fun o q=>
 ik o fun r=>unn r (unc q fun t u=>tk2 t fun v w y z=>(unn u (grd (decide (0 <= 2) && decide (2 < ni x.length)) (cy x 2 fun A=>
 asI .i64 A fun B=>iw V 78 [.op [.os (5,0) v,.os (4,0) w,.os (3,0) y,iN z],iN B,.rs (1,1) e] fun C E=>
 ik C fun F=>unn F (unc E fun G H=>tk2 G fun I J K L=>(unn H (iw V 65 [.op [.os (5,0) I,.os (4,0) J,.os (3,0) K,iN L],(.agg [iN (7),iN (0),iN (1),.str ({ data:=#[] })])] fun M N=>
 asI .i64 M fun _=>unc N fun O P=>tk2 O fun Q R S T=>(unn P (some ((.tup []),[.op [.os (5,0) Q,.os (4,0) R,.os (3,0) S,iN T]])))))))))))))))))
 (
 iw V 61 [.op [.os (5,0) p,.os (4,0) l,.os (3,0) d,iN h],iN (1)] fun a b=>
 ik a fun c=>unn c (unc b fun f g=>tk2 f fun i j k m=>(unn g (some ((.tup []),[.op [.os (5,0) i,.os (4,0) j,.os (3,0) k,iN m]]))))))
 (
 iw V 61 [.op [.os (5,0) p,.os (4,0) l,.os (3,0) d,iN h],iN (1)] fun a b=>
 ik a fun c=>unn c (unc b fun f g=>tk2 f fun i j k m=>(unn g (some ((.tup []),[.op [.os (5,0) i,.os (4,0) j,.os (3,0) k,iN m]]))))))))
 (
 br (jH s { data:=#[102,110] })
 (
 br (decide (ni x.length > 2))
 (
 grd (decide (0 <= 1) && decide (1 < ni x.length)) (cy x 1 fun a=>
 asI .i64 a fun b=>iw V 40 [.op [.os (5,0) p],iN b] fun c f=>
 tk3 c fun g i=>(unc f fun j k=>mE j fun m=>unc m fun n o=>iJ (5,0) n fun q=>unn o (unn k (br (!i)
 (
 iw V 61 [.op [.os (5,0) q,.os (4,0) l,.os (3,0) d,iN h],iN (1)] fun r t=>
 ik r fun u=>unn u (unc t fun v w=>tk2 v fun y z A B=>(unn w (some ((.tup []),[.op [.os (5,0) y,.os (4,0) z,.os (3,0) A,iN B]])))))
 (
 iw V 63 [.op [.os (5,0) q,.os (4,0) l,.os (3,0) d,iN h],.rs (1,0) g] fun r t=>
 tk4 r fun u v=>(unc t fun w y=>tk2 w fun z A B C=>(unn y (br (v != 0)
 (
 iw V 61 [.op [.os (5,0) z,.os (4,0) A,.os (3,0) B,iN C],iN v] fun E F=>
 ik E fun G=>unn G (unc F fun H I=>tk2 H fun J K L M=>(unn I (some ((.tup []),[.op [.os (5,0) J,.os (4,0) K,.os (3,0) L,iN M]])))))
 (
 grd (cE x.length (some (2)) none) (iw V 95 [.op [.os (5,0) z,.os (4,0) A,.os (3,0) B,iN C],.rs (1,0) u,(.rs (1,0) (u9 x (2))),.rs (1,1) e] fun E F=>
 ik E fun G=>unn G (unc F fun H I=>tk2 H fun J K L M=>(unn I (some ((.tup []),[.op [.os (5,0) J,.os (4,0) K,.os (3,0) L,iN M]])))))))))))))))
 (
 br (jH s { data:=#[108,101,116] })
 (
 br (decide (ni x.length > 3))
 (
 grd (cE x.length (some (1)) (some (2))) (iw V 63 [.op [.os (5,0) p,.os (4,0) l,.os (3,0) d,iN h],(.rs (1,0) (u9 (u7 x (2)) (1)))] fun a b=>
 tk4 a fun c f=>(unc b fun g i=>tk2 g fun j k m n=>(unn i (br (f != 0)
 (
 iw V 61 [.op [.os (5,0) j,.os (4,0) k,.os (3,0) m,iN n],iN f] fun o q=>
 ik o fun r=>unn r (unc q fun t u=>tk2 t fun v w y z=>(unn u (some ((.tup []),[.op [.os (5,0) v,.os (4,0) w,.os (3,0) y,iN z]])))))
 (
 grd (cE x.length (some (3)) none) (iw V 95 [.op [.os (5,0) j,.os (4,0) k,.os (3,0) m,iN n],.rs (1,0) c,(.rs (1,0) (u9 x (3))),.rs (1,1) e] fun o q=>
 ik o fun r=>unn r (unc q fun t u=>tk2 t fun v w y z=>(unn u (grd (decide (0 <= 2) && decide (2 < ni x.length)) (cy x 2 fun A=>
 asI .i64 A fun B=>iw V 78 [.op [.os (5,0) v,.os (4,0) w,.os (3,0) y,iN z],iN B,.rs (1,1) e] fun C E=>
 ik C fun F=>unn F (unc E fun G H=>tk2 G fun I J K L=>(unn H (iw V 65 [.op [.os (5,0) I,.os (4,0) J,.os (3,0) K,iN L],(.agg [iN (7),iN (0),iN (1),.str ({ data:=#[] })])] fun M N=>
 asI .i64 M fun _=>unc N fun O P=>tk2 O fun Q R S T=>(unn P (some ((.tup []),[.op [.os (5,0) Q,.os (4,0) R,.os (3,0) S,iN T]])))))))))))))))))
 (
 iw V 61 [.op [.os (5,0) p,.os (4,0) l,.os (3,0) d,iN h],iN (1)] fun a b=>
 ik a fun c=>unn c (unc b fun f g=>tk2 f fun i j k m=>(unn g (some ((.tup []),[.op [.os (5,0) i,.os (4,0) j,.os (3,0) k,iN m]]))))))
 (
 iw V 61 [.op [.os (5,0) p,.os (4,0) l,.os (3,0) d,iN h],iN (1)] fun a b=>
 ik a fun c=>unn c (unc b fun f g=>tk2 f fun i j k m=>(unn g (some ((.tup []),[.op [.os (5,0) i,.os (4,0) j,.os (3,0) k,iN m]])))))))
 (
 br (jH s { data:=#[108,101,116] })
 (
 br (decide (ni x.length > 3))
 (
 grd (cE x.length (some (1)) (some (2))) (iw V 63 [.op [.os (5,0) p,.os (4,0) l,.os (3,0) d,iN h],(.rs (1,0) (u9 (u7 x (2)) (1)))] fun a b=>
 tk4 a fun c f=>(unc b fun g i=>tk2 g fun j k m n=>(unn i (br (f != 0)
 (
 iw V 61 [.op [.os (5,0) j,.os (4,0) k,.os (3,0) m,iN n],iN f] fun o q=>
 ik o fun r=>unn r (unc q fun t u=>tk2 t fun v w y z=>(unn u (some ((.tup []),[.op [.os (5,0) v,.os (4,0) w,.os (3,0) y,iN z]])))))
 (
 grd (cE x.length (some (3)) none) (iw V 95 [.op [.os (5,0) j,.os (4,0) k,.os (3,0) m,iN n],.rs (1,0) c,(.rs (1,0) (u9 x (3))),.rs (1,1) e] fun o q=>
 ik o fun r=>unn r (unc q fun t u=>tk2 t fun v w y z=>(unn u (grd (decide (0 <= 2) && decide (2 < ni x.length)) (cy x 2 fun A=>
 asI .i64 A fun B=>iw V 78 [.op [.os (5,0) v,.os (4,0) w,.os (3,0) y,iN z],iN B,.rs (1,1) e] fun C E=>
 ik C fun F=>unn F (unc E fun G H=>tk2 G fun I J K L=>(unn H (iw V 65 [.op [.os (5,0) I,.os (4,0) J,.os (3,0) K,iN L],(.agg [iN (7),iN (0),iN (1),.str ({ data:=#[] })])] fun M N=>
 asI .i64 M fun _=>unc N fun O P=>tk2 O fun Q R S T=>(unn P (some ((.tup []),[.op [.os (5,0) Q,.os (4,0) R,.os (3,0) S,iN T]])))))))))))))))))
 (
 iw V 61 [.op [.os (5,0) p,.os (4,0) l,.os (3,0) d,iN h],iN (1)] fun a b=>
 ik a fun c=>unn c (unc b fun f g=>tk2 f fun i j k m=>(unn g (some ((.tup []),[.op [.os (5,0) i,.os (4,0) j,.os (3,0) k,iN m]]))))))
 (
 iw V 61 [.op [.os (5,0) p,.os (4,0) l,.os (3,0) d,iN h],iN (1)] fun a b=>
 ik a fun c=>unn c (unc b fun f g=>tk2 f fun i j k m=>(unn g (some ((.tup []),[.op [.os (5,0) i,.os (4,0) j,.os (3,0) k,iN m]]))))))))))
 (
 br (jH s { data:=#[105,102] })
 (
 br (ni x.length == 4)
 (
 iw V 94 [.op [.os (5,0) p,.os (4,0) l,.os (3,0) d,iN h],.rs (1,0) x,.rs (1,1) e] fun a b=>
 ik a fun c=>unn c (unc b fun f g=>tk2 f fun i j k m=>(unn g (some ((.tup []),[.op [.os (5,0) i,.os (4,0) j,.os (3,0) k,iN m]])))))
 (
 br (jH s { data:=#[100,111] })
 (
 br (decide (ni x.length > 1))
 (
 grd (cE x.length (some (1)) none) (iw V 64 [.op [.os (5,0) p,.os (4,0) l,.os (3,0) d,iN h],(.rs (1,0) (u9 x (1))),.rs (1,1) e] fun a b=>
 ik a fun c=>unn c (unc b fun f g=>tk2 f fun i j k m=>(unn g (some ((.tup []),[.op [.os (5,0) i,.os (4,0) j,.os (3,0) k,iN m]]))))))
 (
 br (jH s { data:=#[102,110] })
 (
 br (decide (ni x.length > 2))
 (
 grd (decide (0 <= 1) && decide (1 < ni x.length)) (cy x 1 fun a=>
 asI .i64 a fun b=>iw V 40 [.op [.os (5,0) p],iN b] fun c f=>
 tk3 c fun g i=>(unc f fun j k=>mE j fun m=>unc m fun n o=>iJ (5,0) n fun q=>unn o (unn k (br (!i)
 (
 iw V 61 [.op [.os (5,0) q,.os (4,0) l,.os (3,0) d,iN h],iN (1)] fun r t=>
 ik r fun u=>unn u (unc t fun v w=>tk2 v fun y z A B=>(unn w (some ((.tup []),[.op [.os (5,0) y,.os (4,0) z,.os (3,0) A,iN B]])))))
 (
 iw V 63 [.op [.os (5,0) q,.os (4,0) l,.os (3,0) d,iN h],.rs (1,0) g] fun r t=>
 tk4 r fun u v=>(unc t fun w y=>tk2 w fun z A B C=>(unn y (br (v != 0)
 (
 iw V 61 [.op [.os (5,0) z,.os (4,0) A,.os (3,0) B,iN C],iN v] fun E F=>
 ik E fun G=>unn G (unc F fun H I=>tk2 H fun J K L M=>(unn I (some ((.tup []),[.op [.os (5,0) J,.os (4,0) K,.os (3,0) L,iN M]])))))
 (
 grd (cE x.length (some (2)) none) (iw V 95 [.op [.os (5,0) z,.os (4,0) A,.os (3,0) B,iN C],.rs (1,0) u,(.rs (1,0) (u9 x (2))),.rs (1,1) e] fun E F=>
 ik E fun G=>unn G (unc F fun H I=>tk2 H fun J K L M=>(unn I (some ((.tup []),[.op [.os (5,0) J,.os (4,0) K,.os (3,0) L,iN M]])))))))))))))))
 (
 br (jH s { data:=#[108,101,116] })
 (
 br (decide (ni x.length > 3))
 (
 grd (cE x.length (some (1)) (some (2))) (iw V 63 [.op [.os (5,0) p,.os (4,0) l,.os (3,0) d,iN h],(.rs (1,0) (u9 (u7 x (2)) (1)))] fun a b=>
 tk4 a fun c f=>(unc b fun g i=>tk2 g fun j k m n=>(unn i (br (f != 0)
 (
 iw V 61 [.op [.os (5,0) j,.os (4,0) k,.os (3,0) m,iN n],iN f] fun o q=>
 ik o fun r=>unn r (unc q fun t u=>tk2 t fun v w y z=>(unn u (some ((.tup []),[.op [.os (5,0) v,.os (4,0) w,.os (3,0) y,iN z]])))))
 (
 grd (cE x.length (some (3)) none) (iw V 95 [.op [.os (5,0) j,.os (4,0) k,.os (3,0) m,iN n],.rs (1,0) c,(.rs (1,0) (u9 x (3))),.rs (1,1) e] fun o q=>
 ik o fun r=>unn r (unc q fun t u=>tk2 t fun v w y z=>(unn u (grd (decide (0 <= 2) && decide (2 < ni x.length)) (cy x 2 fun A=>
 asI .i64 A fun B=>iw V 78 [.op [.os (5,0) v,.os (4,0) w,.os (3,0) y,iN z],iN B,.rs (1,1) e] fun C E=>
 ik C fun F=>unn F (unc E fun G H=>tk2 G fun I J K L=>(unn H (iw V 65 [.op [.os (5,0) I,.os (4,0) J,.os (3,0) K,iN L],(.agg [iN (7),iN (0),iN (1),.str ({ data:=#[] })])] fun M N=>
 asI .i64 M fun _=>unc N fun O P=>tk2 O fun Q R S T=>(unn P (some ((.tup []),[.op [.os (5,0) Q,.os (4,0) R,.os (3,0) S,iN T]])))))))))))))))))
 (
 iw V 61 [.op [.os (5,0) p,.os (4,0) l,.os (3,0) d,iN h],iN (1)] fun a b=>
 ik a fun c=>unn c (unc b fun f g=>tk2 f fun i j k m=>(unn g (some ((.tup []),[.op [.os (5,0) i,.os (4,0) j,.os (3,0) k,iN m]]))))))
 (
 iw V 61 [.op [.os (5,0) p,.os (4,0) l,.os (3,0) d,iN h],iN (1)] fun a b=>
 ik a fun c=>unn c (unc b fun f g=>tk2 f fun i j k m=>(unn g (some ((.tup []),[.op [.os (5,0) i,.os (4,0) j,.os (3,0) k,iN m]])))))))
 (
 br (jH s { data:=#[108,101,116] })
 (
 br (decide (ni x.length > 3))
 (
 grd (cE x.length (some (1)) (some (2))) (iw V 63 [.op [.os (5,0) p,.os (4,0) l,.os (3,0) d,iN h],(.rs (1,0) (u9 (u7 x (2)) (1)))] fun a b=>
 tk4 a fun c f=>(unc b fun g i=>tk2 g fun j k m n=>(unn i (br (f != 0)
 (
 iw V 61 [.op [.os (5,0) j,.os (4,0) k,.os (3,0) m,iN n],iN f] fun o q=>
 ik o fun r=>unn r (unc q fun t u=>tk2 t fun v w y z=>(unn u (some ((.tup []),[.op [.os (5,0) v,.os (4,0) w,.os (3,0) y,iN z]])))))
 (
 grd (cE x.length (some (3)) none) (iw V 95 [.op [.os (5,0) j,.os (4,0) k,.os (3,0) m,iN n],.rs (1,0) c,(.rs (1,0) (u9 x (3))),.rs (1,1) e] fun o q=>
 ik o fun r=>unn r (unc q fun t u=>tk2 t fun v w y z=>(unn u (grd (decide (0 <= 2) && decide (2 < ni x.length)) (cy x 2 fun A=>
 asI .i64 A fun B=>iw V 78 [.op [.os (5,0) v,.os (4,0) w,.os (3,0) y,iN z],iN B,.rs (1,1) e] fun C E=>
 ik C fun F=>unn F (unc E fun G H=>tk2 G fun I J K L=>(unn H (iw V 65 [.op [.os (5,0) I,.os (4,0) J,.os (3,0) K,iN L],(.agg [iN (7),iN (0),iN (1),.str ({ data:=#[] })])] fun M N=>
 asI .i64 M fun _=>unc N fun O P=>tk2 O fun Q R S T=>(unn P (some ((.tup []),[.op [.os (5,0) Q,.os (4,0) R,.os (3,0) S,iN T]])))))))))))))))))
 (
 iw V 61 [.op [.os (5,0) p,.os (4,0) l,.os (3,0) d,iN h],iN (1)] fun a b=>
 ik a fun c=>unn c (unc b fun f g=>tk2 f fun i j k m=>(unn g (some ((.tup []),[.op [.os (5,0) i,.os (4,0) j,.os (3,0) k,iN m]]))))))
 (
 iw V 61 [.op [.os (5,0) p,.os (4,0) l,.os (3,0) d,iN h],iN (1)] fun a b=>
 ik a fun c=>unn c (unc b fun f g=>tk2 f fun i j k m=>(unn g (some ((.tup []),[.op [.os (5,0) i,.os (4,0) j,.os (3,0) k,iN m]]))))))))
 (
 br (jH s { data:=#[102,110] })
 (
 br (decide (ni x.length > 2))
 (
 grd (decide (0 <= 1) && decide (1 < ni x.length)) (cy x 1 fun a=>
 asI .i64 a fun b=>iw V 40 [.op [.os (5,0) p],iN b] fun c f=>
 tk3 c fun g i=>(unc f fun j k=>mE j fun m=>unc m fun n o=>iJ (5,0) n fun q=>unn o (unn k (br (!i)
 (
 iw V 61 [.op [.os (5,0) q,.os (4,0) l,.os (3,0) d,iN h],iN (1)] fun r t=>
 ik r fun u=>unn u (unc t fun v w=>tk2 v fun y z A B=>(unn w (some ((.tup []),[.op [.os (5,0) y,.os (4,0) z,.os (3,0) A,iN B]])))))
 (
 iw V 63 [.op [.os (5,0) q,.os (4,0) l,.os (3,0) d,iN h],.rs (1,0) g] fun r t=>
 tk4 r fun u v=>(unc t fun w y=>tk2 w fun z A B C=>(unn y (br (v != 0)
 (
 iw V 61 [.op [.os (5,0) z,.os (4,0) A,.os (3,0) B,iN C],iN v] fun E F=>
 ik E fun G=>unn G (unc F fun H I=>tk2 H fun J K L M=>(unn I (some ((.tup []),[.op [.os (5,0) J,.os (4,0) K,.os (3,0) L,iN M]])))))
 (
 grd (cE x.length (some (2)) none) (iw V 95 [.op [.os (5,0) z,.os (4,0) A,.os (3,0) B,iN C],.rs (1,0) u,(.rs (1,0) (u9 x (2))),.rs (1,1) e] fun E F=>
 ik E fun G=>unn G (unc F fun H I=>tk2 H fun J K L M=>(unn I (some ((.tup []),[.op [.os (5,0) J,.os (4,0) K,.os (3,0) L,iN M]])))))))))))))))
 (
 br (jH s { data:=#[108,101,116] })
 (
 br (decide (ni x.length > 3))
 (
 grd (cE x.length (some (1)) (some (2))) (iw V 63 [.op [.os (5,0) p,.os (4,0) l,.os (3,0) d,iN h],(.rs (1,0) (u9 (u7 x (2)) (1)))] fun a b=>
 tk4 a fun c f=>(unc b fun g i=>tk2 g fun j k m n=>(unn i (br (f != 0)
 (
 iw V 61 [.op [.os (5,0) j,.os (4,0) k,.os (3,0) m,iN n],iN f] fun o q=>
 ik o fun r=>unn r (unc q fun t u=>tk2 t fun v w y z=>(unn u (some ((.tup []),[.op [.os (5,0) v,.os (4,0) w,.os (3,0) y,iN z]])))))
 (
 grd (cE x.length (some (3)) none) (iw V 95 [.op [.os (5,0) j,.os (4,0) k,.os (3,0) m,iN n],.rs (1,0) c,(.rs (1,0) (u9 x (3))),.rs (1,1) e] fun o q=>
 ik o fun r=>unn r (unc q fun t u=>tk2 t fun v w y z=>(unn u (grd (decide (0 <= 2) && decide (2 < ni x.length)) (cy x 2 fun A=>
 asI .i64 A fun B=>iw V 78 [.op [.os (5,0) v,.os (4,0) w,.os (3,0) y,iN z],iN B,.rs (1,1) e] fun C E=>
 ik C fun F=>unn F (unc E fun G H=>tk2 G fun I J K L=>(unn H (iw V 65 [.op [.os (5,0) I,.os (4,0) J,.os (3,0) K,iN L],(.agg [iN (7),iN (0),iN (1),.str ({ data:=#[] })])] fun M N=>
 asI .i64 M fun _=>unc N fun O P=>tk2 O fun Q R S T=>(unn P (some ((.tup []),[.op [.os (5,0) Q,.os (4,0) R,.os (3,0) S,iN T]])))))))))))))))))
 (
 iw V 61 [.op [.os (5,0) p,.os (4,0) l,.os (3,0) d,iN h],iN (1)] fun a b=>
 ik a fun c=>unn c (unc b fun f g=>tk2 f fun i j k m=>(unn g (some ((.tup []),[.op [.os (5,0) i,.os (4,0) j,.os (3,0) k,iN m]]))))))
 (
 iw V 61 [.op [.os (5,0) p,.os (4,0) l,.os (3,0) d,iN h],iN (1)] fun a b=>
 ik a fun c=>unn c (unc b fun f g=>tk2 f fun i j k m=>(unn g (some ((.tup []),[.op [.os (5,0) i,.os (4,0) j,.os (3,0) k,iN m]])))))))
 (
 br (jH s { data:=#[108,101,116] })
 (
 br (decide (ni x.length > 3))
 (
 grd (cE x.length (some (1)) (some (2))) (iw V 63 [.op [.os (5,0) p,.os (4,0) l,.os (3,0) d,iN h],(.rs (1,0) (u9 (u7 x (2)) (1)))] fun a b=>
 tk4 a fun c f=>(unc b fun g i=>tk2 g fun j k m n=>(unn i (br (f != 0)
 (
 iw V 61 [.op [.os (5,0) j,.os (4,0) k,.os (3,0) m,iN n],iN f] fun o q=>
 ik o fun r=>unn r (unc q fun t u=>tk2 t fun v w y z=>(unn u (some ((.tup []),[.op [.os (5,0) v,.os (4,0) w,.os (3,0) y,iN z]])))))
 (
 grd (cE x.length (some (3)) none) (iw V 95 [.op [.os (5,0) j,.os (4,0) k,.os (3,0) m,iN n],.rs (1,0) c,(.rs (1,0) (u9 x (3))),.rs (1,1) e] fun o q=>
 ik o fun r=>unn r (unc q fun t u=>tk2 t fun v w y z=>(unn u (grd (decide (0 <= 2) && decide (2 < ni x.length)) (cy x 2 fun A=>
 asI .i64 A fun B=>iw V 78 [.op [.os (5,0) v,.os (4,0) w,.os (3,0) y,iN z],iN B,.rs (1,1) e] fun C E=>
 ik C fun F=>unn F (unc E fun G H=>tk2 G fun I J K L=>(unn H (iw V 65 [.op [.os (5,0) I,.os (4,0) J,.os (3,0) K,iN L],(.agg [iN (7),iN (0),iN (1),.str ({ data:=#[] })])] fun M N=>
 asI .i64 M fun _=>unc N fun O P=>tk2 O fun Q R S T=>(unn P (some ((.tup []),[.op [.os (5,0) Q,.os (4,0) R,.os (3,0) S,iN T]])))))))))))))))))
 (
 iw V 61 [.op [.os (5,0) p,.os (4,0) l,.os (3,0) d,iN h],iN (1)] fun a b=>
 ik a fun c=>unn c (unc b fun f g=>tk2 f fun i j k m=>(unn g (some ((.tup []),[.op [.os (5,0) i,.os (4,0) j,.os (3,0) k,iN m]]))))))
 (
 iw V 61 [.op [.os (5,0) p,.os (4,0) l,.os (3,0) d,iN h],iN (1)] fun a b=>
 ik a fun c=>unn c (unc b fun f g=>tk2 f fun i j k m=>(unn g (some ((.tup []),[.op [.os (5,0) i,.os (4,0) j,.os (3,0) k,iN m]])))))))))
 (
 br (jH s { data:=#[100,111] })
 (
 br (decide (ni x.length > 1))
 (
 grd (cE x.length (some (1)) none) (iw V 64 [.op [.os (5,0) p,.os (4,0) l,.os (3,0) d,iN h],(.rs (1,0) (u9 x (1))),.rs (1,1) e] fun a b=>
 ik a fun c=>unn c (unc b fun f g=>tk2 f fun i j k m=>(unn g (some ((.tup []),[.op [.os (5,0) i,.os (4,0) j,.os (3,0) k,iN m]]))))))
 (
 br (jH s { data:=#[102,110] })
 (
 br (decide (ni x.length > 2))
 (
 grd (decide (0 <= 1) && decide (1 < ni x.length)) (cy x 1 fun a=>
 asI .i64 a fun b=>iw V 40 [.op [.os (5,0) p],iN b] fun c f=>
 tk3 c fun g i=>(unc f fun j k=>mE j fun m=>unc m fun n o=>iJ (5,0) n fun q=>unn o (unn k (br (!i)
 (
 iw V 61 [.op [.os (5,0) q,.os (4,0) l,.os (3,0) d,iN h],iN (1)] fun r t=>
 ik r fun u=>unn u (unc t fun v w=>tk2 v fun y z A B=>(unn w (some ((.tup []),[.op [.os (5,0) y,.os (4,0) z,.os (3,0) A,iN B]])))))
 (
 iw V 63 [.op [.os (5,0) q,.os (4,0) l,.os (3,0) d,iN h],.rs (1,0) g] fun r t=>
 tk4 r fun u v=>(unc t fun w y=>tk2 w fun z A B C=>(unn y (br (v != 0)
 (
 iw V 61 [.op [.os (5,0) z,.os (4,0) A,.os (3,0) B,iN C],iN v] fun E F=>
 ik E fun G=>unn G (unc F fun H I=>tk2 H fun J K L M=>(unn I (some ((.tup []),[.op [.os (5,0) J,.os (4,0) K,.os (3,0) L,iN M]])))))
 (
 grd (cE x.length (some (2)) none) (iw V 95 [.op [.os (5,0) z,.os (4,0) A,.os (3,0) B,iN C],.rs (1,0) u,(.rs (1,0) (u9 x (2))),.rs (1,1) e] fun E F=>
 ik E fun G=>unn G (unc F fun H I=>tk2 H fun J K L M=>(unn I (some ((.tup []),[.op [.os (5,0) J,.os (4,0) K,.os (3,0) L,iN M]])))))))))))))))
 (
 br (jH s { data:=#[108,101,116] })
 (
 br (decide (ni x.length > 3))
 (
 grd (cE x.length (some (1)) (some (2))) (iw V 63 [.op [.os (5,0) p,.os (4,0) l,.os (3,0) d,iN h],(.rs (1,0) (u9 (u7 x (2)) (1)))] fun a b=>
 tk4 a fun c f=>(unc b fun g i=>tk2 g fun j k m n=>(unn i (br (f != 0)
 (
 iw V 61 [.op [.os (5,0) j,.os (4,0) k,.os (3,0) m,iN n],iN f] fun o q=>
 ik o fun r=>unn r (unc q fun t u=>tk2 t fun v w y z=>(unn u (some ((.tup []),[.op [.os (5,0) v,.os (4,0) w,.os (3,0) y,iN z]])))))
 (
 grd (cE x.length (some (3)) none) (iw V 95 [.op [.os (5,0) j,.os (4,0) k,.os (3,0) m,iN n],.rs (1,0) c,(.rs (1,0) (u9 x (3))),.rs (1,1) e] fun o q=>
 ik o fun r=>unn r (unc q fun t u=>tk2 t fun v w y z=>(unn u (grd (decide (0 <= 2) && decide (2 < ni x.length)) (cy x 2 fun A=>
 asI .i64 A fun B=>iw V 78 [.op [.os (5,0) v,.os (4,0) w,.os (3,0) y,iN z],iN B,.rs (1,1) e] fun C E=>
 ik C fun F=>unn F (unc E fun G H=>tk2 G fun I J K L=>(unn H (iw V 65 [.op [.os (5,0) I,.os (4,0) J,.os (3,0) K,iN L],(.agg [iN (7),iN (0),iN (1),.str ({ data:=#[] })])] fun M N=>
 asI .i64 M fun _=>unc N fun O P=>tk2 O fun Q R S T=>(unn P (some ((.tup []),[.op [.os (5,0) Q,.os (4,0) R,.os (3,0) S,iN T]])))))))))))))))))
 (
 iw V 61 [.op [.os (5,0) p,.os (4,0) l,.os (3,0) d,iN h],iN (1)] fun a b=>
 ik a fun c=>unn c (unc b fun f g=>tk2 f fun i j k m=>(unn g (some ((.tup []),[.op [.os (5,0) i,.os (4,0) j,.os (3,0) k,iN m]]))))))
 (
 iw V 61 [.op [.os (5,0) p,.os (4,0) l,.os (3,0) d,iN h],iN (1)] fun a b=>
 ik a fun c=>unn c (unc b fun f g=>tk2 f fun i j k m=>(unn g (some ((.tup []),[.op [.os (5,0) i,.os (4,0) j,.os (3,0) k,iN m]])))))))
 (
 br (jH s { data:=#[108,101,116] })
 (
 br (decide (ni x.length > 3))
 (
 grd (cE x.length (some (1)) (some (2))) (iw V 63 [.op [.os (5,0) p,.os (4,0) l,.os (3,0) d,iN h],(.rs (1,0) (u9 (u7 x (2)) (1)))] fun a b=>
 tk4 a fun c f=>(unc b fun g i=>tk2 g fun j k m n=>(unn i (br (f != 0)
 (
 iw V 61 [.op [.os (5,0) j,.os (4,0) k,.os (3,0) m,iN n],iN f] fun o q=>
 ik o fun r=>unn r (unc q fun t u=>tk2 t fun v w y z=>(unn u (some ((.tup []),[.op [.os (5,0) v,.os (4,0) w,.os (3,0) y,iN z]])))))
 (
 grd (cE x.length (some (3)) none) (iw V 95 [.op [.os (5,0) j,.os (4,0) k,.os (3,0) m,iN n],.rs (1,0) c,(.rs (1,0) (u9 x (3))),.rs (1,1) e] fun o q=>
 ik o fun r=>unn r (unc q fun t u=>tk2 t fun v w y z=>(unn u (grd (decide (0 <= 2) && decide (2 < ni x.length)) (cy x 2 fun A=>
 asI .i64 A fun B=>iw V 78 [.op [.os (5,0) v,.os (4,0) w,.os (3,0) y,iN z],iN B,.rs (1,1) e] fun C E=>
 ik C fun F=>unn F (unc E fun G H=>tk2 G fun I J K L=>(unn H (iw V 65 [.op [.os (5,0) I,.os (4,0) J,.os (3,0) K,iN L],(.agg [iN (7),iN (0),iN (1),.str ({ data:=#[] })])] fun M N=>
 asI .i64 M fun _=>unc N fun O P=>tk2 O fun Q R S T=>(unn P (some ((.tup []),[.op [.os (5,0) Q,.os (4,0) R,.os (3,0) S,iN T]])))))))))))))))))
 (
 iw V 61 [.op [.os (5,0) p,.os (4,0) l,.os (3,0) d,iN h],iN (1)] fun a b=>
 ik a fun c=>unn c (unc b fun f g=>tk2 f fun i j k m=>(unn g (some ((.tup []),[.op [.os (5,0) i,.os (4,0) j,.os (3,0) k,iN m]]))))))
 (
 iw V 61 [.op [.os (5,0) p,.os (4,0) l,.os (3,0) d,iN h],iN (1)] fun a b=>
 ik a fun c=>unn c (unc b fun f g=>tk2 f fun i j k m=>(unn g (some ((.tup []),[.op [.os (5,0) i,.os (4,0) j,.os (3,0) k,iN m]]))))))))
 (
 br (jH s { data:=#[102,110] })
 (
 br (decide (ni x.length > 2))
 (
 grd (decide (0 <= 1) && decide (1 < ni x.length)) (cy x 1 fun a=>
 asI .i64 a fun b=>iw V 40 [.op [.os (5,0) p],iN b] fun c f=>
 tk3 c fun g i=>(unc f fun j k=>mE j fun m=>unc m fun n o=>iJ (5,0) n fun q=>unn o (unn k (br (!i)
 (
 iw V 61 [.op [.os (5,0) q,.os (4,0) l,.os (3,0) d,iN h],iN (1)] fun r t=>
 ik r fun u=>unn u (unc t fun v w=>tk2 v fun y z A B=>(unn w (some ((.tup []),[.op [.os (5,0) y,.os (4,0) z,.os (3,0) A,iN B]])))))
 (
 iw V 63 [.op [.os (5,0) q,.os (4,0) l,.os (3,0) d,iN h],.rs (1,0) g] fun r t=>
 tk4 r fun u v=>(unc t fun w y=>tk2 w fun z A B C=>(unn y (br (v != 0)
 (
 iw V 61 [.op [.os (5,0) z,.os (4,0) A,.os (3,0) B,iN C],iN v] fun E F=>
 ik E fun G=>unn G (unc F fun H I=>tk2 H fun J K L M=>(unn I (some ((.tup []),[.op [.os (5,0) J,.os (4,0) K,.os (3,0) L,iN M]])))))
 (
 grd (cE x.length (some (2)) none) (iw V 95 [.op [.os (5,0) z,.os (4,0) A,.os (3,0) B,iN C],.rs (1,0) u,(.rs (1,0) (u9 x (2))),.rs (1,1) e] fun E F=>
 ik E fun G=>unn G (unc F fun H I=>tk2 H fun J K L M=>(unn I (some ((.tup []),[.op [.os (5,0) J,.os (4,0) K,.os (3,0) L,iN M]])))))))))))))))
 (
 br (jH s { data:=#[108,101,116] })
 (
 br (decide (ni x.length > 3))
 (
 grd (cE x.length (some (1)) (some (2))) (iw V 63 [.op [.os (5,0) p,.os (4,0) l,.os (3,0) d,iN h],(.rs (1,0) (u9 (u7 x (2)) (1)))] fun a b=>
 tk4 a fun c f=>(unc b fun g i=>tk2 g fun j k m n=>(unn i (br (f != 0)
 (
 iw V 61 [.op [.os (5,0) j,.os (4,0) k,.os (3,0) m,iN n],iN f] fun o q=>
 ik o fun r=>unn r (unc q fun t u=>tk2 t fun v w y z=>(unn u (some ((.tup []),[.op [.os (5,0) v,.os (4,0) w,.os (3,0) y,iN z]])))))
 (
 grd (cE x.length (some (3)) none) (iw V 95 [.op [.os (5,0) j,.os (4,0) k,.os (3,0) m,iN n],.rs (1,0) c,(.rs (1,0) (u9 x (3))),.rs (1,1) e] fun o q=>
 ik o fun r=>unn r (unc q fun t u=>tk2 t fun v w y z=>(unn u (grd (decide (0 <= 2) && decide (2 < ni x.length)) (cy x 2 fun A=>
 asI .i64 A fun B=>iw V 78 [.op [.os (5,0) v,.os (4,0) w,.os (3,0) y,iN z],iN B,.rs (1,1) e] fun C E=>
 ik C fun F=>unn F (unc E fun G H=>tk2 G fun I J K L=>(unn H (iw V 65 [.op [.os (5,0) I,.os (4,0) J,.os (3,0) K,iN L],(.agg [iN (7),iN (0),iN (1),.str ({ data:=#[] })])] fun M N=>
 asI .i64 M fun _=>unc N fun O P=>tk2 O fun Q R S T=>(unn P (some ((.tup []),[.op [.os (5,0) Q,.os (4,0) R,.os (3,0) S,iN T]])))))))))))))))))
 (
 iw V 61 [.op [.os (5,0) p,.os (4,0) l,.os (3,0) d,iN h],iN (1)] fun a b=>
 ik a fun c=>unn c (unc b fun f g=>tk2 f fun i j k m=>(unn g (some ((.tup []),[.op [.os (5,0) i,.os (4,0) j,.os (3,0) k,iN m]]))))))
 (
 iw V 61 [.op [.os (5,0) p,.os (4,0) l,.os (3,0) d,iN h],iN (1)] fun a b=>
 ik a fun c=>unn c (unc b fun f g=>tk2 f fun i j k m=>(unn g (some ((.tup []),[.op [.os (5,0) i,.os (4,0) j,.os (3,0) k,iN m]])))))))
 (
 br (jH s { data:=#[108,101,116] })
 (
 br (decide (ni x.length > 3))
 (
 grd (cE x.length (some (1)) (some (2))) (iw V 63 [.op [.os (5,0) p,.os (4,0) l,.os (3,0) d,iN h],(.rs (1,0) (u9 (u7 x (2)) (1)))] fun a b=>
 tk4 a fun c f=>(unc b fun g i=>tk2 g fun j k m n=>(unn i (br (f != 0)
 (
 iw V 61 [.op [.os (5,0) j,.os (4,0) k,.os (3,0) m,iN n],iN f] fun o q=>
 ik o fun r=>unn r (unc q fun t u=>tk2 t fun v w y z=>(unn u (some ((.tup []),[.op [.os (5,0) v,.os (4,0) w,.os (3,0) y,iN z]])))))
 (
 grd (cE x.length (some (3)) none) (iw V 95 [.op [.os (5,0) j,.os (4,0) k,.os (3,0) m,iN n],.rs (1,0) c,(.rs (1,0) (u9 x (3))),.rs (1,1) e] fun o q=>
 ik o fun r=>unn r (unc q fun t u=>tk2 t fun v w y z=>(unn u (grd (decide (0 <= 2) && decide (2 < ni x.length)) (cy x 2 fun A=>
 asI .i64 A fun B=>iw V 78 [.op [.os (5,0) v,.os (4,0) w,.os (3,0) y,iN z],iN B,.rs (1,1) e] fun C E=>
 ik C fun F=>unn F (unc E fun G H=>tk2 G fun I J K L=>(unn H (iw V 65 [.op [.os (5,0) I,.os (4,0) J,.os (3,0) K,iN L],(.agg [iN (7),iN (0),iN (1),.str ({ data:=#[] })])] fun M N=>
 asI .i64 M fun _=>unc N fun O P=>tk2 O fun Q R S T=>(unn P (some ((.tup []),[.op [.os (5,0) Q,.os (4,0) R,.os (3,0) S,iN T]])))))))))))))))))
 (
 iw V 61 [.op [.os (5,0) p,.os (4,0) l,.os (3,0) d,iN h],iN (1)] fun a b=>
 ik a fun c=>unn c (unc b fun f g=>tk2 f fun i j k m=>(unn g (some ((.tup []),[.op [.os (5,0) i,.os (4,0) j,.os (3,0) k,iN m]]))))))
 (
 iw V 61 [.op [.os (5,0) p,.os (4,0) l,.os (3,0) d,iN h],iN (1)] fun a b=>
 ik a fun c=>unn c (unc b fun f g=>tk2 f fun i j k m=>(unn g (some ((.tup []),[.op [.os (5,0) i,.os (4,0) j,.os (3,0) k,iN m]]))))))))):=by
 exact (xu Try.func89 rfl _).trans (by kernel_rfl)

end Go.Eng
/-! the functions as the interpreter has them -/
namespace Go.Eng
open Go.Proofs Go.Proofs.Try
set_option maxRecDepth 100000
theorem Eo (p l d:List D) (h x:Int) (e:List D):V 78 [.op [.os (5,0) p,.os (4,0) l,.os (3,0) d,iN h],iN x,.rs (1,1) e] =
 br (h != 0)
 (some ((.tup []),[.op [.os (5,0) p,.os (4,0) l,.os (3,0) d,iN h]]))
 (
 grd (decide (0 <= x) && decide (x < ni p.length)) (cy p x.toNat fun a=>
 tk1 a fun b _ c _ _=>(br (b == 2)
 (
 br (b == 2)
 (
 iw V 65 [.op [.os (5,0) p,.os (4,0) l,.os (3,0) d,iN h],(.agg [iN (1),iN x,iN (0),.str ({ data:=#[] })])] fun f g=>
 asI .i64 f fun _=>unc g fun i j=>tk2 i fun k m n o=>(unn j (some ((.tup []),[.op [.os (5,0) k,.os (4,0) m,.os (3,0) n,iN o]]))))
 (
 br (b == 4)
 (
 iw V 88 [.op [.os (5,0) p,.os (4,0) l,.os (3,0) d,iN h],.str c,.rs (1,1) e] fun f g=>
 ik f fun i=>unn i (unc g fun j k=>tk2 j fun m n o q=>(unn k (some ((.tup []),[.op [.os (5,0) m,.os (4,0) n,.os (3,0) o,iN q]])))))
 (
 br (b == 5)
 (
 iw V 40 [.op [.os (5,0) p],iN x] fun f g=>
 tk3 f fun i j=>(unc g fun k m=>mE k fun n=>unc n fun o q=>iJ (5,0) o fun r=>unn q (unn m (br (!j)
 (
 iw V 61 [.op [.os (5,0) r,.os (4,0) l,.os (3,0) d,iN h],iN (1)] fun s t=>
 ik s fun u=>unn u (unc t fun v w=>tk2 v fun y z A B=>(unn w (some ((.tup []),[.op [.os (5,0) y,.os (4,0) z,.os (3,0) A,iN B]])))))
 (
 grd (decide (0 <= 0) && decide (0 < ni i.length)) (cy i 0 fun s=>
 asI .i64 s fun t=>iw V 41 [.op [.os (5,0) r,.os (4,0) l,.os (3,0) d,iN h],iN t] fun u v=>
 tk5 u fun w y=>(unc v fun z A=>tk2 z fun B C E F=>(unn A (br y
 (
 iw V 62 [.str w] fun G H=>
 asB G fun I=>unn H (br I
 (
 iw V 89 [.op [.os (5,0) B,.os (4,0) C,.os (3,0) E,iN F],.str w,.rs (1,0) i,.rs (1,1) e] fun J K=>
 ik J fun L=>unn L (unc K fun M N=>tk2 M fun O P Q R=>(unn N (some ((.tup []),[.op [.os (5,0) O,.os (4,0) P,.os (3,0) Q,iN R]])))))
 (
 br (decide (w6 (ni i.length - 1) > 4))
 (
 iw V 61 [.op [.os (5,0) B,.os (4,0) C,.os (3,0) E,iN F],iN (1)] fun J K=>
 ik J fun L=>unn L (unc K fun M N=>tk2 M fun O P Q R=>(unn N (some ((.tup []),[.op [.os (5,0) O,.os (4,0) P,.os (3,0) Q,iN R]])))))
 (xM e (ni i.length) (0) F i B C E))))
 (
 br (decide (w6 (ni i.length - 1) > 4))
 (
 iw V 61 [.op [.os (5,0) B,.os (4,0) C,.os (3,0) E,iN F],iN (1)] fun G H=>
 ik G fun I=>unn I (unc H fun J K=>tk2 J fun L M N O=>(unn K (some ((.tup []),[.op [.os (5,0) L,.os (4,0) M,.os (3,0) N,iN O]])))))
 (xM e (ni i.length) (0) F i B C E)))))))))))
 (
 iw V 61 [.op [.os (5,0) p,.os (4,0) l,.os (3,0) d,iN h],iN (1)] fun f g=>
 ik f fun i=>unn i (unc g fun j k=>tk2 j fun m n o q=>(unn k (some ((.tup []),[.op [.os (5,0) m,.os (4,0) n,.os (3,0) o,iN q]]))))))))
 (
 br (b == 3)
 (
 br (b == 3)
 (
 iw V 65 [.op [.os (5,0) p,.os (4,0) l,.os (3,0) d,iN h],(.agg [iN (1),iN x,iN (0),.str ({ data:=#[] })])] fun f g=>
 asI .i64 f fun _=>unc g fun i j=>tk2 i fun k m n o=>(unn j (some ((.tup []),[.op [.os (5,0) k,.os (4,0) m,.os (3,0) n,iN o]]))))
 (
 br (b == 4)
 (
 iw V 88 [.op [.os (5,0) p,.os (4,0) l,.os (3,0) d,iN h],.str c,.rs (1,1) e] fun f g=>
 ik f fun i=>unn i (unc g fun j k=>tk2 j fun m n o q=>(unn k (some ((.tup []),[.op [.os (5,0) m,.os (4,0) n,.os (3,0) o,iN q]])))))
 (
 br (b == 5)
 (
 iw V 40 [.op [.os (5,0) p],iN x] fun f g=>
 tk3 f fun i j=>(unc g fun k m=>mE k fun n=>unc n fun o q=>iJ (5,0) o fun r=>unn q (unn m (br (!j)
 (
 iw V 61 [.op [.os (5,0) r,.os (4,0) l,.os (3,0) d,iN h],iN (1)] fun s t=>
 ik s fun u=>unn u (unc t fun v w=>tk2 v fun y z A B=>(unn w (some ((.tup []),[.op [.os (5,0) y,.os (4,0) z,.os (3,0) A,iN B]])))))
 (
 grd (decide (0 <= 0) && decide (0 < ni i.length)) (cy i 0 fun s=>
 asI .i64 s fun t=>iw V 41 [.op [.os (5,0) r,.os (4,0) l,.os (3,0) d,iN h],iN t] fun u v=>
 tk5 u fun w y=>(unc v fun z A=>tk2 z fun B C E F=>(unn A (br y
 (
 iw V 62 [.str w] fun G H=>
 asB G fun I=>unn H (br I
 (
 iw V 89 [.op [.os (5,0) B,.os (4,0) C,.os (3,0) E,iN F],.str w,.rs (1,0) i,.rs (1,1) e] fun J K=>
 ik J fun L=>unn L (unc K fun M N=>tk2 M fun O P Q R=>(unn N (some ((.tup []),[.op [.os (5,0) O,.os (4,0) P,.os (3,0) Q,iN R]])))))
 (
 br (decide (w6 (ni i.length - 1) > 4))
 (
 iw V 61 [.op [.os (5,0) B,.os (4,0) C,.os (3,0) E,iN F],iN (1)] fun J K=>
 ik J fun L=>unn L (unc K fun M N=>tk2 M fun O P Q R=>(unn N (some ((.tup []),[.op [.os (5,0) O,.os (4,0) P,.os (3,0) Q,iN R]])))))
 (xM e (ni i.length) (0) F i B C E))))
 (
 br (decide (w6 (ni i.length - 1) > 4))
 (
 iw V 61 [.op [.os (5,0) B,.os (4,0) C,.os (3,0) E,iN F],iN (1)] fun G H=>
 ik G fun I=>unn I (unc H fun J K=>tk2 J fun L M N O=>(unn K (some ((.tup []),[.op [.os (5,0) L,.os (4,0) M,.os (3,0) N,iN O]])))))
 (xM e (ni i.length) (0) F i B C E)))))))))))
 (
 iw V 61 [.op [.os (5,0) p,.os (4,0) l,.os (3,0) d,iN h],iN (1)] fun f g=>
 ik f fun i=>unn i (unc g fun j k=>tk2 j fun m n o q=>(unn k (some ((.tup []),[.op [.os (5,0) m,.os (4,0) n,.os (3,0) o,iN q]]))))))))
 (
 br (b == 1)
 (
 iw V 65 [.op [.os (5,0) p,.os (4,0) l,.os (3,0) d,iN h],(.agg [iN (1),iN x,iN (0),.str ({ data:=#[] })])] fun f g=>
 asI .i64 f fun _=>unc g fun i j=>tk2 i fun k m n o=>(unn j (some ((.tup []),[.op [.os (5,0) k,.os (4,0) m,.os (3,0) n,iN o]]))))
 (
 br (b == 4)
 (
 iw V 88 [.op [.os (5,0) p,.os (4,0) l,.os (3,0) d,iN h],.str c,.rs (1,1) e] fun f g=>
 ik f fun i=>unn i (unc g fun j k=>tk2 j fun m n o q=>(unn k (some ((.tup []),[.op [.os (5,0) m,.os (4,0) n,.os (3,0) o,iN q]])))))
 (
 br (b == 5)
 (
 iw V 40 [.op [.os (5,0) p],iN x] fun f g=>
 tk3 f fun i j=>(unc g fun k m=>mE k fun n=>unc n fun o q=>iJ (5,0) o fun r=>unn q (unn m (br (!j)
 (
 iw V 61 [.op [.os (5,0) r,.os (4,0) l,.os (3,0) d,iN h],iN (1)] fun s t=>
 ik s fun u=>unn u (unc t fun v w=>tk2 v fun y z A B=>(unn w (some ((.tup []),[.op [.os (5,0) y,.os (4,0) z,.os (3,0) A,iN B]])))))
 (
 grd (decide (0 <= 0) && decide (0 < ni i.length)) (cy i 0 fun s=>
 asI .i64 s fun t=>iw V 41 [.op [.os (5,0) r,.os (4,0) l,.os (3,0) d,iN h],iN t] fun u v=>
 tk5 u fun w y=>(unc v fun z A=>tk2 z fun B C E F=>(unn A (br y
 (
 iw V 62 [.str w] fun G H=>
 asB G fun I=>unn H (br I
 (
 iw V 89 [.op [.os (5,0) B,.os (4,0) C,.os (3,0) E,iN F],.str w,.rs (1,0) i,.rs (1,1) e] fun J K=>
 ik J fun L=>unn L (unc K fun M N=>tk2 M fun O P Q R=>(unn N (some ((.tup []),[.op [.os (5,0) O,.os (4,0) P,.os (3,0) Q,iN R]])))))
 (
 br (decide (w6 (ni i.length - 1) > 4))
 (
 iw V 61 [.op [.os (5,0) B,.os (4,0) C,.os (3,0) E,iN F],iN (1)] fun J K=>
 ik J fun L=>unn L (unc K fun M N=>tk2 M fun O P Q R=>(unn N (some ((.tup []),[.op [.os (5,0) O,.os (4,0) P,.os (3,0) Q,iN R]])))))
 (xM e (ni i.length) (0) F i B C E))))
 (
 br (decide (w6 (ni i.length - 1) > 4))
 (
 iw V 61 [.op [.os (5,0) B,.os (4,0) C,.os (3,0) E,iN F],iN (1)] fun G H=>
 ik G fun I=>unn I (unc H fun J K=>tk2 J fun L M N O=>(unn K (some ((.tup []),[.op [.os (5,0) L,.os (4,0) M,.os (3,0) N,iN O]])))))
 (xM e (ni i.length) (0) F i B C E)))))))))))
 (
 iw V 61 [.op [.os (5,0) p,.os (4,0) l,.os (3,0) d,iN h],iN (1)] fun f g=>
 ik f fun i=>unn i (unc g fun j k=>tk2 j fun m n o q=>(unn k (some ((.tup []),[.op [.os (5,0) m,.os (4,0) n,.os (3,0) o,iN q]])))))))))))):=by
 exact (xu Try.func78 rfl _).trans (by kernel_rfl)
theorem JR (a0_0 a0_1 a0_2:List D) (a1_:Int):V 44 [.agg [.rs (5,0) a0_0,.rs (4,0) a0_1,.rs (3,0) a0_2],iN a1_] =
 grd (decide (0 <= a1_) && decide (a1_ < ni a0_1.length)) (cy a0_1 a1_.toNat fun a=>
 Qy a fun b c d e=>(br (b == 1)
 (
 iw V 20 [.agg [.rs (5,0) a0_0],iN c] fun f g=>
 asB f fun h=>unn g (br h
 (
 br (d == 0)
 (some ((.bool (jH e { data:=#[] })),[]))
 (some ((.bool false),[])))
 (some ((.bool false),[]))))
 (
 br (b == 2)
 (
 iw V 39 [iN c,iN (0),iN (20)] fun f g=>
 asB f fun h=>unn g (iw V 39 [iN d,iN (0),iN (3)] fun i j=>
 asB i fun k=>unn j (br h
 (
 br k
 (some ((.bool (jH e { data:=#[] })),[]))
 (some ((.bool false),[])))
 (some ((.bool false),[])))))
 (
 br (b == 3)
 (
 iw V 45 [.str e] fun f g=>
 asB f fun h=>unn g (br (c == 0)
 (
 br (d == 0)
 (some ((.bool h),[]))
 (some ((.bool false),[])))
 (some ((.bool false),[]))))
 (
 br (b == 4)
 (
 br (b == 4)
 (
 iw V 39 [iN c,(iN (w6 (a1_ + 1))),(iN (ni a0_1.length))] fun f g=>
 asB f fun h=>unn g (br h
 (
 br (d == 0)
 (some ((.bool (jH e { data:=#[] })),[]))
 (some ((.bool false),[])))
 (some ((.bool false),[]))))
 (
 br (b == 6)
 (
 iw V 39 [iN c,(iN (w6 (a1_ + 1))),(iN (w6 (ni a0_1.length - 1)))] fun f g=>
 asB f fun h=>unn g (iw V 39 [iN d,iN (0),iN (4)] fun i j=>
 asB i fun k=>unn j (br h
 (
 br k
 (some ((.bool (jH e { data:=#[] })),[]))
 (some ((.bool false),[])))
 (some ((.bool false),[])))))
 (
 br (b == 7)
 (
 iw V 39 [iN d,iN (0),iN (4)] fun f g=>
 asB f fun h=>unn g (br (c == 0)
 (
 br h
 (some ((.bool (jH e { data:=#[] })),[]))
 (some ((.bool false),[])))
 (some ((.bool false),[]))))
 (
 br (b == 8)
 (
 br (b == 8)
 (
 br (c == 0)
 (
 br (d == 0)
 (some ((.bool (jH e { data:=#[] })),[]))
 (some ((.bool false),[])))
 (some ((.bool false),[])))
 (some ((.bool false),[])))
 (
 br (b == 9)
 (
 br (c == 0)
 (
 br (d == 0)
 (some ((.bool (jH e { data:=#[] })),[]))
 (some ((.bool false),[])))
 (some ((.bool false),[])))
 (some ((.bool false),[])))))))
 (
 br (b == 5)
 (
 iw V 39 [iN c,(iN (w6 (a1_ + 1))),(iN (ni a0_1.length))] fun f g=>
 asB f fun h=>unn g (br h
 (
 br (d == 0)
 (some ((.bool (jH e { data:=#[] })),[]))
 (some ((.bool false),[])))
 (some ((.bool false),[]))))
 (
 br (b == 6)
 (
 iw V 39 [iN c,(iN (w6 (a1_ + 1))),(iN (w6 (ni a0_1.length - 1)))] fun f g=>
 asB f fun h=>unn g (iw V 39 [iN d,iN (0),iN (4)] fun i j=>
 asB i fun k=>unn j (br h
 (
 br k
 (some ((.bool (jH e { data:=#[] })),[]))
 (some ((.bool false),[])))
 (some ((.bool false),[])))))
 (
 br (b == 7)
 (
 iw V 39 [iN d,iN (0),iN (4)] fun f g=>
 asB f fun h=>unn g (br (c == 0)
 (
 br h
 (some ((.bool (jH e { data:=#[] })),[]))
 (some ((.bool false),[])))
 (some ((.bool false),[]))))
 (
 br (b == 8)
 (
 br (b == 8)
 (
 br (c == 0)
 (
 br (d == 0)
 (some ((.bool (jH e { data:=#[] })),[]))
 (some ((.bool false),[])))
 (some ((.bool false),[])))
 (some ((.bool false),[])))
 (
 br (b == 9)
 (
 br (c == 0)
 (
 br (d == 0)
 (some ((.bool (jH e { data:=#[] })),[]))
 (some ((.bool false),[])))
 (some ((.bool false),[])))
 (some ((.bool false),[])))))))))))):=by
 exact (xu Try.func44 rfl _).trans (by kernel_rfl)
theorem DE (p:List D) (m1 m2 m3 m4 m5 m6 m7:Int) (cp cl cd:List D) (n:Int) (l:List D):V 83 [.op [.os (5,0) p,iN m1,iN m2,iN m3,iN m4,iN m5,iN m6,iN m7,.rs (5,0) cp,.rs (4,0) cl,.rs (3,0) cd],iN n,.rs (1,0) l] =
 br (ni l.length != 1)
 (some ((iN (2)),[.op [.os (5,0) p,iN m1,iN m2,iN m3,iN m4,iN m5,iN m6,iN m7,.rs (5,0) cp,.rs (4,0) cl,.rs (3,0) cd]]))
 (
 iw V 40 [.op [.os (5,0) p],iN n] fun a b=>
 tk3 a fun c d=>(unc b fun e f=>mE e fun g=>unc g fun h i=>iJ (5,0) h fun j=>unn i (unn f (br (!d)
 (some ((iN (7)),[.op [.os (5,0) j,iN m1,iN m2,iN m3,iN m4,iN m5,iN m6,iN m7,.rs (5,0) cp,.rs (4,0) cl,.rs (3,0) cd]]))
 (
 br (ni c.length != 4)
 (some ((iN (7)),[.op [.os (5,0) j,iN m1,iN m2,iN m3,iN m4,iN m5,iN m6,iN m7,.rs (5,0) cp,.rs (4,0) cl,.rs (3,0) cd]]))
 (
 grd (decide (0 <= 0) && decide (0 < ni c.length)) (cy c 0 fun k=>
 asI .i64 k fun m=>grd (decide (0 <= m) && decide (m < ni j.length)) (cy j m.toNat fun o=>
 asAgg o fun q=>cy q 0 fun r=>
 asI .i64 r fun s=>br (s != 3)
 (some ((iN (7)),[.op [.os (5,0) j,iN m1,iN m2,iN m3,iN m4,iN m5,iN m6,iN m7,.rs (5,0) cp,.rs (4,0) cl,.rs (3,0) cd]]))
 (
 grd (decide (0 <= 0) && decide (0 < ni c.length)) (cy c 0 fun t=>
 asI .i64 t fun u=>grd (decide (0 <= u) && decide (u < ni j.length)) (cy j u.toNat fun v=>
 asAgg v fun w=>cy w 1 fun x=>
 asI .i64 x fun y=>iw V 48 [.agg [.rs (5,0) cp,.rs (4,0) cl,.rs (3,0) cd],iN y] fun z A=>
 asB z fun B=>unn A (br (!B)
 (some ((iN (7)),[.op [.os (5,0) j,iN m1,iN m2,iN m3,iN m4,iN m5,iN m6,iN m7,.rs (5,0) cp,.rs (4,0) cl,.rs (3,0) cd]]))
 (
 grd (decide (0 <= 0) && decide (0 < ni c.length)) (cy c 0 fun C=>
 asI .i64 C fun E=>grd (decide (0 <= E) && decide (E < ni j.length)) (cy j E.toNat fun F=>
 asAgg F fun G=>cy G 1 fun H=>
 asI .i64 H fun I=>grd (decide (0 <= 1) && decide (1 < ni c.length)) (cy c 1 fun J=>
 asI .i64 J fun K=>grd (decide (0 <= 2) && decide (2 < ni c.length)) (cy c 2 fun L=>
 asI .i64 L fun M=>grd (decide (0 <= 3) && decide (3 < ni c.length)) (cy c 3 fun N=>
 asI .i64 N fun O=>grd (decide (0 <= 0) && decide (0 < ni l.length)) (cy l 0 fun P=>
 asI .i64 P fun Q=>iw V 71 [.op [.os (5,0) j,iN I,iN K,iN M,iN O,iN m5,iN m6,iN m7,.rs (5,0) cp,.rs (4,0) cl,.rs (3,0) cd],iN Q] fun R S=>
 ik R fun T=>unn T (unc S fun U W=>tk6 U fun X Y Z a0 a1 a2 a3 a4 a5 a6 a7=>(unn W (some ((iN (0)),[.op [.os (5,0) X,iN Y,iN Z,iN a0,iN a1,iN a2,iN a3,iN a4,.rs (5,0) a5,.rs (4,0) a6,.rs (3,0) a7]]))))))))))))))))))))))):=by
 exact (xu Try.func83 rfl _).trans (by kernel_rfl)
theorem Fm (p l d:List D) (h x:Int):V 21 [.op [.os (5,0) p,.os (4,0) l,.os (3,0) d,iN h],iN x] =
 iw V 40 [.op [.os (5,0) p],iN x] fun a b=>
 tk3 a fun c e=>(unc b fun f g=>mE f fun i=>unc i fun j k=>iJ (5,0) j fun m=>unn k (unn g (br e
 (
 br (decide (ni c.length > 0))
 (
 grd (decide (0 <= 0) && decide (0 < ni c.length)) (cy c 0 fun n=>
 asI .i64 n fun o=>iw V 41 [.op [.os (5,0) m,.os (4,0) l,.os (3,0) d,iN h],iN o] fun q r=>
 tk5 q fun s t=>(unc r fun u v=>tk2 u fun w y z A=>(unn v (br t
 (
 br (jH s { data:=#[100,101,102,105,110,101] })
 (
 iw V 42 [.op [.os (5,0) w,.os (4,0) y,.os (3,0) z,iN A],.rs (1,0) c] fun B C=>
 ik B fun E=>unn E (unc C fun F G=>tk2 F fun H I J K=>(unn G (some ((.tup []),[.op [.os (5,0) H,.os (4,0) I,.os (3,0) J,iN K]])))))
 (
 iw V 43 [.op [.os (5,0) w,.os (4,0) y,.os (3,0) z,iN A],.str ({ data:=#[109,97,105,110] }),.rs (1,0) [],.rs (1,0) [iN x]] fun B C=>
 ik B fun E=>unn E (unc C fun F G=>tk2 F fun H I J K=>(unn G (some ((.tup []),[.op [.os (5,0) H,.os (4,0) I,.os (3,0) J,iN K]]))))))
 (
 iw V 43 [.op [.os (5,0) w,.os (4,0) y,.os (3,0) z,iN A],.str ({ data:=#[109,97,105,110] }),.rs (1,0) [],.rs (1,0) [iN x]] fun B C=>
 ik B fun E=>unn E (unc C fun F G=>tk2 F fun H I J K=>(unn G (some ((.tup []),[.op [.os (5,0) H,.os (4,0) I,.os (3,0) J,iN K]]))))))))))
 (
 iw V 43 [.op [.os (5,0) m,.os (4,0) l,.os (3,0) d,iN h],.str ({ data:=#[109,97,105,110] }),.rs (1,0) [],.rs (1,0) [iN x]] fun n o=>
 ik n fun q=>unn q (unc o fun r s=>tk2 r fun t u v w=>(unn s (some ((.tup []),[.op [.os (5,0) t,.os (4,0) u,.os (3,0) v,iN w]]))))))
 (
 iw V 43 [.op [.os (5,0) m,.os (4,0) l,.os (3,0) d,iN h],.str ({ data:=#[109,97,105,110] }),.rs (1,0) [],.rs (1,0) [iN x]] fun n o=>
 ik n fun q=>unn q (unc o fun r s=>tk2 r fun t u v w=>(unn s (some ((.tup []),[.op [.os (5,0) t,.os (4,0) u,.os (3,0) v,iN w]])))))))):=by
 exact (xu Try.func21 rfl _).trans (by kernel_rfl)
theorem Dq (p l d:List D) (h:Int) (x e:List D):V 94 [.op [.os (5,0) p,.os (4,0) l,.os (3,0) d,iN h],.rs (1,0) x,.rs (1,1) e] =
 grd (decide (0 <= 1) && decide (1 < ni x.length)) (cy x 1 fun a=>
 asI .i64 a fun b=>iw V 78 [.op [.os (5,0) p,.os (4,0) l,.os (3,0) d,iN h],iN b,.rs (1,1) e] fun c f=>
 ik c fun g=>unn g (unc f fun i j=>tk2 i fun k m n o=>(unn j (iw V 65 [.op [.os (5,0) k,.os (4,0) m,.os (3,0) n,iN o],(.agg [iN (4),iN (0),iN (0),.str ({ data:=#[] })])] fun q r=>
 asI .i64 q fun s=>unc r fun t u=>tk2 t fun v w y z=>(unn u (grd (decide (0 <= 2) && decide (2 < ni x.length)) (cy x 2 fun A=>
 asI .i64 A fun B=>iw V 78 [.op [.os (5,0) v,.os (4,0) w,.os (3,0) y,iN z],iN B,.rs (1,1) e] fun C E=>
 ik C fun F=>unn F (unc E fun G H=>tk2 G fun I J K L=>(unn H (iw V 65 [.op [.os (5,0) I,.os (4,0) J,.os (3,0) K,iN L],(.agg [iN (5),iN (0),iN (0),.str ({ data:=#[] })])] fun M N=>
 asI .i64 M fun O=>unc N fun P Q=>tk2 P fun R S T U=>(unn Q (iw V 97 [.op [.os (5,0) R,.os (4,0) S,.os (3,0) T,iN U],iN s] fun W X=>
 ik W fun Y=>unn Y (unc X fun Z a0=>tk2 Z fun a1 a2 a3 a4=>(unn a0 (grd (decide (0 <= 3) && decide (3 < ni x.length)) (cy x 3 fun a5=>
 asI .i64 a5 fun a6=>iw V 78 [.op [.os (5,0) a1,.os (4,0) a2,.os (3,0) a3,iN a4],iN a6,.rs (1,1) e] fun a7 a8=>
 ik a7 fun a9=>unn a9 (unc a8 fun b0 b1=>tk2 b0 fun b2 b3 b4 b5=>(unn b1 (iw V 97 [.op [.os (5,0) b2,.os (4,0) b3,.os (3,0) b4,iN b5],iN O] fun b6 b7=>
 ik b6 fun b8=>unn b8 (unc b7 fun b9 c0=>tk2 b9 fun c1 c2 c3 c4=>(unn c0 (some ((.tup []),[.op [.os (5,0) c1,.os (4,0) c2,.os (3,0) c3,iN c4]]))))))))))))))))))))))):=by
 exact (xu Try.func94 rfl _).trans (by kernel_rfl)
theorem Cm (p l d:List D) (h:Int) (n x e:List D):V 95 [.op [.os (5,0) p,.os (4,0) l,.os (3,0) d,iN h],.rs (1,0) n,.rs (1,0) x,.rs (1,1) e] =
 iw V 65 [.op [.os (5,0) p,.os (4,0) l,.os (3,0) d,iN h],(.agg [iN (6),(iN (w6 (ni l.length + 2))),(iN (ni n.length)),.str ({ data:=#[] })])] fun a b=>
 asI .i64 a fun _=>unc b fun c f=>tk2 c fun g i j k=>(unn f (iw V 65 [.op [.os (5,0) g,.os (4,0) i,.os (3,0) j,iN k],(.agg [iN (5),iN (0),iN (0),.str ({ data:=#[] })])] fun m o=>
 asI .i64 m fun q=>unc o fun r s=>tk2 r fun t u v w=>(unn s (iw V 98 [.rs (1,1) e] fun y z=>
 iJ (1,1) y fun A=>unn z (grd (decide (ni (List.length (A++[D.rs (1,0) n])) <= LIM)) (nam (A++[D.rs (1,0) n]) fun B=>
 iw V 64 [.op [.os (5,0) t,.os (4,0) u,.os (3,0) v,iN w],.rs (1,0) x,.rs (1,1) B] fun C E=>
 ik C fun F=>unn F (unc E fun G H=>tk2 G fun I J K L=>(unn H (iw V 65 [.op [.os (5,0) I,.os (4,0) J,.os (3,0) K,iN L],(.agg [iN (8),iN (0),iN (0),.str ({ data:=#[] })])] fun M N=>
 asI .i64 M fun _=>unc N fun O P=>tk2 O fun Q R S T=>(unn P (iw V 97 [.op [.os (5,0) Q,.os (4,0) R,.os (3,0) S,iN T],iN q] fun U W=>
 ik U fun X=>unn X (unc W fun Y Z=>tk2 Y fun a0 a1 a2 a3=>(unn Z (some ((.tup []),[.op [.os (5,0) a0,.os (4,0) a1,.os (3,0) a2,iN a3]]))))))))))))))):=by
 exact (xu Try.func95 rfl _).trans (by kernel_rfl)
theorem KU (a0_0 a0_1 a0_2 a1_0:List D) (a1_1 a1_2 a1_3 a1_4 a1_5 a1_6 a1_7 a2_:Int):V 11 [.agg [.rs (5,0) a0_0,.rs (4,0) a0_1,.rs (3,0) a0_2],.agg [.rs (5,0) a1_0,iN a1_1,iN a1_2,iN a1_3,iN a1_4,iN a1_5,iN a1_6,iN a1_7],iN a2_] =
 iw V 24 [.agg [.rs (5,0) a0_0,.rs (4,0) a0_1,.rs (3,0) a0_2],(.agg [.rs (5,0) a1_0,iN a1_1,iN a1_2,iN a1_3,iN a1_4,iN a1_5,iN a1_6,iN a1_7])] fun a b=>
 asB a fun c=>unn b (br (!c)
 (
 iw V 25 [.agg [.rs (5,0) a0_0,.rs (4,0) a0_1,.rs (3,0) a0_2],(.agg [.rs (5,0) a1_0,iN a1_1,iN a1_2,iN a1_3,iN a1_4,iN a1_5,iN a1_6,iN a1_7])] fun d e=>
 tk7 d fun f g h i j k l m=>(unn e (some ((.tup [.agg [.os (5,0) f,iN g,iN h,iN i,iN j,iN k,iN l,iN m],iN (0)]),[]))))
 (
 iw V 26 [.agg [.rs (5,0) a1_0,iN a1_1,iN a1_2,iN a1_3,iN a1_4,iN a1_5,iN a1_6,iN a1_7]] fun d e=>
 tk7 d fun f g h i j k l m=>(unn e (zX a2_ (0) a0_0 a0_1 a0_2 g h i j k l m (0) (0) (0) (0) (0) (0) (0) f)))):=by
 exact (xu Try.func11 rfl _).trans (by kernel_rfl)
theorem Fg (p0 p1:List D) (p2 p3 p4:Int) (p5:List D):Dd p0 p1 p2 p3 p4 p5 =
 br (decide (p3 < p2))
 (
 grd (decide (0 <= p3) && decide (p3 < ni p1.length)) (cy p1 p3.toNat fun a=>
 asI .i64 a fun b=>iw V 21 [.op [.os (5,0) p5,.os (4,0) [],.os (3,0) [],iN p4],iN b] fun c d=>
 ik c fun e=>unn e (unc d fun f g=>tk2 f fun h i j k=>(unn g (br (k == 1)
 (
 br (k == 1)
 (some ((.tup [.agg [.os (5,0) [],.os (4,0) [],.os (3,0) []],iN k,iN p3]),[]))
 (
 br (k == 3)
 (some ((.tup [.agg [.os (5,0) [],.os (4,0) [],.os (3,0) []],iN (3),iN (0)]),[]))
 (yz p0 p1 p2 (w6 (p3 + 1)) k h i j)))
 (
 br (k == 2)
 (some ((.tup [.agg [.os (5,0) [],.os (4,0) [],.os (3,0) []],iN k,iN p3]),[]))
 (
 br (k == 3)
 (some ((.tup [.agg [.os (5,0) [],.os (4,0) [],.os (3,0) []],iN (3),iN (0)]),[]))
 (yz p0 p1 p2 (w6 (p3 + 1)) k h i j))))))))
 (
 iw V 22 [.agg [.rs (5,0) p5,.rs (4,0) [],.rs (3,0) []]] fun a b=>
 asB a fun c=>unn b (br (!c)
 (some ((.tup [.agg [.os (5,0) [],.os (4,0) [],.os (3,0) []],iN (3),iN (0)]),[]))
 (some ((.tup [.agg [.os (5,0) p5,.os (4,0) [],.os (3,0) []],iN (0),(iN (ni p0.length))]),[])))):=by
 exact (xt _ _ _).trans (by kernel_rfl)
theorem Fk (p l d:List D) (h io im ii:Int) (is:ByteArray):V 65 [.op [.os (5,0) p,.os (4,0) l,.os (3,0) d,iN h],.agg [iN io,iN im,iN ii,.str is]] =
 br (ni l.length == 400)
 (
 iw V 61 [.op [.os (5,0) p,.os (4,0) l,.os (3,0) d,iN h],iN (3)] fun a b=>
 ik a fun c=>unn c (unc b fun e f=>tk2 e fun g i j k=>(unn f (br (k != 0)
 (some ((iN (0)),[.op [.os (5,0) g,.os (4,0) i,.os (3,0) j,iN k]]))
 (
 grd (decide (ni (List.length (i++[D.agg [iN io,iN im,iN ii,D.str is]])) <= LIM)) (nam (i++[D.agg [iN io,iN im,iN ii,D.str is]]) fun m=>
 some ((iN (w6 (ni m.length - 1))),[.op [.os (5,0) g,.os (4,0) m,.os (3,0) j,iN k]])))))))
 (
 br (h != 0)
 (some ((iN (0)),[.op [.os (5,0) p,.os (4,0) l,.os (3,0) d,iN h]]))
 (
 grd (decide (ni (List.length (l++[D.agg [iN io,iN im,iN ii,D.str is]])) <= LIM)) (nam (l++[D.agg [iN io,iN im,iN ii,D.str is]]) fun a=>
 some ((iN (w6 (ni a.length - 1))),[.op [.os (5,0) p,.os (4,0) a,.os (3,0) d,iN h]])))):=by
 exact (xu Try.func65 rfl _).trans (by kernel_rfl)
theorem LG (a0_0:List D) (a1_:Int):V 13 [.agg [.rs (5,0) a0_0],iN a1_] =
 iw V 15 [.agg [.rs (5,0) a0_0]] fun a b=>
 asB a fun c=>unn b (br (!c)
 (some ((.str ({ data:=#[] })),[]))
 (
 iw V 20 [.agg [.rs (5,0) a0_0],iN a1_] fun d e=>
 asB d fun f=>unn e (br (!f)
 (some ((.str ({ data:=#[] })),[]))
 (
 grd (decide (0 <= a1_) && decide (a1_ < ni a0_0.length)) (cy a0_0 a1_.toNat fun g=>
 asAgg g fun h=>cy h 0 fun i=>
 asI .i64 i fun j=>br (j == 1)
 (some ((.str ({ data:=#[40,41] })),[]))
 (
 iw V 29 [.op [.rs (5,0) a0_0,.os (1,0) []],iN a1_] fun k l=>
 ik k fun m=>unn m (unc l fun n o=>z6 n fun p q=>(unn o (iw V 30 [.op [.rs (5,0) p,.os (1,0) q]] fun r s=>
 asB r fun t=>unc s fun u v=>z6 u fun _ w=>(unn v (br t
 (some ((.str ({ data:=#[] })),[]))
 (ga w fun x=>some ((.str x),[]))))))))))))):=by
 exact (xu Try.func13 rfl _).trans (by kernel_rfl)
theorem CR (p0:Int) (p1 p2:List D):yZ p0 p1 p2 =
 grd (decide (0 <= p0) && decide (p0 < ni p2.length)) (cy p2 p0.toNat fun a=>
 asAgg a fun b=>cy b 0 fun c=>
 asI .i64 c fun d=>br (d == 5)
 (
 grd (decide (0 <= p0) && decide (p0 < ni p2.length)) (cy p2 p0.toNat fun e=>
 asAgg e fun f=>cy f 3 fun g=>
 asI .i64 g fun h=>grd (decide (ni (List.length (p1++[iN h])) <= LIM)) (nam (p1++[iN h]) fun i=>
 grd (decide (0 <= p0) && decide (p0 < ni p2.length)) (cy p2 p0.toNat fun j=>
 asAgg j fun k=>cy k 4 fun l=>
 asI .i64 l fun m=>yZ m i p2))))
 (
 grd (decide (0 <= p0) && decide (p0 < ni p2.length)) (cy p2 p0.toNat fun e=>
 asAgg e fun f=>cy f 0 fun g=>
 asI .i64 g fun h=>some ((.tup [.os (1,0) p1,.bool (h == 1)]),[.op [.os (5,0) p2]])))):=by
 exact (xt _ _ _).trans (by kernel_rfl)
theorem yg (p0 p1:Int) (p2:List D):ym p0 p1 p2 =
 br (decide (p0 < p1))
 (
 grd (decide (0 <= p1) && decide (p1 < ni p2.length)) (cy p2 p1.toNat fun a=>
 asI .i64 a fun b=>grd (decide (0 <= p0) && decide (p0 < ni p2.length)) (cy p2 p0.toNat fun c=>
 asI .i64 c fun d=>grd (decide (0 <= p0) && decide (p0 < ni p2.length)) (cy p2 p0.toNat fun _=>
 nam (List.set p2 p0.toNat (iN b)) fun e=>
 grd (decide (0 <= p1) && decide (p1 < ni e.length)) (cy e p1.toNat fun _=>
 nam (List.set e p1.toNat (iN d)) fun f=>
 ym (w6 (p0 + 1)) (w6 (p1 - 1)) f)))))
 (some ((.tup []),[.os (1,0) p2])):=by
 exact (xt _ _ _).trans (by kernel_rfl)
theorem Ic :V 93 [] =
 some ((.os (1,0) [.str ({ data:=#[43] }),.str ({ data:=#[45] }),.str ({ data:=#[42] }),.str ({ data:=#[60] }),.str ({ data:=#[61] }),.str ({ data:=#[99,111,110,115] }),.str ({ data:=#[99,97,114] }),.str ({ data:=#[99,100,114] }),.str ({ data:=#[110,117,108,108,63] }),.str ({ data:=#[112,97,105,114,63] }),.str ({ data:=#[101,113,63] }),.str ({ data:=#[110,111,116] }),.str ({ data:=#[112,114,105,110,116] }),.str ({ data:=#[115,101,108,102] }),.str ({ data:=#[115,101,110,100] }),.str ({ data:=#[114,101,99,118] }),.str ({ data:=#[115,112,97,119,110] }),.str ({ data:=#[99,97,108,108,99,99] }),.str ({ data:=#[103,111] })]),[]):=by
 exact (xu Try.func93 rfl _).trans (by kernel_rfl)
theorem z7 (p0:List D) (p1:ByteArray) (p2 p3:Int):y7 p0 p1 p2 p3 =
 br (decide (p3 < p2))
 (
 grd (decide (0 <= p3) && decide (p3 < ni p0.length)) (cy p0 p3.toNat fun a=>
 PA a fun b c d=>(iw V 47 [.agg [.str b,iN c,iN d],(.bp [.str p1])] fun e f=>
 asB e fun g=>unn f (br g
 (some ((iN p3),[]))
 (y7 p0 p1 p2 (w6 (p3 + 1)))))))
 (some ((iN (-1)),[])):=by
 exact (xt _ _ _).trans (by kernel_rfl)
theorem Ak (p0:List D) (p1 p2:Int) (p3:List D):zb p0 p1 p2 p3 =
 br (decide (p2 >= 0))
 (
 grd (decide (0 <= p2) && decide (p2 < ni p0.length)) (cy p0 p2.toNat fun a=>
 asI .i64 a fun b=>iw V 75 [.op [.os (5,0) p3],iN b,iN p1] fun c d=>
 asI .i64 c fun e=>unc d fun f g=>mE f fun h=>unc h fun i j=>iJ (5,0) i fun k=>unn j (unn g (zb p0 e (w6 (p2 - 1)) k))))
 (some ((iN p1),[.op [.os (5,0) p3]])):=by
 exact (xt _ _ _).trans (by kernel_rfl)
theorem zP (p0 p1:List D) (p2 p3:Int):yP p0 p1 p2 p3 =
 br (decide (p3 < p2))
 (
 grd (decide (0 <= p3) && decide (p3 < ni p0.length)) (cy p0 p3.toNat fun a=>
 asI .i64 a fun b=>iw V 79 [iN b,(.bp [.rs (5,0) p1])] fun c d=>
 asB c fun e=>unn d (br e
 (some ((iN p3),[]))
 (yP p0 p1 p2 (w6 (p3 + 1))))))
 (some ((iN (-1)),[])):=by
 exact (xt _ _ _).trans (by kernel_rfl)
theorem G9 (p l:List D):V 57 [.op [.os (5,0) p],.rs (1,0) l] =
 iw V 37 [.op [.os (5,0) p],(.agg [iN (1),iN (0),.str ({ data:=#[] }),iN (0),iN (0)])] fun a b=>
 asI .i64 a fun c=>unc b fun d e=>mE d fun f=>unc f fun g h=>iJ (5,0) g fun i=>unn h (unn e (zb l c (w6 (ni l.length - 1)) i)):=by
 exact (xu Try.func57 rfl _).trans (by kernel_rfl)
theorem FQ (p q l:List D):V 80 [.op [.os (5,0) p],.agg [.rs (5,0) q],.rs (1,0) l] =
 grd (decide (0 <= ni q.length) && decide (ni q.length <= LIM)) (iw V 90 [.agg [.rs (5,0) q],.rs (1,0) l] fun a b=>
 iJ (1,0) a fun c=>unn b (xP q (ni q.length) (0) (List.replicate (Int.toNat (ni q.length)) (iN (0))) c p)):=by
 exact (xu Try.func80 rfl _).trans (by kernel_rfl)
theorem LH (a0_0 a1_:List D):V 90 [.agg [.rs (5,0) a0_0],.rs (1,0) a1_] =
 grd (decide (0 <= ni a0_0.length) && decide (ni a0_0.length <= LIM)) (zw a1_ (ni a1_.length) (0) a0_0 (List.replicate (Int.toNat (ni a0_0.length)) (D.bool false))):=by
 exact (xu Try.func90 rfl _).trans (by kernel_rfl)
theorem IP (a0_:Bool):V 99 [.bool a0_] =
 br a0_
 (some ((.agg [iN (2),iN (1),.str ({ data:=#[] }),iN (0),iN (0)]),[]))
 (some ((.agg [iN (2),iN (0),.str ({ data:=#[] }),iN (0),iN (0)]),[])):=by
 exact (xu Try.func99 rfl _).trans (by kernel_rfl)
theorem Dp (l p:List D):V 18 [.rs (1,0) l,.fn 79 [.bp [.rs (5,0) p]]] =
 iw V 38 [.rs (1,0) l,(.fn 79 [(.bp [.rs (5,0) p])])] fun a b=>
 asI .i64 a fun c=>unn b (some ((.bool (decide (c >= 0))),[])):=by
 exact (xu Try.func18 rfl _).trans (by kernel_rfl)
theorem z9 (a0_:List D) (a1_:ByteArray):V 77 [.rs (1,0) a0_,.str a1_] =
 iw V 87 [.rs (1,0) a0_,.str a1_] fun a b=>
 asI .i64 a fun c=>unn b (some ((.bool (decide (c >= 0))),[])):=by
 exact (xu Try.func77 rfl _).trans (by kernel_rfl)
theorem Fu (p o:List D) :V 30 [.op [.rs (5,0) p,.os (1,0) o]] =
 some ((.bool (decide (ni o.length > 400))),[.op [.rs (5,0) p,.os (1,0) o]]):=by
 exact (xu Try.func30 rfl _).trans (by kernel_rfl)
theorem PR (a:ByteArray) (b c:Int) (s:ByteArray):V 47 [.agg [.str a,iN b,iN c],.bp [.str s]] =
 some ((.bool (jH a s)),[]):=by
 exact (xu Try.func47 rfl _).trans (by kernel_rfl)
theorem JS (a0_:Int):V 59 [.int .u8 a0_] =
 br (decide (a0_ >= 48))
 (some ((.bool (decide (a0_ <= 57))),[]))
 (some ((.bool false),[])):=by
 exact (xu Try.func59 rfl _).trans (by kernel_rfl)
theorem FP (p:List D) (v:Int):V 40 [.op [.os (5,0) p],iN v] =
 yZ v [] p:=by
 exact (xu Try.func40 rfl _).trans (by kernel_rfl)

end Go.Eng
/-! the functions as the interpreter has them -/
namespace Go.Eng
open Go.Proofs Go.Proofs.Try
set_option maxRecDepth 100000
theorem Nf (a0_0 a0_1 a0_2 a1_0:List D) (a1_1 a1_2 a1_3 a1_4 a1_5 a1_6 a1_7:Int):V 28 [.agg [.rs (5,0) a0_0,.rs (4,0) a0_1,.rs (3,0) a0_2],.agg [.rs (5,0) a1_0,iN a1_1,iN a1_2,iN a1_3,iN a1_4,iN a1_5,iN a1_6,iN a1_7]] =
 iw V 26 [.agg [.rs (5,0) a1_0,iN a1_1,iN a1_2,iN a1_3,iN a1_4,iN a1_5,iN a1_6,iN a1_7]] fun a b=>
 tk7 a fun c d e f g h i j=>(unn b (grd (decide (0 <= a1_1) && decide (a1_1 < ni a0_1.length)) (cy a0_1 a1_1.toNat fun k=>
 Qy k fun l m n o=>(br (l == 7)
 (
 iw V 50 [.op [.os (5,0) c,iN d,iN e,iN f,iN g,iN h,iN i,iN j,.rs (5,0) a0_0,.rs (4,0) a0_1,.rs (3,0) a0_2],iN n] fun p q=>
 asI .i64 p fun r=>unc q fun s t=>tk6 s fun u v w x y z A B _ _ _=>(unn t (br (r == 0)
 (
 br (decide (ni u.length > 3000))
 (
 iw V 53 [.agg [.rs (5,0) a1_0,iN a1_1,iN a1_2,iN a1_3,iN a1_4,iN a1_5,iN a1_6,iN a1_7],iN (6)] fun C E=>
 tk7 C fun F G H I J K L M=>(unn E (some ((.agg [.os (5,0) F,iN G,iN H,iN I,iN J,iN K,iN L,iN M]),[]))))
 (
 br (r != 0)
 (
 iw V 53 [.agg [.rs (5,0) a1_0,iN a1_1,iN a1_2,iN a1_3,iN a1_4,iN a1_5,iN a1_6,iN a1_7],iN r] fun C E=>
 tk7 C fun F G H I J K L M=>(unn E (some ((.agg [.os (5,0) F,iN G,iN H,iN I,iN J,iN K,iN L,iN M]),[]))))
 (some ((.agg [.os (5,0) u,iN v,iN w,iN x,iN y,iN z,iN A,iN B]),[]))))
 (
 br (r != 0)
 (
 iw V 53 [.agg [.rs (5,0) a1_0,iN a1_1,iN a1_2,iN a1_3,iN a1_4,iN a1_5,iN a1_6,iN a1_7],iN r] fun C E=>
 tk7 C fun F G H I J K L M=>(unn E (some ((.agg [.os (5,0) F,iN G,iN H,iN I,iN J,iN K,iN L,iN M]),[]))))
 (some ((.agg [.os (5,0) u,iN v,iN w,iN x,iN y,iN z,iN A,iN B]),[]))))))
 (
 br (l == 8)
 (
 iw V 51 [.op [.os (5,0) c,iN d,iN e,iN f,iN g,iN h,iN i,iN j,.rs (5,0) a0_0,.rs (4,0) a0_1,.rs (3,0) a0_2]] fun p q=>
 asI .i64 p fun r=>
 unc q fun s t=>tk6 s fun u v w x y z A B _ _ _=>(unn t (br (r == 0)
 (
 br (decide (ni u.length > 3000))
 (
 iw V 53 [.agg [.rs (5,0) a1_0,iN a1_1,iN a1_2,iN a1_3,iN a1_4,iN a1_5,iN a1_6,iN a1_7],iN (6)] fun C E=>
 tk7 C fun F G H I J K L M=>(unn E (some ((.agg [.os (5,0) F,iN G,iN H,iN I,iN J,iN K,iN L,iN M]),[]))))
 (
 br (r != 0)
 (
 iw V 53 [.agg [.rs (5,0) a1_0,iN a1_1,iN a1_2,iN a1_3,iN a1_4,iN a1_5,iN a1_6,iN a1_7],iN r] fun C E=>
 tk7 C fun F G H I J K L M=>(unn E (some ((.agg [.os (5,0) F,iN G,iN H,iN I,iN J,iN K,iN L,iN M]),[]))))
 (some ((.agg [.os (5,0) u,iN v,iN w,iN x,iN y,iN z,iN A,iN B]),[]))))
 (
 br (r != 0)
 (
 iw V 53 [.agg [.rs (5,0) a1_0,iN a1_1,iN a1_2,iN a1_3,iN a1_4,iN a1_5,iN a1_6,iN a1_7],iN r] fun C E=>
 tk7 C fun F G H I J K L M=>(unn E (some ((.agg [.os (5,0) F,iN G,iN H,iN I,iN J,iN K,iN L,iN M]),[]))))
 (some ((.agg [.os (5,0) u,iN v,iN w,iN x,iN y,iN z,iN A,iN B]),[]))))))
 (
 iw V 52 [.op [.os (5,0) c,iN d,iN e,iN f,iN g,iN h,iN i,iN j,.rs (5,0) a0_0,.rs (4,0) a0_1,.rs (3,0) a0_2],.agg [iN l,iN m,iN n,.str o]] fun p q=>
 asI .i64 p fun r=>
 unc q fun s t=>tk6 s fun u v w x y z A B _ _ _=>(unn t (br (r == 0)
 (
 br (decide (ni u.length > 3000))
 (
 iw V 53 [.agg [.rs (5,0) a1_0,iN a1_1,iN a1_2,iN a1_3,iN a1_4,iN a1_5,iN a1_6,iN a1_7],iN (6)] fun C E=>
 tk7 C fun F G H I J K L M=>(unn E (some ((.agg [.os (5,0) F,iN G,iN H,iN I,iN J,iN K,iN L,iN M]),[]))))
 (
 br (r != 0)
 (
 iw V 53 [.agg [.rs (5,0) a1_0,iN a1_1,iN a1_2,iN a1_3,iN a1_4,iN a1_5,iN a1_6,iN a1_7],iN r] fun C E=>
 tk7 C fun F G H I J K L M=>(unn E (some ((.agg [.os (5,0) F,iN G,iN H,iN I,iN J,iN K,iN L,iN M]),[]))))
 (some ((.agg [.os (5,0) u,iN v,iN w,iN x,iN y,iN z,iN A,iN B]),[]))))
 (
 br (r != 0)
 (
 iw V 53 [.agg [.rs (5,0) a1_0,iN a1_1,iN a1_2,iN a1_3,iN a1_4,iN a1_5,iN a1_6,iN a1_7],iN r] fun C E=>
 tk7 C fun F G H I J K L M=>(unn E (some ((.agg [.os (5,0) F,iN G,iN H,iN I,iN J,iN K,iN L,iN M]),[]))))
 (some ((.agg [.os (5,0) u,iN v,iN w,iN x,iN y,iN z,iN A,iN B]),[]))))))))))):=by
 exact (xu Try.func28 rfl _).trans (by kernel_rfl)
theorem Nb (a0_0:List D) (a0_1 a0_2 a0_3 a0_4 a0_5 a0_6 a0_7:Int):V 49 [.agg [.rs (5,0) a0_0,iN a0_1,iN a0_2,iN a0_3,iN a0_4,iN a0_5,iN a0_6,iN a0_7]] =
 br (a0_5 == 1)
 (
 grd (decide (ni 4 <= LIM)) (iw V 66 [.agg [.rs (5,0) a0_0],.rs (1,0) [iN a0_2,iN a0_3,iN a0_4,iN a0_7]] fun a b=>
 asB a fun c=>unn b (br (!c)
 (
 iw V 26 [.agg [.rs (5,0) a0_0,iN a0_1,iN a0_2,iN a0_3,iN a0_4,iN a0_5,iN a0_6,iN a0_7]] fun d e=>
 tk7 d fun f g h i j k l m=>(unn e (some ((.agg [.os (5,0) f,iN g,iN h,iN i,iN j,iN k,iN l,iN m]),[]))))
 (
 iw V 67 [.agg [.rs (5,0) a0_0],.rs (1,0) [iN a0_2,iN a0_3,iN a0_4,iN a0_7]] fun d e=>
 ik d fun f=>unc f fun g h=>asAgg g fun i=>unc i fun j k=>iJ (5,0) j fun l=>unn k (unc h fun m n=>iJ (1,0) m fun o=>unn n (unn e (grd (decide (0 <= 0) && decide (0 < ni o.length)) (cy o 0 fun p=>
 asI .i64 p fun q=>grd (decide (0 <= 1) && decide (1 < ni o.length)) (cy o 1 fun r=>
 asI .i64 r fun s=>grd (decide (0 <= 2) && decide (2 < ni o.length)) (cy o 2 fun t=>
 asI .i64 t fun u=>grd (decide (0 <= 3) && decide (3 < ni o.length)) (cy o 3 fun v=>
 asI .i64 v fun w=>some ((.agg [.os (5,0) l,iN a0_1,iN q,iN s,iN u,iN a0_5,iN a0_6,iN w]),[]))))))))))))
 (
 br (a0_5 == 2)
 (
 grd (decide (ni 4 <= LIM)) (iw V 66 [.agg [.rs (5,0) a0_0],.rs (1,0) [iN a0_2,iN a0_3,iN a0_4,iN a0_7]] fun a b=>
 asB a fun c=>unn b (br (!c)
 (
 iw V 26 [.agg [.rs (5,0) a0_0,iN a0_1,iN a0_2,iN a0_3,iN a0_4,iN a0_5,iN a0_6,iN a0_7]] fun d e=>
 tk7 d fun f g h i j k l m=>(unn e (some ((.agg [.os (5,0) f,iN g,iN h,iN i,iN j,iN k,iN l,iN m]),[]))))
 (
 iw V 67 [.agg [.rs (5,0) a0_0],.rs (1,0) [iN a0_2,iN a0_3,iN a0_4,iN a0_7]] fun d e=>
 ik d fun f=>unc f fun g h=>asAgg g fun i=>unc i fun j k=>iJ (5,0) j fun l=>unn k (unc h fun m n=>iJ (1,0) m fun o=>unn n (unn e (grd (decide (0 <= 0) && decide (0 < ni o.length)) (cy o 0 fun p=>
 asI .i64 p fun q=>grd (decide (0 <= 1) && decide (1 < ni o.length)) (cy o 1 fun r=>
 asI .i64 r fun s=>grd (decide (0 <= 2) && decide (2 < ni o.length)) (cy o 2 fun t=>
 asI .i64 t fun u=>br (a0_5 == 2)
 (
 grd (decide (0 <= 3) && decide (3 < ni o.length)) (cy o 3 fun v=>
 asI .i64 v fun w=>some ((.agg [.os (5,0) l,iN a0_1,iN q,iN s,iN u,iN a0_5,iN a0_6,iN w]),[])))
 (some ((.agg [.os (5,0) l,iN a0_1,iN q,iN s,iN u,iN a0_5,iN a0_6,iN a0_7]),[]))))))))))))
 (
 iw V 66 [.agg [.rs (5,0) a0_0],.rs (1,0) [iN a0_2,iN a0_3,iN a0_4]] fun a b=>
 asB a fun c=>unn b (br (!c)
 (
 iw V 26 [.agg [.rs (5,0) a0_0,iN a0_1,iN a0_2,iN a0_3,iN a0_4,iN a0_5,iN a0_6,iN a0_7]] fun d e=>
 tk7 d fun f g h i j k l m=>(unn e (some ((.agg [.os (5,0) f,iN g,iN h,iN i,iN j,iN k,iN l,iN m]),[]))))
 (
 iw V 67 [.agg [.rs (5,0) a0_0],.rs (1,0) [iN a0_2,iN a0_3,iN a0_4]] fun d e=>
 ik d fun f=>unc f fun g h=>asAgg g fun i=>unc i fun j k=>iJ (5,0) j fun l=>unn k (unc h fun m n=>iJ (1,0) m fun o=>unn n (unn e (grd (decide (0 <= 0) && decide (0 < ni o.length)) (cy o 0 fun p=>
 asI .i64 p fun q=>grd (decide (0 <= 1) && decide (1 < ni o.length)) (cy o 1 fun r=>
 asI .i64 r fun s=>grd (decide (0 <= 2) && decide (2 < ni o.length)) (cy o 2 fun t=>
 asI .i64 t fun u=>br (a0_5 == 2)
 (
 grd (decide (0 <= 3) && decide (3 < ni o.length)) (cy o 3 fun v=>
 asI .i64 v fun w=>some ((.agg [.os (5,0) l,iN a0_1,iN q,iN s,iN u,iN a0_5,iN a0_6,iN w]),[])))
 (some ((.agg [.os (5,0) l,iN a0_1,iN q,iN s,iN u,iN a0_5,iN a0_6,iN a0_7]),[])))))))))))):=by
 exact (xu Try.func49 rfl _).trans (by kernel_rfl)
theorem zW (p0:List D) (p1 p2:Int) (p3 p4 p5:List D):xP p0 p1 p2 p3 p4 p5 =
 br (decide (p2 < p1))
 (
 grd (decide (0 <= p2) && decide (p2 < ni p0.length)) (cy p0 p2.toNat fun a=>
 tk1 a fun b c d e f=>(grd (decide (0 <= p2) && decide (p2 < ni p3.length)) (cy p3 p2.toNat fun _=>
 nam (List.set p3 p2.toNat (iN (-1))) fun g=>
 grd (decide (0 <= p2) && decide (p2 < ni p4.length)) (cy p4 p2.toNat fun h=>
 asB h fun i=>br (!i)
 (xP p0 p1 (w6 (p2 + 1)) g p4 p5)
 (
 br (b == 5)
 (
 grd (decide (0 <= e) && decide (e < ni g.length)) (cy g e.toNat fun j=>
 asI .i64 j fun k=>grd (decide (0 <= f) && decide (f < ni g.length)) (cy g f.toNat fun l=>
 asI .i64 l fun m=>iw V 37 [.op [.os (5,0) p5],.agg [iN b,iN c,.str d,iN k,iN m]] fun n o=>
 asI .i64 n fun p=>unc o fun q r=>mE q fun s=>unc s fun t u=>iJ (5,0) t fun v=>unn u (unn r (grd (decide (0 <= p2) && decide (p2 < ni g.length)) (cy g p2.toNat fun _=>
 nam (List.set g p2.toNat (iN p)) fun w=>
 xP p0 p1 (w6 (p2 + 1)) w p4 v))))))
 (
 br (b == 6)
 (
 br (b == 6)
 (
 grd (decide (0 <= e) && decide (e < ni g.length)) (cy g e.toNat fun j=>
 asI .i64 j fun k=>iw V 37 [.op [.os (5,0) p5],.agg [iN b,iN c,.str d,iN k,iN f]] fun l m=>
 asI .i64 l fun n=>unc m fun o p=>mE o fun q=>unc q fun r s=>iJ (5,0) r fun t=>unn s (unn p (grd (decide (0 <= p2) && decide (p2 < ni g.length)) (cy g p2.toNat fun _=>
 nam (List.set g p2.toNat (iN n)) fun u=>
 xP p0 p1 (w6 (p2 + 1)) u p4 t)))))
 (
 iw V 37 [.op [.os (5,0) p5],.agg [iN b,iN c,.str d,iN e,iN f]] fun j k=>
 asI .i64 j fun l=>unc k fun m n=>mE m fun o=>unc o fun p q=>iJ (5,0) p fun r=>unn q (unn n (grd (decide (0 <= p2) && decide (p2 < ni g.length)) (cy g p2.toNat fun _=>
 nam (List.set g p2.toNat (iN l)) fun s=>
 xP p0 p1 (w6 (p2 + 1)) s p4 r)))))
 (
 br (b == 7)
 (
 grd (decide (0 <= e) && decide (e < ni g.length)) (cy g e.toNat fun j=>
 asI .i64 j fun k=>iw V 37 [.op [.os (5,0) p5],.agg [iN b,iN c,.str d,iN k,iN f]] fun l m=>
 asI .i64 l fun n=>unc m fun o p=>mE o fun q=>unc q fun r s=>iJ (5,0) r fun t=>unn s (unn p (grd (decide (0 <= p2) && decide (p2 < ni g.length)) (cy g p2.toNat fun _=>
 nam (List.set g p2.toNat (iN n)) fun u=>
 xP p0 p1 (w6 (p2 + 1)) u p4 t)))))
 (
 iw V 37 [.op [.os (5,0) p5],.agg [iN b,iN c,.str d,iN e,iN f]] fun j k=>
 asI .i64 j fun l=>unc k fun m n=>mE m fun o=>unc o fun p q=>iJ (5,0) p fun r=>unn q (unn n (grd (decide (0 <= p2) && decide (p2 < ni g.length)) (cy g p2.toNat fun _=>
 nam (List.set g p2.toNat (iN l)) fun s=>
 xP p0 p1 (w6 (p2 + 1)) s p4 r))))))))))))
 (some ((.os (1,0) p3),[.op [.os (5,0) p5]])):=by
 exact (xt _ _ _).trans (by kernel_rfl)
theorem KX (a0_0 a0_1:Int) (a0_2:ByteArray) (a0_3 a0_4 a1_:Int):V 31 [.agg [iN a0_0,iN a0_1,.str a0_2,iN a0_3,iN a0_4],iN a1_] =
 br (a0_0 == 1)
 (
 iw V 39 [iN a0_1,iN (0),iN (0)] fun a b=>
 asB a fun c=>unn b (br c
 (
 br (jH a0_2 { data:=#[] })
 (
 br (a0_3 == 0)
 (some ((.bool (a0_4 == 0)),[]))
 (some ((.bool false),[])))
 (some ((.bool false),[])))
 (some ((.bool false),[]))))
 (
 br (a0_0 == 2)
 (
 iw V 39 [iN a0_1,iN (0),iN (1)] fun a b=>
 asB a fun c=>unn b (br c
 (
 br (jH a0_2 { data:=#[] })
 (
 br (a0_3 == 0)
 (some ((.bool (a0_4 == 0)),[]))
 (some ((.bool false),[])))
 (some ((.bool false),[])))
 (some ((.bool false),[]))))
 (
 br (a0_0 == 3)
 (
 iw V 39 [iN a0_1,iN (-1000000000),iN (1000000000)] fun a b=>
 asB a fun c=>unn b (br c
 (
 br (jH a0_2 { data:=#[] })
 (
 br (a0_3 == 0)
 (some ((.bool (a0_4 == 0)),[]))
 (some ((.bool false),[])))
 (some ((.bool false),[])))
 (some ((.bool false),[]))))
 (
 br (a0_0 == 4)
 (
 iw V 45 [.str a0_2] fun a b=>
 asB a fun c=>unn b (iw V 39 [iN a0_1,iN (0),iN (0)] fun d e=>
 asB d fun f=>unn e (br f
 (
 br c
 (
 br (a0_3 == 0)
 (some ((.bool (a0_4 == 0)),[]))
 (some ((.bool false),[])))
 (some ((.bool false),[])))
 (some ((.bool false),[])))))
 (
 br (a0_0 == 5)
 (
 iw V 39 [iN a0_3,iN (0),(iN (w6 (a1_ - 1)))] fun a b=>
 asB a fun c=>unn b (iw V 39 [iN a0_4,iN (0),(iN (w6 (a1_ - 1)))] fun d e=>
 asB d fun f=>unn e (iw V 39 [iN a0_1,iN (0),iN (0)] fun g h=>
 asB g fun i=>unn h (br i
 (
 br (jH a0_2 { data:=#[] })
 (
 br c
 (some ((.bool f),[]))
 (some ((.bool false),[])))
 (some ((.bool false),[])))
 (some ((.bool false),[]))))))
 (
 br (a0_0 == 6)
 (
 iw V 39 [iN a0_3,iN (0),(iN (w6 (a1_ - 1)))] fun a b=>
 asB a fun c=>unn b (iw V 39 [iN a0_1,iN (0),iN (1000000000)] fun d e=>
 asB d fun f=>unn e (br f
 (
 br (jH a0_2 { data:=#[] })
 (
 br c
 (some ((.bool (a0_4 == 0)),[]))
 (some ((.bool false),[])))
 (some ((.bool false),[])))
 (some ((.bool false),[])))))
 (
 br (a0_0 == 7)
 (
 iw V 39 [iN a0_3,iN (0),(iN (w6 (a1_ - 1)))] fun a b=>
 asB a fun c=>unn b (iw V 39 [iN a0_1,iN (0),iN (0)] fun d e=>
 asB d fun f=>unn e (br f
 (
 br (jH a0_2 { data:=#[] })
 (
 br c
 (some ((.bool (a0_4 == 0)),[]))
 (some ((.bool false),[])))
 (some ((.bool false),[])))
 (some ((.bool false),[])))))
 (
 br (a0_0 == 8)
 (
 iw V 39 [iN a0_1,iN (0),iN (99)] fun a b=>
 asB a fun c=>unn b (br c
 (
 br (jH a0_2 { data:=#[] })
 (
 br (a0_3 == 0)
 (some ((.bool (a0_4 == 0)),[]))
 (some ((.bool false),[])))
 (some ((.bool false),[])))
 (some ((.bool false),[]))))
 (
 br (a0_0 == 9)
 (
 iw V 39 [iN a0_1,iN (0),iN (1000000000)] fun a b=>
 asB a fun c=>unn b (br c
 (
 br (jH a0_2 { data:=#[] })
 (
 br (a0_3 == 0)
 (some ((.bool (a0_4 == 0)),[]))
 (some ((.bool false),[])))
 (some ((.bool false),[])))
 (some ((.bool false),[]))))
 (some ((.bool false),[])))))))))):=by
 exact (xu Try.func31 rfl _).trans (by kernel_rfl)
theorem zQ (p0:ByteArray) (p1 p2:Int) (p3 p4 p5:List D):yu p0 p1 p2 p3 p4 p5 =
 br (decide (p2 < ni (ByteArray.size p0)))
 (
 grd (decide (0 <= p2) && decide (p2 < ni (ByteArray.size p0))) (iw V 34 [.int .u8 (bt p0 p2)] fun a b=>
 asB a fun c=>unn b (br c
 (yu p0 p1 (w6 (p2 + 1)) p3 p4 p5)
 (
 grd (cE (ByteArray.size p0) (some p1) (some p2)) (iw V 35 [(.str (ByteArray.extract p0 p1.toNat p2.toNat))] fun d e=>
 ik d fun f=>unc f fun g h=>tk1 g fun i j k l m=>(unc h fun n o=>asB n fun p=>unn o (unn e (br (!p)
 (some ((.tup [iN (3),iN p1]),[.op [.os (5,0) p3,.os (1,2) p4,.os (1,0) p5]]))
 (
 iw V 37 [.op [.os (5,0) p3],.agg [iN i,iN j,.str k,iN l,iN m]] fun q r=>
 asI .i64 q fun s=>unc r fun t u=>mE t fun v=>unc v fun w x=>iJ (5,0) w fun y=>unn x (unn u (iw V 36 [.op [.os (5,0) y,.os (1,2) p4,.os (1,0) p5],iN s] fun z A=>
 ik z fun B=>unn B (unc A fun C E=>JD C fun F G H=>(unn E (xI p0 p2 F G H))))))))))))))
 (
 grd (cE (ByteArray.size p0) (some p1) (some p2)) (iw V 35 [(.str (ByteArray.extract p0 p1.toNat p2.toNat))] fun a b=>
 ik a fun c=>unc c fun d e=>tk1 d fun f g h i j=>(unc e fun k l=>asB k fun m=>unn l (unn b (br (!m)
 (some ((.tup [iN (3),iN p1]),[.op [.os (5,0) p3,.os (1,2) p4,.os (1,0) p5]]))
 (
 iw V 37 [.op [.os (5,0) p3],.agg [iN f,iN g,.str h,iN i,iN j]] fun n o=>
 asI .i64 n fun p=>unc o fun q r=>mE q fun s=>unc s fun t u=>iJ (5,0) t fun v=>unn u (unn r (iw V 36 [.op [.os (5,0) v,.os (1,2) p4,.os (1,0) p5],iN p] fun w x=>
 ik w fun y=>unn y (unc x fun z A=>JD z fun B C E=>(unn A (xI p0 p2 B C E))))))))))):=by
 exact (xt _ _ _).trans (by kernel_rfl)
theorem M8 (a0_0:List D) (a1_:ByteArray):V 8 [.agg [.rs (5,0) a0_0],.str a1_] =
 iw V 15 [.agg [.rs (5,0) a0_0]] fun a b=>
 asB a fun c=>unn b (br (!c)
 (some ((.tup [.agg [.os (5,0) []],.os (1,0) [],iN (6),iN (0)]),[]))
 (
 br (decide (ni (ByteArray.size a1_) > 400))
 (
 iw V 16 [.agg [.rs (5,0) a0_0]] fun d e=>
 asAgg d fun f=>unc f fun g h=>iJ (5,0) g fun i=>unn h (unn e (some ((.tup [.agg [.os (5,0) i],.os (1,0) [],iN (1),iN (0)]),[]))))
 (
 iw V 16 [.agg [.rs (5,0) a0_0]] fun d e=>
 asAgg d fun f=>unc f fun g h=>iJ (5,0) g fun i=>unn h (unn e (iw V 17 [(.op [.os (5,0) i,(.os (1,2) [.os (1,0) []]),.os (1,0) []]),.str a1_] fun j k=>
 Pz j fun l m=>(unc k fun n o=>JD n fun p q _=>(unn o (br (l == 0)
 (
 iw V 15 [.agg [.rs (5,0) p]] fun r s=>
 asB r fun t=>unn s (br (!t)
 (
 iw V 16 [.agg [.rs (5,0) a0_0]] fun u v=>
 asAgg u fun w=>unc w fun x y=>iJ (5,0) x fun z=>unn y (unn v (some ((.tup [.agg [.os (5,0) z],.os (1,0) [],iN (6),iN (0)]),[]))))
 (
 br (l != 0)
 (
 iw V 16 [.agg [.rs (5,0) a0_0]] fun u v=>
 asAgg u fun w=>unc w fun x y=>iJ (5,0) x fun z=>unn y (unn v (some ((.tup [.agg [.os (5,0) z],.os (1,0) [],iN l,iN m]),[]))))
 (
 grd (decide (0 <= 0) && decide (0 < ni q.length)) (cy q 0 fun u=>
 iJ (1,0) u fun v=>some ((.tup [.agg [.os (5,0) p],.os (1,0) v,iN (0),iN m]),[]))))))
 (
 br (l != 0)
 (
 iw V 16 [.agg [.rs (5,0) a0_0]] fun r s=>
 asAgg r fun t=>unc t fun u v=>iJ (5,0) u fun w=>unn v (unn s (some ((.tup [.agg [.os (5,0) w],.os (1,0) [],iN l,iN m]),[]))))
 (
 grd (decide (0 <= 0) && decide (0 < ni q.length)) (cy q 0 fun r=>
 iJ (1,0) r fun s=>some ((.tup [.agg [.os (5,0) p],.os (1,0) s,iN (0),iN m]),[])))))))))))):=by
 exact (xu Try.func8 rfl _).trans (by kernel_rfl)
theorem zg (p0 p1:List D) (p2 p3 p4:Int) (p5 p6 p7:List D):yz p0 p1 p2 p3 p4 p5 p6 p7 =
 br (decide (p3 < p2))
 (
 grd (decide (0 <= p3) && decide (p3 < ni p1.length)) (cy p1 p3.toNat fun a=>
 asI .i64 a fun b=>iw V 21 [.op [.os (5,0) p5,.os (4,0) p6,.os (3,0) p7,iN p4],iN b] fun c d=>
 ik c fun e=>unn e (unc d fun f g=>tk2 f fun h i j k=>(unn g (br (k == 1)
 (
 br (k == 1)
 (some ((.tup [.agg [.os (5,0) [],.os (4,0) [],.os (3,0) []],iN k,iN p3]),[]))
 (
 br (k == 3)
 (some ((.tup [.agg [.os (5,0) [],.os (4,0) [],.os (3,0) []],iN (3),iN (0)]),[]))
 (yz p0 p1 p2 (w6 (p3 + 1)) k h i j)))
 (
 br (k == 2)
 (some ((.tup [.agg [.os (5,0) [],.os (4,0) [],.os (3,0) []],iN k,iN p3]),[]))
 (
 br (k == 3)
 (some ((.tup [.agg [.os (5,0) [],.os (4,0) [],.os (3,0) []],iN (3),iN (0)]),[]))
 (yz p0 p1 p2 (w6 (p3 + 1)) k h i j))))))))
 (
 iw V 22 [.agg [.rs (5,0) p5,.rs (4,0) p6,.rs (3,0) p7]] fun a b=>
 asB a fun c=>unn b (br (!c)
 (some ((.tup [.agg [.os (5,0) [],.os (4,0) [],.os (3,0) []],iN (3),iN (0)]),[]))
 (some ((.tup [.agg [.os (5,0) p5,.os (4,0) p6,.os (3,0) p7],iN (0),(iN (ni p0.length))]),[])))):=by
 exact (xt _ _ _).trans (by kernel_rfl)
theorem zu (p0 p1:List D) (p2 p3 p4:Int) (p5 p6 p7:List D):yn p0 p1 p2 p3 p4 p5 p6 p7 =
 br (decide (p3 < p2))
 (
 grd (decide (0 <= p3) && decide (p3 < ni p1.length)) (cy p1 p3.toNat fun a=>
 asI .i64 a fun b=>br (decide (p3 > 0))
 (
 iw V 65 [.op [.os (5,0) p5,.os (4,0) p6,.os (3,0) p7,iN p4],(.agg [iN (9),iN (0),iN (0),.str ({ data:=#[] })])] fun c d=>
 asI .i64 c fun _=>unc d fun e f=>tk2 e fun g h i j=>(unn f (iw V 78 [.op [.os (5,0) g,.os (4,0) h,.os (3,0) i,iN j],iN b,.rs (1,1) p0] fun k l=>
 ik k fun m=>unn m (unc l fun n o=>tk2 n fun p q r s=>(unn o (yn p0 p1 p2 (w6 (p3 + 1)) s p q r))))))
 (
 iw V 78 [.op [.os (5,0) p5,.os (4,0) p6,.os (3,0) p7,iN p4],iN b,.rs (1,1) p0] fun c d=>
 ik c fun e=>unn e (unc d fun f g=>tk2 f fun h i j k=>(unn g (yn p0 p1 p2 (w6 (p3 + 1)) k h i j))))))
 (some ((.tup []),[.op [.os (5,0) p5,.os (4,0) p6,.os (3,0) p7,iN p4]])):=by
 exact (xt _ _ _).trans (by kernel_rfl)
theorem zp (p0:List D) (p1 p2 p3:Int) (p4 p5 p6 p7:List D):xM p0 p1 p2 p3 p4 p5 p6 p7 =
 br (decide (p2 < p1))
 (
 grd (decide (0 <= p2) && decide (p2 < ni p4.length)) (cy p4 p2.toNat fun a=>
 asI .i64 a fun b=>iw V 78 [.op [.os (5,0) p5,.os (4,0) p6,.os (3,0) p7,iN p3],iN b,.rs (1,1) p0] fun c d=>
 ik c fun e=>unn e (unc d fun f g=>tk2 f fun h i j k=>(unn g (xM p0 p1 (w6 (p2 + 1)) k p4 h i j)))))
 (
 iw V 65 [.op [.os (5,0) p5,.os (4,0) p6,.os (3,0) p7,iN p3],(.agg [iN (7),iN (0),(iN (w6 (ni p4.length - 1))),.str ({ data:=#[] })])] fun a b=>
 asI .i64 a fun _=>unc b fun c d=>tk2 c fun e f g h=>(unn d (some ((.tup []),[.op [.os (5,0) e,.os (4,0) f,.os (3,0) g,iN h]])))):=by
 exact (xt _ _ _).trans (by kernel_rfl)
theorem AY (p0:List D) (p1 p2:Int) (p3 p4 p5:List D):zG p0 p1 p2 p3 p4 p5 =
 br (decide (p2 < p1))
 (
 grd (decide (0 <= p2) && decide (p2 < ni p0.length)) (cy p0 p2.toNat fun a=>
 PA a fun b c d=>(iw V 45 [.str b] fun e f=>
 asB e fun g=>unn f (br (!g)
 (some ((.bool false),[]))
 (
 iw V 23 [.agg [.rs (5,0) p3,.rs (4,0) p4,.rs (3,0) p5],.str b] fun h i=>
 asI .i64 h fun j=>unn i (br (j != p2)
 (some ((.bool false),[]))
 (
 iw V 39 [iN c,iN (0),(iN (w6 (ni p4.length - 1)))] fun k l=>
 asB k fun m=>unn l (br (!m)
 (some ((.bool false),[]))
 (
 iw V 39 [iN d,iN (0),iN (4)] fun n o=>
 asB n fun p=>unn o (br (!p)
 (some ((.bool false),[]))
 (zG p0 p1 (w6 (p2 + 1)) p3 p4 p5)))))))))))
 (some ((.bool true),[])):=by
 exact (xt _ _ _).trans (by kernel_rfl)
theorem M9 (a0_0:List D) (a1_ a2_:Int):V 100 [.agg [.rs (5,0) a0_0],iN a1_,iN a2_] =
 iw V 15 [.agg [.rs (5,0) a0_0]] fun a b=>
 asB a fun c=>unn b (br (!c)
 (some ((.bool false),[]))
 (
 iw V 20 [.agg [.rs (5,0) a0_0],iN a1_] fun d e=>
 asB d fun f=>unn e (br (!f)
 (some ((.bool false),[]))
 (
 iw V 20 [.agg [.rs (5,0) a0_0],iN a2_] fun g h=>
 asB g fun i=>unn h (br (!i)
 (some ((.bool false),[]))
 (
 iw V 102 [.agg [.rs (5,0) a0_0]] fun j k=>
 iJ (1,0) j fun l=>unn k (grd (decide (0 <= a1_) && decide (a1_ < ni l.length)) (cy l a1_.toNat fun m=>
 asI .i64 m fun n=>grd (decide (0 <= a2_) && decide (a2_ < ni l.length)) (cy l a2_.toNat fun o=>
 asI .i64 o fun p=>some ((.bool (n == p)),[])))))))))):=by
 exact (xu Try.func100 rfl _).trans (by kernel_rfl)
theorem zi (p0 p1:Int) (p2:List D) (p3:Int) (p4 p5 p6:List D):yA p0 p1 p2 p3 p4 p5 p6 =
 br (decide (p1 < p0))
 (
 grd (decide (0 <= p1) && decide (p1 < ni p2.length)) (cy p2 p1.toNat fun a=>
 asS a fun b=>grd (cE p2.length none (some p1)) (iw V 77 [(.rs (1,0) (part p2 (some (0,Int.toNat p1)))),.str b] fun c d=>
 asB c fun e=>unn d (br e
 (some ((.tup [.os (1,0) [],iN (2)]),[.op [.os (5,0) p4,.os (4,0) p5,.os (3,0) p6,iN p3]]))
 (yA p0 (w6 (p1 + 1)) p2 p3 p4 p5 p6)))))
 (some ((.tup [.os (1,0) p2,iN (0)]),[.op [.os (5,0) p4,.os (4,0) p5,.os (3,0) p6,iN p3]])):=by
 exact (xt _ _ _).trans (by kernel_rfl)
theorem FW (p:List D) (m1 m2 m3 m4 m5 m6 m7:Int) (cp cl cd:List D) (v:Int):V 71 [.op [.os (5,0) p,iN m1,iN m2,iN m3,iN m4,iN m5,iN m6,iN m7,.rs (5,0) cp,.rs (4,0) cl,.rs (3,0) cd],iN v] =
 iw V 75 [.op [.os (5,0) p],iN v,iN m2] fun a b=>
 asI .i64 a fun c=>unc b fun d e=>mE d fun f=>unc f fun g h=>iJ (5,0) g fun i=>unn h (unn e (some ((.tup []),[.op [.os (5,0) i,iN m1,iN c,iN m3,iN m4,iN m5,iN m6,iN m7,.rs (5,0) cp,.rs (4,0) cl,.rs (3,0) cd]]))):=by
 exact (xu Try.func71 rfl _).trans (by kernel_rfl)
theorem Eu (p l d:List D) (h x:Int):V 97 [.op [.os (5,0) p,.os (4,0) l,.os (3,0) d,iN h],iN x] =
 br (h == 0)
 (
 grd (decide (0 <= x) && decide (x < ni l.length)) (cy l x.toNat fun a=>
 asAgg a fun b=>nam (List.set l x.toNat (D.agg (List.take 1 b++[iN (ni l.length)]++List.drop 2 b))) fun c=>
 some ((.tup []),[.op [.os (5,0) p,.os (4,0) c,.os (3,0) d,iN h]])))
 (some ((.tup []),[.op [.os (5,0) p,.os (4,0) l,.os (3,0) d,iN h]])):=by
 exact (xu Try.func97 rfl _).trans (by kernel_rfl)
theorem Ch (p0:List D) (p1 p2:Int) (p3 p4:List D):zw p0 p1 p2 p3 p4 =
 br (decide (p2 < p1))
 (
 grd (decide (0 <= p2) && decide (p2 < ni p0.length)) (cy p0 p2.toNat fun a=>
 asI .i64 a fun b=>grd (decide (0 <= b) && decide (b < ni p4.length)) (cy p4 b.toNat fun _=>
 nam (List.set p4 b.toNat (D.bool true)) fun c=>
 zw p0 p1 (w6 (p2 + 1)) p3 c)))
 (yr (w6 (ni p3.length - 1)) p3 p4):=by
 exact (xt _ _ _).trans (by kernel_rfl)
theorem PT (a0_:List D) (a1_:Int):V 12 [.rs (1,0) a0_,iN a1_] =
 br (decide (a1_ < ni a0_.length))
 (
 grd (decide (0 <= a1_) && decide (a1_ < ni a0_.length)) (cy a0_ a1_.toNat fun a=>
 asI .u8 a fun b=>some ((iN (w6 b)),[])))
 (grd (!decide (256 = 0)) (some ((iN (Int.tmod (w6 (w6 (a1_ * 7) + ni a0_.length)) (256))),[]))):=by
 exact (xu Try.func12 rfl _).trans (by kernel_rfl)
theorem Bw (p0 p1:Int) (p2 p3 p4:List D):zT p0 p1 p2 p3 p4 =
 br (decide (p1 < p0))
 (
 iw V 44 [.agg [.rs (5,0) p2,.rs (4,0) p3,.rs (3,0) p4],iN p1] fun a b=>
 asB a fun c=>unn b (br (!c)
 (some ((.bool false),[]))
 (zT p0 (w6 (p1 + 1)) p2 p3 p4)))
 (zG p4 (ni p4.length) (0) p2 p3 p4):=by
 exact (xt _ _ _).trans (by kernel_rfl)
theorem Nc (a0_0 a1_:List D):V 67 [.agg [.rs (5,0) a0_0],.rs (1,0) a1_] =
 iw V 80 [.op [.os (5,0) []],(.agg [.rs (5,0) a0_0]),.rs (1,0) a1_] fun a b=>
 iJ (1,0) a fun c=>unc b fun d e=>mE d fun f=>unc f fun g h=>iJ (5,0) g fun i=>unn h (unn e (AL a1_ (ni a1_.length) (0) c [] i)):=by
 exact (xu Try.func67 rfl _).trans (by kernel_rfl)
theorem KW (a0_0:List D) (a1_:Int):V 20 [.agg [.rs (5,0) a0_0],iN a1_] =
 iw V 39 [iN a1_,iN (0),(iN (w6 (ni a0_0.length - 1)))] fun a b=>
 asB a fun c=>unn b (some ((.bool c),[])):=by
 exact (xu Try.func20 rfl _).trans (by kernel_rfl)
theorem Ek (p l d:List D) (h:Int) (x e:List D):V 64 [.op [.os (5,0) p,.os (4,0) l,.os (3,0) d,iN h],.rs (1,0) x,.rs (1,1) e] =
 yn e x (ni x.length) (0) h p l d:=by
 exact (xu Try.func64 rfl _).trans (by kernel_rfl)
theorem AM (a0_:List D):V 98 [.rs (1,1) a0_] =
 uE a0_
 (some ((.os (1,1) []),[]))
 (
 grd (decide (ni (List.length ([]++a0_)) <= LIM)) (nam ([]++a0_) fun a=>
 some ((.os (1,1) a),[]))):=by
 exact (xu Try.func98 rfl _).trans (by kernel_rfl)
theorem Fp (p o t:List D) (s:ByteArray):V 17 [.op [.os (5,0) p,.os (1,2) o,.os (1,0) t],.str s] =
 xI s (0) p o t:=by
 exact (xu Try.func17 rfl _).trans (by kernel_rfl)
theorem zd (a0_:List D) (a1_:ByteArray):V 87 [.rs (1,0) a0_,.str a1_] =
 yf a0_ a1_ (ni a0_.length) (0):=by
 exact (xu Try.func87 rfl _).trans (by kernel_rfl)
theorem Fi (l p:List D):V 38 [.rs (1,0) l,.fn 19 [.bp [.rs (5,0) p]]] =
 yO l p (ni l.length) (0):=by
 exact (xu Try.func38 rfl _).trans (by kernel_rfl)
theorem KR (a0_0:List D):V 15 [.agg [.rs (5,0) a0_0]] =
 zU a0_0 (ni a0_0.length) (0) a0_0:=by
 exact (xu Try.func15 rfl _).trans (by kernel_rfl)

end Go.Eng
