/- the program and the reference on plain data, part 1 -/
import Derived.Test.YtnnedacillllmaaEngC
import Derived.Test.YtnnedacillllmaaProg
import Derived.Shelf.Spec.SlicesInsertGrow
/-! the functions as the interpreter has them: loop heads -/
namespace Go.Eng
open Go.Proofs Go.Proofs.Try
set_option maxRecDepth 100000
noncomputable def cf0 : Cfg := { ext := fun f => match f with | 32 => some insP | _ => none, own := fun f => match f with | 14 => false | 35 => false | _ => true, mode := fun f i => match f, i with | 24, 0 => .mut | 25, 0 => .mut | 48, 0 => .mut | 60, 0 => .mut | 32, 0 => .mv | 32, 2 => .mv | _, _ => .ro }
noncomputable abbrev V := Vn Try.prog cf0
noncomputable abbrev R := Rn Try.prog cf0
noncomputable def Llaws_FnWay_10 (p0 : List D) (p1 : Int) (p2 : Int) (p3 : Int) (p4 : Int) (p5 : List D) (p6 : List D) (p7 : List D) : Option Ret := R 3 Try.f3 [] (headAt Try.f3 10) ⟨[.d (.rs (1, 0) p0), .undef, .undef, .ref 0 0 0, .undef, .undef, .asl 1 none, .asl 2 none, .asl 3 none, .d (.int .i64 p1), .undef, .undef, .undef, .undef, .undef, .undef, .undef, .undef, .undef, .undef, .undef, .undef, .undef, .undef, .undef, .undef, .undef, .undef, .undef, .undef, .undef, .undef, .undef, .undef, .undef, .undef, .undef, .undef, .undef, .undef, .undef, .undef, .undef, .undef, .undef, .undef, .undef, .undef, .undef, .undef, .undef, .undef, .undef, .undef, .undef, .undef, .undef, .undef, .undef, .undef, .undef, .undef, .undef, .undef, .undef, .undef, .undef, .undef, .undef, .undef, .undef, .undef, .undef, .undef, .undef, .undef, .undef, .undef, .undef, .undef, .undef, .undef, .undef, .undef, .undef, .undef, .undef, .undef, .undef, .undef, .undef, .undef, .undef, .undef, .undef, .undef, .undef, .undef, .undef, .undef, .undef, .undef, .undef, .undef, .undef, .undef, .undef, .undef, .undef, .undef, .undef, .undef, .undef, .undef, .undef, .undef, .undef, .undef, .undef, .undef, .undef, .undef, .undef, .undef, .undef, .undef, .undef, .undef, .undef, .undef, .undef, .undef, .undef, .undef, .undef, .undef, .undef, .undef, .undef, .undef, .undef, .undef, .undef, .undef, .undef, .undef, .undef, .undef, .undef, .undef, .undef, .undef, .undef, .undef, .undef, .undef, .undef, .undef, .undef, .undef, .undef, .undef, .undef, .undef, .undef, .undef, .undef, .undef, .undef], [(0, some (.var [.d (.int .i64 p2), .d (.int .i64 p3), .d .nl, .d (.int .i64 p4), .d .nl])), (1, some (.arr (1, 0) p5)), (2, some (.arr (1, 0) p6)), (3, some (.arr (2, 0) p7))], 4, []⟩
noncomputable def Llaws_FnWay_10v1 (p0 : List D) (p1 : Int) (p2 : Int) (p3 : Int) (p4 : Int) (p5 : List D) (p6 : List D) (p7 : List D) (p8 : List D) (p9 : List D) : Option Ret := R 3 Try.f3 [] (headAt Try.f3 10) ⟨[.d (.rs (1, 0) p0), .undef, .undef, .ref 0 0 0, .undef, .undef, .asl 1 none, .asl 2 none, .asl 3 none, .d (.int .i64 p1), .undef, .undef, .undef, .undef, .undef, .undef, .undef, .undef, .undef, .undef, .undef, .undef, .undef, .undef, .undef, .undef, .undef, .undef, .undef, .undef, .undef, .undef, .undef, .undef, .undef, .undef, .undef, .undef, .undef, .undef, .undef, .undef, .undef, .undef, .undef, .undef, .undef, .undef, .undef, .undef, .undef, .undef, .undef, .undef, .undef, .undef, .undef, .undef, .undef, .undef, .undef, .undef, .undef, .undef, .undef, .undef, .undef, .undef, .undef, .undef, .undef, .undef, .undef, .undef, .undef, .undef, .undef, .undef, .undef, .undef, .undef, .undef, .undef, .undef, .undef, .undef, .undef, .undef, .undef, .undef, .undef, .undef, .undef, .undef, .undef, .undef, .undef, .undef, .undef, .undef, .undef, .undef, .undef, .undef, .undef, .undef, .undef, .undef, .undef, .undef, .undef, .undef, .undef, .undef, .undef, .undef, .undef, .undef, .undef, .undef, .undef, .undef, .undef, .undef, .undef, .undef, .undef, .undef, .undef, .undef, .undef, .undef, .undef, .undef, .undef, .undef, .undef, .undef, .undef, .undef, .undef, .undef, .undef, .undef, .undef, .undef, .undef, .undef, .undef, .undef, .undef, .undef, .undef, .undef, .undef, .undef, .undef, .undef, .undef, .undef, .undef, .undef, .undef, .undef, .undef, .undef, .undef, .undef, .undef], [(0, some (.var [.d (.int .i64 p2), .d (.int .i64 p3), .asl 4 none, .d (.int .i64 p4), .asl 5 none])), (1, some (.arr (1, 0) p5)), (2, some (.arr (1, 0) p6)), (3, some (.arr (2, 0) p7)), (4, some (.arr (1, 0) p8)), (5, some (.arr (2, 0) p9))], 6, []⟩
noncomputable def Llaws_FnWay_10v2 (p0 : List D) (p1 : Nat) (p2 : Nat) (p3 : Int) (p4 : Int) (p5 : Int) (p6 : Int) (p7 : List D) (p8 : List D) (p9 : List D) (p10 : List D) (p11 : List D) : Option Ret := R 3 Try.f3 [] (headAt Try.f3 10) ⟨[.d (.rs (1, 0) p0), .undef, .undef, .ref 0 0 0, .undef, .undef, .asl 1 none, .asl 2 none, .asl 3 (some (p1, p2)), .d (.int .i64 p3), .undef, .undef, .undef, .undef, .undef, .undef, .undef, .undef, .undef, .undef, .undef, .undef, .undef, .undef, .undef, .undef, .undef, .undef, .undef, .undef, .undef, .undef, .undef, .undef, .undef, .undef, .undef, .undef, .undef, .undef, .undef, .undef, .undef, .undef, .undef, .undef, .undef, .undef, .undef, .undef, .undef, .undef, .undef, .undef, .undef, .undef, .undef, .undef, .undef, .undef, .undef, .undef, .undef, .undef, .undef, .undef, .undef, .undef, .undef, .undef, .undef, .undef, .undef, .undef, .undef, .undef, .undef, .undef, .undef, .undef, .undef, .undef, .undef, .undef, .undef, .undef, .undef, .undef, .undef, .undef, .undef, .undef, .undef, .undef, .undef, .undef, .undef, .undef, .undef, .undef, .undef, .undef, .undef, .undef, .undef, .undef, .undef, .undef, .undef, .undef, .undef, .undef, .undef, .undef, .undef, .undef, .undef, .undef, .undef, .undef, .undef, .undef, .undef, .undef, .undef, .undef, .undef, .undef, .undef, .undef, .undef, .undef, .undef, .undef, .undef, .undef, .undef, .undef, .undef, .undef, .undef, .undef, .undef, .undef, .undef, .undef, .undef, .undef, .undef, .undef, .undef, .undef, .undef, .undef, .undef, .undef, .undef, .undef, .undef, .undef, .undef, .undef, .undef, .undef, .undef, .undef, .undef, .undef, .undef], [(0, some (.var [.d (.int .i64 p4), .d (.int .i64 p5), .asl 4 none, .d (.int .i64 p6), .asl 5 none])), (1, some (.arr (1, 0) p7)), (2, some (.arr (1, 0) p8)), (3, some (.arr (2, 0) p9)), (4, some (.arr (1, 0) p10)), (5, some (.arr (2, 0) p11))], 6, []⟩
noncomputable def Llaws_FnWay_31 (p0 : Int) (p1 : Int) (p2 : Int) (p3 : Int) (p4 : List D) (p5 : List D) : Option Ret := R 3 Try.f3 [] (headAt Try.f3 31) ⟨[.undef, .undef, .undef, .ref 0 0 0, .undef, .undef, .asl 1 none, .asl 2 none, .undef, .undef, .undef, .undef, .undef, .undef, .undef, .undef, .undef, .d (.int .i64 p0), .undef, .undef, .undef, .undef, .undef, .undef, .undef, .undef, .undef, .undef, .undef, .undef, .undef, .undef, .undef, .undef, .undef, .undef, .undef, .undef, .undef, .undef, .undef, .undef, .undef, .undef, .undef, .undef, .undef, .undef, .undef, .undef, .undef, .undef, .undef, .undef, .undef, .undef, .undef, .undef, .undef, .undef, .undef, .undef, .undef, .undef, .undef, .undef, .undef, .undef, .undef, .undef, .undef, .undef, .undef, .undef, .undef, .undef, .undef, .undef, .undef, .undef, .undef, .undef, .undef, .undef, .undef, .undef, .undef, .undef, .undef, .undef, .undef, .undef, .undef, .undef, .undef, .undef, .undef, .undef, .undef, .undef, .undef, .undef, .undef, .undef, .undef, .undef, .undef, .undef, .undef, .undef, .undef, .undef, .undef, .undef, .undef, .undef, .undef, .undef, .undef, .undef, .undef, .undef, .undef, .undef, .undef, .undef, .undef, .undef, .undef, .undef, .undef, .undef, .undef, .undef, .undef, .undef, .undef, .undef, .undef, .undef, .undef, .undef, .undef, .undef, .undef, .undef, .undef, .undef, .undef, .undef, .undef, .undef, .undef, .undef, .undef, .undef, .undef, .undef, .undef, .undef, .undef, .undef, .undef, .undef, .undef, .undef, .undef, .undef, .undef], [(0, some (.var [.d (.int .i64 p1), .d (.int .i64 p2), .d .nl, .d (.int .i64 p3), .d .nl])), (1, some (.arr (1, 0) p4)), (2, some (.arr (1, 0) p5))], 3, []⟩
noncomputable def Llaws_FnWay_31v1 (p0 : Int) (p1 : Int) (p2 : Int) (p3 : Int) (p4 : List D) (p5 : List D) (p6 : List D) (p7 : List D) : Option Ret := R 3 Try.f3 [] (headAt Try.f3 31) ⟨[.undef, .undef, .undef, .ref 0 0 0, .undef, .undef, .asl 1 none, .asl 2 none, .undef, .undef, .undef, .undef, .undef, .undef, .undef, .undef, .undef, .d (.int .i64 p0), .undef, .undef, .undef, .undef, .undef, .undef, .undef, .undef, .undef, .undef, .undef, .undef, .undef, .undef, .undef, .undef, .undef, .undef, .undef, .undef, .undef, .undef, .undef, .undef, .undef, .undef, .undef, .undef, .undef, .undef, .undef, .undef, .undef, .undef, .undef, .undef, .undef, .undef, .undef, .undef, .undef, .undef, .undef, .undef, .undef, .undef, .undef, .undef, .undef, .undef, .undef, .undef, .undef, .undef, .undef, .undef, .undef, .undef, .undef, .undef, .undef, .undef, .undef, .undef, .undef, .undef, .undef, .undef, .undef, .undef, .undef, .undef, .undef, .undef, .undef, .undef, .undef, .undef, .undef, .undef, .undef, .undef, .undef, .undef, .undef, .undef, .undef, .undef, .undef, .undef, .undef, .undef, .undef, .undef, .undef, .undef, .undef, .undef, .undef, .undef, .undef, .undef, .undef, .undef, .undef, .undef, .undef, .undef, .undef, .undef, .undef, .undef, .undef, .undef, .undef, .undef, .undef, .undef, .undef, .undef, .undef, .undef, .undef, .undef, .undef, .undef, .undef, .undef, .undef, .undef, .undef, .undef, .undef, .undef, .undef, .undef, .undef, .undef, .undef, .undef, .undef, .undef, .undef, .undef, .undef, .undef, .undef, .undef, .undef, .undef, .undef], [(0, some (.var [.d (.int .i64 p1), .d (.int .i64 p2), .asl 3 none, .d (.int .i64 p3), .asl 4 none])), (1, some (.arr (1, 0) p4)), (2, some (.arr (1, 0) p5)), (3, some (.arr (1, 0) p6)), (4, some (.arr (2, 0) p7))], 5, []⟩
noncomputable def Llaws_FnWay_35 (p0 : Int) (p1 : Int) (p2 : Int) (p3 : Int) (p4 : Int) (p5 : List D) (p6 : List D) (p7 : List D) : Option Ret := R 3 Try.f3 [] (headAt Try.f3 35) ⟨[.undef, .undef, .undef, .ref 0 0 0, .undef, .undef, .asl 1 none, .asl 2 none, .undef, .undef, .undef, .undef, .undef, .undef, .undef, .undef, .undef, .d (.int .i64 p0), .asl 3 none, .d (.int .i64 p1), .undef, .undef, .undef, .undef, .undef, .undef, .undef, .undef, .undef, .undef, .undef, .undef, .undef, .undef, .undef, .undef, .undef, .undef, .undef, .undef, .undef, .undef, .undef, .undef, .undef, .undef, .undef, .undef, .undef, .undef, .undef, .undef, .undef, .undef, .undef, .undef, .undef, .undef, .undef, .undef, .undef, .undef, .undef, .undef, .undef, .undef, .undef, .undef, .undef, .undef, .undef, .undef, .undef, .undef, .undef, .undef, .undef, .undef, .undef, .undef, .undef, .undef, .undef, .undef, .undef, .undef, .undef, .undef, .undef, .undef, .undef, .undef, .undef, .undef, .undef, .undef, .undef, .undef, .undef, .undef, .undef, .undef, .undef, .undef, .undef, .undef, .undef, .undef, .undef, .undef, .undef, .undef, .undef, .undef, .undef, .undef, .undef, .undef, .undef, .undef, .undef, .undef, .undef, .undef, .undef, .undef, .undef, .undef, .undef, .undef, .undef, .undef, .undef, .undef, .undef, .undef, .undef, .undef, .undef, .undef, .undef, .undef, .undef, .undef, .undef, .undef, .undef, .undef, .undef, .undef, .undef, .undef, .undef, .undef, .undef, .undef, .undef, .undef, .undef, .undef, .undef, .undef, .undef, .undef, .undef, .undef, .undef, .undef, .undef], [(0, some (.var [.d (.int .i64 p2), .d (.int .i64 p3), .d .nl, .d (.int .i64 p4), .d .nl])), (1, some (.arr (1, 0) p5)), (2, some (.arr (1, 0) p6)), (3, some (.arr (2, 0) p7))], 4, []⟩
noncomputable def Llaws_FnWay_35v1 (p0 : Int) (p1 : Int) (p2 : Int) (p3 : Int) (p4 : Int) (p5 : List D) (p6 : List D) (p7 : List D) (p8 : List D) (p9 : List D) : Option Ret := R 3 Try.f3 [] (headAt Try.f3 35) ⟨[.undef, .undef, .undef, .ref 0 0 0, .undef, .undef, .asl 1 none, .asl 2 none, .undef, .undef, .undef, .undef, .undef, .undef, .undef, .undef, .undef, .d (.int .i64 p0), .asl 3 none, .d (.int .i64 p1), .undef, .undef, .undef, .undef, .undef, .undef, .undef, .undef, .undef, .undef, .undef, .undef, .undef, .undef, .undef, .undef, .undef, .undef, .undef, .undef, .undef, .undef, .undef, .undef, .undef, .undef, .undef, .undef, .undef, .undef, .undef, .undef, .undef, .undef, .undef, .undef, .undef, .undef, .undef, .undef, .undef, .undef, .undef, .undef, .undef, .undef, .undef, .undef, .undef, .undef, .undef, .undef, .undef, .undef, .undef, .undef, .undef, .undef, .undef, .undef, .undef, .undef, .undef, .undef, .undef, .undef, .undef, .undef, .undef, .undef, .undef, .undef, .undef, .undef, .undef, .undef, .undef, .undef, .undef, .undef, .undef, .undef, .undef, .undef, .undef, .undef, .undef, .undef, .undef, .undef, .undef, .undef, .undef, .undef, .undef, .undef, .undef, .undef, .undef, .undef, .undef, .undef, .undef, .undef, .undef, .undef, .undef, .undef, .undef, .undef, .undef, .undef, .undef, .undef, .undef, .undef, .undef, .undef, .undef, .undef, .undef, .undef, .undef, .undef, .undef, .undef, .undef, .undef, .undef, .undef, .undef, .undef, .undef, .undef, .undef, .undef, .undef, .undef, .undef, .undef, .undef, .undef, .undef, .undef, .undef, .undef, .undef, .undef, .undef], [(0, some (.var [.d (.int .i64 p2), .d (.int .i64 p3), .asl 4 none, .d (.int .i64 p4), .asl 5 none])), (1, some (.arr (1, 0) p5)), (2, some (.arr (1, 0) p6)), (3, some (.arr (2, 0) p7)), (4, some (.arr (1, 0) p8)), (5, some (.arr (2, 0) p9))], 6, []⟩
noncomputable def Limpl_LinkShow_5 (p0 : List D) (p1 : Int) (p2 : Int) (p3 : Int) (p4 : Int) (p5 : List D) (p6 : Int) (p7 : List D) (p8 : List D) : Option Ret := R 10 Try.f10 [] (headAt Try.f10 5) ⟨[.undef, .ref 0 0 0, .undef, .asl 1 none, .undef, .undef, .undef, .undef, .undef, .undef, .undef, .undef, .undef, .undef, .undef, .undef, .undef, .d (.rs (1, 0) p0), .d (.int .i64 p1), .d (.int .i64 p2), .undef, .undef, .undef, .undef, .undef, .undef, .undef, .undef, .undef, .undef, .undef, .undef, .undef, .undef, .undef], [(0, some (.var [.d (.int .i64 p3), .d (.int .i64 p4), .d (.rs (1, 0) p5), .d (.int .i64 p6), .d (.rs (2, 0) p7)])), (1, some (.arr (2, 0) p8))], 2, []⟩
noncomputable def Limpl_LinkTake_11 (p0 : Int) (p1 : Int) (p2 : Int) (p3 : Int) (p4 : Int) (p5 : Int) (p6 : List D) (p7 : List D) (p8 : List D) : Option Ret := R 11 Try.f11 [] (headAt Try.f11 11) ⟨[.undef, .undef, .undef, .undef, .ref 0 0 0, .undef, .ref 1 0 0, .undef, .undef, .asl 2 none, .undef, .undef, .undef, .undef, .undef, .undef, .undef, .undef, .undef, .undef, .undef, .undef, .undef, .undef, .undef, .undef, .undef, .undef, .undef, .undef, .undef, .undef, .undef, .undef, .undef, .undef, .undef, .undef, .undef, .undef, .undef, .undef, .undef, .undef, .undef, .undef, .undef, .undef, .undef, .undef, .undef, .undef, .undef, .undef, .undef, .undef, .undef, .undef, .undef, .undef, .undef, .undef, .undef, .undef, .undef, .undef, .undef, .undef, .undef, .undef, .undef, .undef, .undef, .undef, .undef, .undef, .undef, .undef, .undef, .undef, .undef, .undef, .undef, .undef, .undef, .undef, .undef, .undef, .undef, .undef, .undef, .undef, .undef, .undef, .undef, .undef, .undef, .undef, .undef, .undef, .undef, .undef, .undef, .undef], [(0, some (.var [.d (.int .i64 p0), .d (.int .i64 p1), .d .nl, .d (.int .i64 p2), .d .nl])), (1, some (.var [.d (.int .i64 p3), .d (.int .i64 p4), .asl 3 none, .d (.int .i64 p5), .asl 4 none])), (2, some (.arr (1, 0) p6)), (3, some (.arr (1, 0) p7)), (4, some (.arr (2, 0) p8))], 5, []⟩
noncomputable def Limpl_LinkTake_11v1 (p0 : Int) (p1 : Int) (p2 : Int) (p3 : Int) (p4 : Int) (p5 : Int) (p6 : Nat) (p7 : Nat) (p8 : List D) (p9 : List D) (p10 : List D) : Option Ret := R 11 Try.f11 [] (headAt Try.f11 11) ⟨[.undef, .undef, .undef, .undef, .ref 0 0 0, .undef, .ref 1 0 0, .undef, .undef, .asl 2 none, .undef, .undef, .undef, .undef, .undef, .undef, .undef, .undef, .undef, .undef, .undef, .undef, .undef, .undef, .undef, .undef, .undef, .undef, .undef, .undef, .undef, .undef, .undef, .undef, .undef, .undef, .undef, .undef, .undef, .undef, .undef, .undef, .undef, .undef, .undef, .undef, .undef, .undef, .undef, .undef, .undef, .undef, .undef, .undef, .undef, .undef, .undef, .undef, .undef, .undef, .undef, .undef, .undef, .undef, .undef, .undef, .undef, .undef, .undef, .undef, .undef, .undef, .undef, .undef, .undef, .undef, .undef, .undef, .undef, .undef, .undef, .undef, .undef, .undef, .undef, .undef, .undef, .undef, .undef, .undef, .undef, .undef, .undef, .undef, .undef, .undef, .undef, .undef, .undef, .undef, .undef, .undef, .undef, .undef], [(0, some (.var [.d (.int .i64 p0), .d (.int .i64 p1), .d .nl, .d (.int .i64 p2), .d .nl])), (1, some (.var [.d (.int .i64 p3), .d (.int .i64 p4), .asl 3 none, .d (.int .i64 p5), .asl 4 (some (p6, p7))])), (2, some (.arr (1, 0) p8)), (3, some (.arr (1, 0) p9)), (4, some (.arr (2, 0) p10))], 5, []⟩
noncomputable def Llaws_sameTexts_4 (p0 : List D) (p1 : List D) (p2 : Int) : Option Ret := R 13 Try.f13 [] (headAt Try.f13 4) ⟨[.d (.rs (1, 0) p0), .d (.rs (1, 0) p1), .undef, .undef, .undef, .d (.int .i64 p2), .undef, .undef, .undef, .undef, .undef, .undef, .undef, .undef, .undef, .undef, .undef, .undef, .undef, .undef, .undef, .undef, .undef, .undef, .undef, .undef], [], 0, []⟩
noncomputable def Limpl_LinkOk_4 (p0 : List D) (p1 : Int) (p2 : Int) (p3 : Int) (p4 : Int) (p5 : List D) (p6 : Int) (p7 : List D) : Option Ret := R 17 Try.f17 [] (headAt Try.f17 4) ⟨[.undef, .ref 0 0 0, .undef, .undef, .undef, .undef, .undef, .undef, .undef, .undef, .undef, .undef, .undef, .undef, .undef, .undef, .undef, .undef, .undef, .undef, .undef, .undef, .undef, .undef, .undef, .undef, .undef, .undef, .undef, .undef, .undef, .undef, .undef, .undef, .undef, .undef, .undef, .undef, .undef, .undef, .undef, .undef, .undef, .d (.rs (2, 0) p0), .d (.int .i64 p1), .d (.int .i64 p2), .undef, .undef, .undef, .undef, .undef, .undef, .undef, .undef, .undef, .undef, .undef, .undef, .undef, .undef, .undef, .undef, .undef, .undef, .undef, .undef, .undef, .undef, .undef, .undef, .undef, .undef, .undef, .undef, .undef, .undef, .undef, .undef, .undef, .undef, .undef], [(0, some (.var [.d (.int .i64 p3), .d (.int .i64 p4), .d (.rs (1, 0) p5), .d (.int .i64 p6), .d (.rs (2, 0) p7)]))], 1, []⟩
noncomputable def LBinarySearchFunc_Piece_3 (p0 : List D) (p1 : Int) (p2 : Int) (p3 : Int) (p4 : Int) : Option Ret := R 29 Try.f29 [] (headAt Try.f29 3) ⟨[.d (.rs (2, 0) p0), .d (.int .i64 p1), .fn 30 [], .undef, .undef, .undef, .undef, .undef, .d (.int .i64 p2), .d (.int .i64 p3), .d (.int .i64 p4), .undef, .undef, .undef, .undef, .undef, .undef, .undef, .undef, .undef, .undef, .undef, .undef, .undef, .undef, .undef, .undef, .undef, .undef, .undef, .undef, .undef, .undef, .undef, .undef, .undef, .undef, .undef, .undef, .undef, .undef, .undef, .undef, .undef, .undef, .undef, .undef, .undef, .undef], [], 0, []⟩
end Go.Eng
/-! the functions as the interpreter has them -/
namespace Go.Eng
open Go.Proofs Go.Proofs.Try
set_option maxRecDepth 100000
theorem eimpl_LinkSend (a0_0 : Int) (a0_1 : Int) (a0_2 : List D) (a0_3 : Int) (a0_4 : List D) (a1_ : ByteArray) : V 7 [.agg [.int .i64 a0_0, .int .i64 a0_1, .rs (1, 0) a0_2, .int .i64 a0_3, .rs (2, 0) a0_4], .str a1_] =
  ocall V 17 [(.agg [(.int .i64 a0_0), (.int .i64 a0_1), (.rs (1, 0) a0_2), (.int .i64 a0_3), (.rs (2, 0) a0_4)])] fun x0 l1 =>
   asB x0 fun b2 => unn l1 (br (!b2)
     (some ((.tup [(.agg [(.int .i64 (0)), (.int .i64 (0)), (.os (1, 0) []), (.int .i64 (0)), (.os (2, 0) [])]), (.bool false)]), []))
     (ocall V 28 [(.agg [(.int .i64 a0_0), (.int .i64 a0_1), (.rs (1, 0) a0_2), (.int .i64 a0_3), (.rs (2, 0) a0_4)])] fun x3 l4 =>
      asAgg x3 fun l5 => unc l5 fun x6 l7 => asI .i64 x6 fun n8 => unc l7 fun x9 l10 => asI .i64 x9 fun n11 => unc l10 fun x12 l13 => asOs (1, 0) x12 fun l14 => unc l13 fun x15 l16 => asI .i64 x15 fun n17 => unc l16 fun x18 l19 => asOs (2, 0) x18 fun l20 => unn l19 (unn l4 (grd (decide (ni (List.length (l14 ++ [D.str a1_])) ≤ LIM)) (nam (l14 ++ [D.str a1_]) fun l21 =>
                  ocall V 17 [(.agg [(.int .i64 (IntKind.wrap IntKind.i64 (n8 + 1))), (.int .i64 n11), (.rs (1, 0) l21), (.int .i64 n17), (.rs (2, 0) l20)])] fun x22 l23 =>
                   asB x22 fun b24 => unn l23 (br (!b24)
                     (ocall V 28 [(.agg [(.int .i64 a0_0), (.int .i64 a0_1), (.rs (1, 0) a0_2), (.int .i64 a0_3), (.rs (2, 0) a0_4)])] fun x25 l26 =>
                      asAgg x25 fun l27 => unc l27 fun x28 l29 => asI .i64 x28 fun n30 => unc l29 fun x31 l32 => asI .i64 x31 fun n33 => unc l32 fun x34 l35 => asOs (1, 0) x34 fun l36 => unc l35 fun x37 l38 => asI .i64 x37 fun n39 => unc l38 fun x40 l41 => asOs (2, 0) x40 fun l42 => unn l41 (unn l26 (some ((.tup [(.agg [(.int .i64 n30), (.int .i64 n33), (.os (1, 0) l36), (.int .i64 n39), (.os (2, 0) l42)]), (.bool false)]), []))))
                     (some ((.tup [(.agg [(.int .i64 (IntKind.wrap IntKind.i64 (n8 + 1))), (.int .i64 n11), (.os (1, 0) l21), (.int .i64 n17), (.os (2, 0) l20)]), (.bool true)]), [])))))))) := by
  exact (Vn_eq Try.func7 rfl _).trans (by kernel_rfl)
theorem elaws_digits (a0_ : Int) : V 9 [.int .i64 a0_] =
  br (decide (a0_ < 0))
   (ocall V 9 [(.int .i64 (IntKind.wrap IntKind.i64 (0 - a0_)))] fun x0 l1 =>
    asS x0 fun s2 => unn l1 (grd (decide (ni (ByteArray.size { data := #[45] } + ByteArray.size s2) ≤ LIM)) (some ((.str ({ data := #[45] } ++ s2)), []))))
   (br (decide (a0_ < 10))
    (obytes ([D.int IntKind.u8 (IntKind.wrap IntKind.u8 (IntKind.wrap IntKind.i64 (48 + a0_)))]) fun s3 => some ((.str s3), []))
    (grd (!decide (10 = 0)) (ocall V 9 [(.int .i64 (IntKind.wrap IntKind.i64 (Int.tdiv a0_ (10))))] fun x4 l5 =>
     asS x4 fun s6 => unn l5 (grd (!decide (10 = 0)) (obytes ([D.int IntKind.u8 (IntKind.wrap IntKind.u8 (IntKind.wrap IntKind.i64 (48 + Int.tmod a0_ (10))))]) fun s7 => grd (decide (ni (ByteArray.size s6 + ByteArray.size s7) ≤ LIM)) (some ((.str (s6 ++ s7)), []))))))) := by
  exact (Vn_eq Try.func9 rfl _).trans (by kernel_rfl)
theorem eslices_Clone_impl_Piece_impl_Piece (a0_ : List D) : V 33 [.rs (2, 0) a0_] =
  nilb a0_
   (some ((.os (2, 0) []), []))
   (grd (decide (ni (List.length ([] ++ a0_)) ≤ LIM)) (nam ([] ++ a0_) fun l0 =>
    some ((.os (2, 0) l0), []))) := by
  exact (Vn_eq Try.func33 rfl _).trans (by kernel_rfl)
theorem eimpl_within (a0_ : Int) (a1_ : Int) (a2_ : Int) : V 31 [.int .i64 a0_, .int .i64 a1_, .int .i64 a2_] =
  br (decide (a0_ ≥ a1_))
   (some ((.bool (decide (a0_ ≤ a2_))), []))
   (some ((.bool false), [])) := by
  exact (Vn_eq Try.func31 rfl _).trans (by kernel_rfl)
end Go.Eng
/-! the functions as the interpreter has them -/
namespace Go.Eng
open Go.Proofs Go.Proofs.Try
set_option maxRecDepth 100000
theorem Llaws_FnWay_10_eq (p0 : List D) (p1 : Int) (p2 : Int) (p3 : Int) (p4 : Int) (p5 : List D) (p6 : List D) (p7 : List D) : Llaws_FnWay_10 p0 p1 p2 p3 p4 p5 p6 p7 =
  br (decide (p1 < 40))
   (ocall V 8 [(.rs (1, 0) p0), (.int .i64 p1)] fun x27 l28 =>
    asI .i64 x27 fun n29 => unn l28 (br (decide (n29 < 60))
      (ocall V 9 [(.int .i64 p1)] fun x30 l31 =>
       asS x30 fun s32 => unn l31 (ocall V 7 [(.agg [(.int .i64 p2), (.int .i64 p3), (.rs (1, 0) []), (.int .i64 p4), (.rs (2, 0) [])]), (.str s32)] fun x33 l34 =>
         asTup x33 fun l35 => unc l35 fun x36 l37 => asAgg x36 fun l38 => unc l38 fun x39 l40 => asI .i64 x39 fun n41 => unc l40 fun x42 l43 => asI .i64 x42 fun n44 => unc l43 fun x45 l46 => asOs (1, 0) x45 fun l47 => unc l46 fun x48 l49 => asI .i64 x48 fun n50 => unc l49 fun x51 l52 => asOs (2, 0) x51 fun l53 => unn l52 (unc l37 fun x54 l55 => asB x54 fun b56 => unn l55 (unn l34 (br b56
                         (ocall V 9 [(.int .i64 p1)] fun x57 l58 =>
                          asS x57 fun s59 => unn l58 (grd (decide (ni (List.length (p5 ++ [D.str s59])) ≤ LIM)) (nam (p5 ++ [D.str s59]) fun l60 =>
                            Llaws_FnWay_10v1 p0 (IntKind.wrap IntKind.i64 (p1 + 1)) n41 n44 n50 l60 p6 p7 l47 l53)))
                         (Llaws_FnWay_10 p0 (IntKind.wrap IntKind.i64 (p1 + 1)) p2 p3 p4 p5 p6 p7))))))
      (br (decide (n29 < 120))
       (ocall V 10 [(.agg [(.int .i64 p2), (.int .i64 p3), (.rs (1, 0) []), (.int .i64 p4), (.rs (2, 0) [])])] fun x61 l62 =>
        asOs (2, 0) x61 fun l63 => unn l62 (grd (decide (ni (List.length (p7 ++ l63)) ≤ LIM)) (nam (p7 ++ l63) fun l64 =>
          Llaws_FnWay_10 p0 (IntKind.wrap IntKind.i64 (p1 + 1)) p2 p3 p4 p5 p6 l64)))
       (br (decide (n29 < 230))
        (br (decide (ni (List.length p7) > 0))
         (grd (!decide (ni (List.length p7) = 0)) (grd (decide (0 ≤ Int.tmod n29 (ni (List.length p7))) && decide (Int.tmod n29 (ni (List.length p7)) < ni (List.length p7))) (oget p7 (Int.toNat (Int.tmod n29 (ni (List.length p7)))) fun x65 =>
          asAgg x65 fun l66 => unc l66 fun x67 l68 => asI .i64 x67 fun n69 => unc l68 fun x70 l71 => asS x70 fun s72 => unn l71 (ocall V 11 [(.agg [(.int .i64 p2), (.int .i64 p3), (.rs (1, 0) []), (.int .i64 p4), (.rs (2, 0) [])]), (.agg [(.int .i64 n69), (.str s72)])] fun x73 l74 =>
                asTup x73 fun l75 => unc l75 fun x76 l77 => asAgg x76 fun l78 => unc l78 fun x79 l80 => asI .i64 x79 fun n81 => unc l80 fun x82 l83 => asI .i64 x82 fun n84 => unc l83 fun x85 l86 => asOs (1, 0) x85 fun l87 => unc l86 fun x88 l89 => asI .i64 x88 fun n90 => unc l89 fun x91 l92 => asOs (2, 0) x91 fun l93 => unn l92 (unc l77 fun x94 l95 => asOs (1, 0) x94 fun l96 => unn l95 (unn l74 (grd (decide (ni (List.length (p6 ++ l96)) ≤ LIM)) (nam (p6 ++ l96) fun l97 =>
                                Llaws_FnWay_10v1 p0 (IntKind.wrap IntKind.i64 (p1 + 1)) n81 n84 n90 p5 l97 p7 l87 l93))))))))
         (br (decide (ni (List.length p7) > 0))
          (grd (!decide (2 = 0)) (ocall V 12 [(.agg [(.int .i64 p2), (.int .i64 p3), (.rs (1, 0) []), (.int .i64 p4), (.rs (2, 0) [])]), (.int .i64 (IntKind.wrap IntKind.i64 (p4 - Int.tmod n29 (2))))] fun x98 l99 =>
           asTup x98 fun l100 => unc l100 fun x101 l102 => asAgg x101 fun l103 => unc l103 fun x104 l105 => asI .i64 x104 fun n106 => unc l105 fun x107 l108 => asI .i64 x107 fun n109 => unc l108 fun x110 l111 => asOs (1, 0) x110 fun l112 => unc l111 fun x113 l114 => asI .i64 x113 fun n115 => unc l114 fun x116 l117 => asOs (2, 0) x116 fun l118 => unn l117 (unc l102 fun x119 l120 => asB x119 fun _ => unn l120 (unn l99 (grd (cutOk (List.length p7) (some (1)) none) (Llaws_FnWay_10v2 p0 (Int.toNat (1)) (List.length p7 - Int.toNat (1)) (IntKind.wrap IntKind.i64 (p1 + 1)) n106 n109 n115 p5 p6 p7 l112 l118))))))
          (Llaws_FnWay_10 p0 (IntKind.wrap IntKind.i64 (p1 + 1)) p2 p3 p4 p5 p6 p7)))
        (br (decide (ni (List.length p7) > 0))
         (grd (!decide (2 = 0)) (ocall V 12 [(.agg [(.int .i64 p2), (.int .i64 p3), (.rs (1, 0) []), (.int .i64 p4), (.rs (2, 0) [])]), (.int .i64 (IntKind.wrap IntKind.i64 (p4 - Int.tmod n29 (2))))] fun x122 l123 =>
          asTup x122 fun l124 => unc l124 fun x125 l126 => asAgg x125 fun l127 => unc l127 fun x128 l129 => asI .i64 x128 fun n130 => unc l129 fun x131 l132 => asI .i64 x131 fun n133 => unc l132 fun x134 l135 => asOs (1, 0) x134 fun l136 => unc l135 fun x137 l138 => asI .i64 x137 fun n139 => unc l138 fun x140 l141 => asOs (2, 0) x140 fun l142 => unn l141 (unc l126 fun x143 l144 => asB x143 fun _ => unn l144 (unn l123 (grd (cutOk (List.length p7) (some (1)) none) (Llaws_FnWay_10v2 p0 (Int.toNat (1)) (List.length p7 - Int.toNat (1)) (IntKind.wrap IntKind.i64 (p1 + 1)) n130 n133 n139 p5 p6 p7 l136 l142))))))
         (Llaws_FnWay_10 p0 (IntKind.wrap IntKind.i64 (p1 + 1)) p2 p3 p4 p5 p6 p7))))))
   (br (decide (ni (List.length p6) > ni (List.length p5)))
    (some ((.bool false), []))
    (grd (cutOk (List.length p5) none (some (ni (List.length p6)))) (ocall V 13 [(.rs (1, 0) p6), (.rs (1, 0) (part p5 (some (0, Int.toNat (ni (List.length p6))))))] fun x146 l147 =>
     asB x146 fun b148 => unn l147 (br (!b148)
       (some ((.bool false), []))
       (Llaws_FnWay_31 (0) p2 p3 p4 p5 p6))))) := by
  exact (Rn_eq _ _ _).trans (by kernel_rfl)
theorem LBinarySearchFunc_Piece_3_eq (p0 : List D) (p1 : Int) (p2 : Int) (p3 : Int) (p4 : Int) : LBinarySearchFunc_Piece_3 p0 p1 p2 p3 p4 =
  br (decide (p3 < p4))
   (grd (!decide (1 < 0)) (grd (decide (0 ≤ IntKind.wrap IntKind.i64 (Int.fdiv (IntKind.wrap IntKind.u64 (IntKind.wrap IntKind.i64 (p3 + p4))) (2 ^ min (Int.toNat (1)) (IntKind.bits IntKind.u64)))) && decide (IntKind.wrap IntKind.i64 (Int.fdiv (IntKind.wrap IntKind.u64 (IntKind.wrap IntKind.i64 (p3 + p4))) (2 ^ min (Int.toNat (1)) (IntKind.bits IntKind.u64))) < ni (List.length p0))) (oget p0 (Int.toNat (IntKind.wrap IntKind.i64 (Int.fdiv (IntKind.wrap IntKind.u64 (IntKind.wrap IntKind.i64 (p3 + p4))) (2 ^ min (Int.toNat (1)) (IntKind.bits IntKind.u64))))) fun x0 =>
    asAgg x0 fun l1 => unc l1 fun x2 l3 => asI .i64 x2 fun n4 => unc l3 fun x5 l6 => asS x5 fun s7 => unn l6 (ocall V 30 [(.agg [(.int .i64 n4), (.str s7)]), (.int .i64 p1)] fun x8 l9 =>
          asI .i64 x8 fun n10 => unn l9 (br (decide (n10 < 0))
            (LBinarySearchFunc_Piece_3 p0 p1 p2 (IntKind.wrap IntKind.i64 (IntKind.wrap IntKind.i64 (Int.fdiv (IntKind.wrap IntKind.u64 (IntKind.wrap IntKind.i64 (p3 + p4))) (2 ^ min (Int.toNat (1)) (IntKind.bits IntKind.u64))) + 1)) p4)
            (LBinarySearchFunc_Piece_3 p0 p1 p2 p3 (IntKind.wrap IntKind.i64 (Int.fdiv (IntKind.wrap IntKind.u64 (IntKind.wrap IntKind.i64 (p3 + p4))) (2 ^ min (Int.toNat (1)) (IntKind.bits IntKind.u64))))))))))
   (br (decide (p3 < p2))
    (grd (decide (0 ≤ p3) && decide (p3 < ni (List.length p0))) (oget p0 (Int.toNat p3) fun x11 =>
     asAgg x11 fun l12 => unc l12 fun x13 l14 => asI .i64 x13 fun n15 => unc l14 fun x16 l17 => asS x16 fun s18 => unn l17 (ocall V 30 [(.agg [(.int .i64 n15), (.str s18)]), (.int .i64 p1)] fun x19 l20 =>
           asI .i64 x19 fun n21 => unn l20 (some ((.tup [(.int .i64 p3), (.bool (n21 == 0))]), [])))))
    (some ((.tup [(.int .i64 p3), (.bool false)]), []))) := by
  exact (Rn_eq _ _ _).trans (by kernel_rfl)
theorem Limpl_LinkTake_11_eq (p0 : Int) (p1 : Int) (p2 : Int) (p3 : Int) (p4 : Int) (p5 : Int) (p6 : List D) (p7 : List D) (p8 : List D) : Limpl_LinkTake_11 p0 p1 p2 p3 p4 p5 p6 p7 p8 =
  br (decide (ni (List.length p8) > 0))
   (grd (decide (0 ≤ 0) && decide (0 < ni (List.length p8))) (oget p8 0 fun x51 =>
    asAgg x51 fun l52 => oget l52 0 fun x53 =>
      asI .i64 x53 fun n54 => br (n54 == p5)
        (grd (decide (0 ≤ 0) && decide (0 < ni (List.length p8))) (oget p8 0 fun x55 =>
         asAgg x55 fun l56 => oget l56 1 fun x57 =>
           asS x57 fun s58 => grd (decide (ni (List.length (p6 ++ [D.str s58])) ≤ LIM)) (nam (p6 ++ [D.str s58]) fun l59 =>
             grd (cutOk (List.length p8) (some (1)) none) (Limpl_LinkTake_11v1 p0 p1 p2 p3 p4 (IntKind.wrap IntKind.i64 (p5 + 1)) (Int.toNat (1)) (List.length p8 - Int.toNat (1)) l59 p7 p8))))
        (ocall V 33 [(.rs (2, 0) p8)] fun x60 l61 =>
         asOs (2, 0) x60 fun l62 => unn l61 (some ((.tup [(.agg [(.int .i64 p3), (.int .i64 p4), (.os (1, 0) p7), (.int .i64 p5), (.os (2, 0) l62)]), (.os (1, 0) p6)]), [])))))
   (ocall V 33 [(.rs (2, 0) p8)] fun x63 l64 =>
    asOs (2, 0) x63 fun l65 => unn l64 (some ((.tup [(.agg [(.int .i64 p3), (.int .i64 p4), (.os (1, 0) p7), (.int .i64 p5), (.os (2, 0) l65)]), (.os (1, 0) p6)]), []))) := by
  exact (Rn_eq _ _ _).trans (by kernel_rfl)
theorem eimpl_LinkOk (a0_0 : Int) (a0_1 : Int) (a0_2 : List D) (a0_3 : Int) (a0_4 : List D) : V 17 [.agg [.int .i64 a0_0, .int .i64 a0_1, .rs (1, 0) a0_2, .int .i64 a0_3, .rs (2, 0) a0_4]] =
  ocall V 31 [(.int .i64 a0_0), (.int .i64 (0)), (.int .i64 (100000))] fun x0 l1 =>
   asB x0 fun b2 => unn l1 (br (!b2)
     (some ((.bool false), []))
     (ocall V 31 [(.int .i64 a0_3), (.int .i64 (0)), (.int .i64 a0_0)] fun x3 l4 =>
      asB x3 fun b5 => unn l4 (br (!b5)
        (some ((.bool false), []))
        (ocall V 31 [(.int .i64 a0_1), (.int .i64 (0)), (.int .i64 a0_3)] fun x6 l7 =>
         asB x6 fun b8 => unn l7 (br (!b8)
           (some ((.bool false), []))
           (br (ni (List.length a0_2) != IntKind.wrap IntKind.i64 (a0_0 - a0_1))
            (some ((.bool false), []))
            (br (decide (ni (List.length a0_2) > 30))
             (some ((.bool false), []))
             (Limpl_LinkOk_4 a0_4 (ni (List.length a0_4)) (0) a0_0 a0_1 a0_2 a0_3 a0_4)))))))) := by
  exact (Vn_eq Try.func17 rfl _).trans (by kernel_rfl)
theorem elaws_FnWay (a0_ : List D) : V 3 [.rs (1, 0) a0_] =
  ocall V 6 [(.rs (1, 0) a0_)] fun x0 l1 =>
   asB x0 fun b2 => unn l1 (br b2
     (some ((.bool true), []))
     (ocall V 7 [(.agg [(.int .i64 (0)), (.int .i64 (0)), (.rs (1, 0) []), (.int .i64 (0)), (.rs (2, 0) [])]), (.str ({ data := #[120] }))] fun x3 l4 =>
      asTup x3 fun l5 => unc l5 fun x6 l7 => asAgg x6 fun l8 => unc l8 fun x9 l10 => asI .i64 x9 fun _ => unc l10 fun x12 l13 => asI .i64 x12 fun _ => unc l13 fun x15 l16 => asOs (1, 0) x15 fun _ => unc l16 fun x18 l19 => asI .i64 x18 fun _ => unc l19 fun x21 l22 => asOs (2, 0) x21 fun _ => unn l22 (unc l7 fun x24 l25 => asB x24 fun b26 => unn l25 (unn l4 (br (!b26)
                      (some ((.bool false), []))
                      (Llaws_FnWay_10 a0_ (0) (0) (0) (0) [] [] [])))))) := by
  exact (Vn_eq Try.func3 rfl _).trans (by kernel_rfl)
theorem Llaws_FnWay_31v1_eq (p0 : Int) (p1 : Int) (p2 : Int) (p3 : Int) (p4 : List D) (p5 : List D) (p6 : List D) (p7 : List D) : Llaws_FnWay_31v1 p0 p1 p2 p3 p4 p5 p6 p7 =
  br (decide (p0 < 20))
   (ocall V 10 [(.agg [(.int .i64 p1), (.int .i64 p2), (.rs (1, 0) p6), (.int .i64 p3), (.rs (2, 0) p7)])] fun x399 l400 =>
    asOs (2, 0) x399 fun l401 => unn l400 (Llaws_FnWay_35v1 p0 (0) p1 p2 p3 p4 p5 l401 p6 p7))
   (ocall V 13 [(.rs (1, 0) p5), (.rs (1, 0) p4)] fun x402 l403 =>
    asB x402 fun b404 => unn l403 (br b404
      (br (ni (List.length p6) == 0)
       (some ((.bool (p3 == ni (List.length p4))), []))
       (some ((.bool false), [])))
      (some ((.bool false), [])))) := by
  exact (Rn_eq _ _ _).trans (by kernel_rfl)
theorem Llaws_FnWay_31_eq (p0 : Int) (p1 : Int) (p2 : Int) (p3 : Int) (p4 : List D) (p5 : List D) : Llaws_FnWay_31 p0 p1 p2 p3 p4 p5 =
  br (decide (p0 < 20))
   (ocall V 10 [(.agg [(.int .i64 p1), (.int .i64 p2), (.rs (1, 0) []), (.int .i64 p3), (.rs (2, 0) [])])] fun x393 l394 =>
    asOs (2, 0) x393 fun l395 => unn l394 (Llaws_FnWay_35 p0 (0) p1 p2 p3 p4 p5 l395))
   (ocall V 13 [(.rs (1, 0) p5), (.rs (1, 0) p4)] fun x396 l397 =>
    asB x396 fun b398 => unn l397 (br b398
      (some ((.bool (p3 == ni (List.length p4))), []))
      (some ((.bool false), [])))) := by
  exact (Rn_eq _ _ _).trans (by kernel_rfl)
theorem eslices_Clone_string_string (a0_ : List D) : V 34 [.rs (1, 0) a0_] =
  nilb a0_
   (some ((.os (1, 0) []), []))
   (grd (decide (ni (List.length ([] ++ a0_)) ≤ LIM)) (nam ([] ++ a0_) fun l0 =>
    some ((.os (1, 0) l0), []))) := by
  exact (Vn_eq Try.func34 rfl _).trans (by kernel_rfl)
theorem eBinarySearchFunc_Piece (l : List D) (n : Int) : V 29 [.rs (2, 0) l, .int .i64 n, .fn 30 []] =
  LBinarySearchFunc_Piece_3 l n (ni (List.length l)) (0) (ni (List.length l)) := by
  exact (Vn_eq Try.func29 rfl _).trans (by kernel_rfl)
end Go.Eng
/-! the functions as the interpreter has them -/
namespace Go.Eng
open Go.Proofs Go.Proofs.Try
set_option maxRecDepth 100000
theorem Llaws_FnWay_10v1_eq (p0 : List D) (p1 : Int) (p2 : Int) (p3 : Int) (p4 : Int) (p5 : List D) (p6 : List D) (p7 : List D) (p8 : List D) (p9 : List D) : Llaws_FnWay_10v1 p0 p1 p2 p3 p4 p5 p6 p7 p8 p9 =
  br (decide (p1 < 40))
   (ocall V 8 [(.rs (1, 0) p0), (.int .i64 p1)] fun x149 l150 =>
    asI .i64 x149 fun n151 => unn l150 (br (decide (n151 < 60))
      (ocall V 9 [(.int .i64 p1)] fun x152 l153 =>
       asS x152 fun s154 => unn l153 (ocall V 7 [(.agg [(.int .i64 p2), (.int .i64 p3), (.rs (1, 0) p8), (.int .i64 p4), (.rs (2, 0) p9)]), (.str s154)] fun x155 l156 =>
         asTup x155 fun l157 => unc l157 fun x158 l159 => asAgg x158 fun l160 => unc l160 fun x161 l162 => asI .i64 x161 fun n163 => unc l162 fun x164 l165 => asI .i64 x164 fun n166 => unc l165 fun x167 l168 => asOs (1, 0) x167 fun l169 => unc l168 fun x170 l171 => asI .i64 x170 fun n172 => unc l171 fun x173 l174 => asOs (2, 0) x173 fun l175 => unn l174 (unc l159 fun x176 l177 => asB x176 fun b178 => unn l177 (unn l156 (br b178
                         (ocall V 9 [(.int .i64 p1)] fun x179 l180 =>
                          asS x179 fun s181 => unn l180 (grd (decide (ni (List.length (p5 ++ [D.str s181])) ≤ LIM)) (nam (p5 ++ [D.str s181]) fun l182 =>
                            Llaws_FnWay_10v1 p0 (IntKind.wrap IntKind.i64 (p1 + 1)) n163 n166 n172 l182 p6 p7 l169 l175)))
                         (Llaws_FnWay_10v1 p0 (IntKind.wrap IntKind.i64 (p1 + 1)) p2 p3 p4 p5 p6 p7 p8 p9))))))
      (br (decide (n151 < 120))
       (ocall V 10 [(.agg [(.int .i64 p2), (.int .i64 p3), (.rs (1, 0) p8), (.int .i64 p4), (.rs (2, 0) p9)])] fun x183 l184 =>
        asOs (2, 0) x183 fun l185 => unn l184 (grd (decide (ni (List.length (p7 ++ l185)) ≤ LIM)) (nam (p7 ++ l185) fun l186 =>
          Llaws_FnWay_10v1 p0 (IntKind.wrap IntKind.i64 (p1 + 1)) p2 p3 p4 p5 p6 l186 p8 p9)))
       (br (decide (n151 < 230))
        (br (decide (ni (List.length p7) > 0))
         (grd (!decide (ni (List.length p7) = 0)) (grd (decide (0 ≤ Int.tmod n151 (ni (List.length p7))) && decide (Int.tmod n151 (ni (List.length p7)) < ni (List.length p7))) (oget p7 (Int.toNat (Int.tmod n151 (ni (List.length p7)))) fun x187 =>
          asAgg x187 fun l188 => unc l188 fun x189 l190 => asI .i64 x189 fun n191 => unc l190 fun x192 l193 => asS x192 fun s194 => unn l193 (ocall V 11 [(.agg [(.int .i64 p2), (.int .i64 p3), (.rs (1, 0) p8), (.int .i64 p4), (.rs (2, 0) p9)]), (.agg [(.int .i64 n191), (.str s194)])] fun x195 l196 =>
                asTup x195 fun l197 => unc l197 fun x198 l199 => asAgg x198 fun l200 => unc l200 fun x201 l202 => asI .i64 x201 fun n203 => unc l202 fun x204 l205 => asI .i64 x204 fun n206 => unc l205 fun x207 l208 => asOs (1, 0) x207 fun l209 => unc l208 fun x210 l211 => asI .i64 x210 fun n212 => unc l211 fun x213 l214 => asOs (2, 0) x213 fun l215 => unn l214 (unc l199 fun x216 l217 => asOs (1, 0) x216 fun l218 => unn l217 (unn l196 (grd (decide (ni (List.length (p6 ++ l218)) ≤ LIM)) (nam (p6 ++ l218) fun l219 =>
                                Llaws_FnWay_10v1 p0 (IntKind.wrap IntKind.i64 (p1 + 1)) n203 n206 n212 p5 l219 p7 l209 l215))))))))
         (br (decide (ni (List.length p7) > 0))
          (grd (!decide (2 = 0)) (ocall V 12 [(.agg [(.int .i64 p2), (.int .i64 p3), (.rs (1, 0) p8), (.int .i64 p4), (.rs (2, 0) p9)]), (.int .i64 (IntKind.wrap IntKind.i64 (p4 - Int.tmod n151 (2))))] fun x220 l221 =>
           asTup x220 fun l222 => unc l222 fun x223 l224 => asAgg x223 fun l225 => unc l225 fun x226 l227 => asI .i64 x226 fun n228 => unc l227 fun x229 l230 => asI .i64 x229 fun n231 => unc l230 fun x232 l233 => asOs (1, 0) x232 fun l234 => unc l233 fun x235 l236 => asI .i64 x235 fun n237 => unc l236 fun x238 l239 => asOs (2, 0) x238 fun l240 => unn l239 (unc l224 fun x241 l242 => asB x241 fun _ => unn l242 (unn l221 (grd (cutOk (List.length p7) (some (1)) none) (Llaws_FnWay_10v2 p0 (Int.toNat (1)) (List.length p7 - Int.toNat (1)) (IntKind.wrap IntKind.i64 (p1 + 1)) n228 n231 n237 p5 p6 p7 l234 l240))))))
          (Llaws_FnWay_10v1 p0 (IntKind.wrap IntKind.i64 (p1 + 1)) p2 p3 p4 p5 p6 p7 p8 p9)))
        (br (decide (ni (List.length p7) > 0))
         (grd (!decide (2 = 0)) (ocall V 12 [(.agg [(.int .i64 p2), (.int .i64 p3), (.rs (1, 0) p8), (.int .i64 p4), (.rs (2, 0) p9)]), (.int .i64 (IntKind.wrap IntKind.i64 (p4 - Int.tmod n151 (2))))] fun x244 l245 =>
          asTup x244 fun l246 => unc l246 fun x247 l248 => asAgg x247 fun l249 => unc l249 fun x250 l251 => asI .i64 x250 fun n252 => unc l251 fun x253 l254 => asI .i64 x253 fun n255 => unc l254 fun x256 l257 => asOs (1, 0) x256 fun l258 => unc l257 fun x259 l260 => asI .i64 x259 fun n261 => unc l260 fun x262 l263 => asOs (2, 0) x262 fun l264 => unn l263 (unc l248 fun x265 l266 => asB x265 fun _ => unn l266 (unn l245 (grd (cutOk (List.length p7) (some (1)) none) (Llaws_FnWay_10v2 p0 (Int.toNat (1)) (List.length p7 - Int.toNat (1)) (IntKind.wrap IntKind.i64 (p1 + 1)) n252 n255 n261 p5 p6 p7 l258 l264))))))
         (Llaws_FnWay_10v1 p0 (IntKind.wrap IntKind.i64 (p1 + 1)) p2 p3 p4 p5 p6 p7 p8 p9))))))
   (br (decide (ni (List.length p6) > ni (List.length p5)))
    (some ((.bool false), []))
    (grd (cutOk (List.length p5) none (some (ni (List.length p6)))) (ocall V 13 [(.rs (1, 0) p6), (.rs (1, 0) (part p5 (some (0, Int.toNat (ni (List.length p6))))))] fun x268 l269 =>
     asB x268 fun b270 => unn l269 (br (!b270)
       (some ((.bool false), []))
       (Llaws_FnWay_31v1 (0) p2 p3 p4 p5 p6 p8 p9))))) := by
  exact (Rn_eq _ _ _).trans (by kernel_rfl)
theorem eimpl_LinkTake (a0_0 : Int) (a0_1 : Int) (a0_2 : List D) (a0_3 : Int) (a0_4 : List D) (a1_0 : Int) (a1_1 : ByteArray) : V 11 [.agg [.int .i64 a0_0, .int .i64 a0_1, .rs (1, 0) a0_2, .int .i64 a0_3, .rs (2, 0) a0_4], .agg [.int .i64 a1_0, .str a1_1]] =
  ocall V 17 [(.agg [(.int .i64 a0_0), (.int .i64 a0_1), (.rs (1, 0) a0_2), (.int .i64 a0_3), (.rs (2, 0) a0_4)])] fun x0 l1 =>
   asB x0 fun b2 => unn l1 (br (!b2)
     (some ((.tup [(.agg [(.int .i64 (0)), (.int .i64 (0)), (.os (1, 0) []), (.int .i64 (0)), (.os (2, 0) [])]), (.os (1, 0) [])]), []))
     (ocall V 28 [(.agg [(.int .i64 a0_0), (.int .i64 a0_1), (.rs (1, 0) a0_2), (.int .i64 a0_3), (.rs (2, 0) a0_4)])] fun x3 l4 =>
      asAgg x3 fun l5 => unc l5 fun x6 l7 => asI .i64 x6 fun n8 => unc l7 fun x9 l10 => asI .i64 x9 fun n11 => unc l10 fun x12 l13 => asOs (1, 0) x12 fun l14 => unc l13 fun x15 l16 => asI .i64 x15 fun n17 => unc l16 fun x18 l19 => asOs (2, 0) x18 fun l20 => unn l19 (unn l4 (br (a1_0 != a0_3)
                  (ocall V 29 [(.rs (2, 0) l20), (.int .i64 a1_0), (.fn 30 [])] fun x21 l22 =>
                   asTup x21 fun l23 => unc l23 fun x24 l25 => asI .i64 x24 fun n26 => unc l25 fun x27 l28 => asB x27 fun b29 => unn l28 (unn l22 (ocall V 31 [(.int .i64 a1_0), (.int .i64 (IntKind.wrap IntKind.i64 (a0_3 + 1))), (.int .i64 (IntKind.wrap IntKind.i64 (mnI (IntKind.wrap IntKind.i64 (a0_3 + 4)) a0_0 - 1)))] fun x30 l31 =>
                         asB x30 fun b32 => unn l31 (br b32
                           (br (!b29)
                            (ocall V 32 [(.os (2, 0) l20), (.int .i64 n26), (.os (2, 0) [(.agg [(.int .i64 a1_0), (.str a1_1)])])] fun x33 l34 =>
                             asOs (2, 0) x33 fun l35 => unn l34 (some ((.tup [(.agg [(.int .i64 n8), (.int .i64 n11), (.os (1, 0) l14), (.int .i64 n17), (.os (2, 0) l35)]), (.os (1, 0) [])]), [])))
                            (some ((.tup [(.agg [(.int .i64 n8), (.int .i64 n11), (.os (1, 0) l14), (.int .i64 n17), (.os (2, 0) l20)]), (.os (1, 0) [])]), [])))
                           (some ((.tup [(.agg [(.int .i64 n8), (.int .i64 n11), (.os (1, 0) l14), (.int .i64 n17), (.os (2, 0) l20)]), (.os (1, 0) [])]), []))))))
                  (br (decide (a0_3 ≥ a0_0))
                   (ocall V 29 [(.rs (2, 0) l20), (.int .i64 a1_0), (.fn 30 [])] fun x36 l37 =>
                    asTup x36 fun l38 => unc l38 fun x39 l40 => asI .i64 x39 fun n41 => unc l40 fun x42 l43 => asB x42 fun b44 => unn l43 (unn l37 (ocall V 31 [(.int .i64 a1_0), (.int .i64 (IntKind.wrap IntKind.i64 (a0_3 + 1))), (.int .i64 (IntKind.wrap IntKind.i64 (mnI (IntKind.wrap IntKind.i64 (a0_3 + 4)) a0_0 - 1)))] fun x45 l46 =>
                          asB x45 fun b47 => unn l46 (br b47
                            (br (!b44)
                             (ocall V 32 [(.os (2, 0) l20), (.int .i64 n41), (.os (2, 0) [(.agg [(.int .i64 a1_0), (.str a1_1)])])] fun x48 l49 =>
                              asOs (2, 0) x48 fun l50 => unn l49 (some ((.tup [(.agg [(.int .i64 n8), (.int .i64 n11), (.os (1, 0) l14), (.int .i64 n17), (.os (2, 0) l50)]), (.os (1, 0) [])]), [])))
                             (some ((.tup [(.agg [(.int .i64 n8), (.int .i64 n11), (.os (1, 0) l14), (.int .i64 n17), (.os (2, 0) l20)]), (.os (1, 0) [])]), [])))
                            (some ((.tup [(.agg [(.int .i64 n8), (.int .i64 n11), (.os (1, 0) l14), (.int .i64 n17), (.os (2, 0) l20)]), (.os (1, 0) [])]), []))))))
                   (Limpl_LinkTake_11 (0) (0) (0) n8 n11 (IntKind.wrap IntKind.i64 (n17 + 1)) ([D.str a1_1]) l14 l20)))))) := by
  exact (Vn_eq Try.func11 rfl _).trans (by kernel_rfl)
theorem Llaws_FnWay_35_eq (p0 : Int) (p1 : Int) (p2 : Int) (p3 : Int) (p4 : Int) (p5 : List D) (p6 : List D) (p7 : List D) : Llaws_FnWay_35 p0 p1 p2 p3 p4 p5 p6 p7 =
  br (decide (p1 < ni (List.length p7)))
   (grd (decide (0 ≤ p1) && decide (p1 < ni (List.length p7))) (oget p7 (Int.toNat p1) fun x405 =>
    asAgg x405 fun l406 => unc l406 fun x407 l408 => asI .i64 x407 fun n409 => unc l408 fun x410 l411 => asS x410 fun s412 => unn l411 (ocall V 11 [(.agg [(.int .i64 p2), (.int .i64 p3), (.rs (1, 0) []), (.int .i64 p4), (.rs (2, 0) [])]), (.agg [(.int .i64 n409), (.str s412)])] fun x413 l414 =>
          asTup x413 fun l415 => unc l415 fun x416 l417 => asAgg x416 fun l418 => unc l418 fun x419 l420 => asI .i64 x419 fun n421 => unc l420 fun x422 l423 => asI .i64 x422 fun n424 => unc l423 fun x425 l426 => asOs (1, 0) x425 fun l427 => unc l426 fun x428 l429 => asI .i64 x428 fun n430 => unc l429 fun x431 l432 => asOs (2, 0) x431 fun l433 => unn l432 (unc l417 fun x434 l435 => asOs (1, 0) x434 fun l436 => unn l435 (unn l414 (grd (decide (ni (List.length (p6 ++ l436)) ≤ LIM)) (nam (p6 ++ l436) fun l437 =>
                          Llaws_FnWay_35v1 p0 (IntKind.wrap IntKind.i64 (p1 + 1)) n421 n424 n430 p5 l437 p7 l427 l433)))))))
   (ocall V 12 [(.agg [(.int .i64 p2), (.int .i64 p3), (.rs (1, 0) []), (.int .i64 p4), (.rs (2, 0) [])]), (.int .i64 p4)] fun x438 l439 =>
    asTup x438 fun l440 => unc l440 fun x441 l442 => asAgg x441 fun l443 => unc l443 fun x444 l445 => asI .i64 x444 fun n446 => unc l445 fun x447 l448 => asI .i64 x447 fun n449 => unc l448 fun x450 l451 => asOs (1, 0) x450 fun l452 => unc l451 fun x453 l454 => asI .i64 x453 fun n455 => unc l454 fun x456 l457 => asOs (2, 0) x456 fun l458 => unn l457 (unc l442 fun x459 l460 => asB x459 fun _ => unn l460 (unn l439 (Llaws_FnWay_31v1 (IntKind.wrap IntKind.i64 (p0 + 1)) n446 n449 n455 p5 p6 l452 l458)))) := by
  exact (Rn_eq _ _ _).trans (by kernel_rfl)
theorem Limpl_LinkTake_11v1_eq (p0 : Int) (p1 : Int) (p2 : Int) (p3 : Int) (p4 : Int) (p5 : Int) (p6 : Nat) (p7 : Nat) (p8 : List D) (p9 : List D) (p10 : List D) : Limpl_LinkTake_11v1 p0 p1 p2 p3 p4 p5 p6 p7 p8 p9 p10 =
  br (decide (ni p7 > 0))
   (grd (decide (0 ≤ 0) && decide (0 < ni p7) && decide (p6 + p7 ≤ List.length p10)) (oget p10 (p6 + Int.toNat (0)) fun x66 =>
    asAgg x66 fun l67 => oget l67 0 fun x68 =>
      asI .i64 x68 fun n69 => br (n69 == p5)
        (grd (decide (0 ≤ 0) && decide (0 < ni p7) && decide (p6 + p7 ≤ List.length p10)) (oget p10 (p6 + Int.toNat (0)) fun x70 =>
         asAgg x70 fun l71 => oget l71 1 fun x72 =>
           asS x72 fun s73 => grd (decide (ni (List.length (p8 ++ [D.str s73])) ≤ LIM)) (nam (p8 ++ [D.str s73]) fun l74 =>
             grd (cutOkX p7 (List.length p10 - p6) (some (1)) none) (Limpl_LinkTake_11v1 p0 p1 p2 p3 p4 (IntKind.wrap IntKind.i64 (p5 + 1)) (p6 + Int.toNat (1)) (p7 - Int.toNat (1)) l74 p9 p10))))
        (ocall V 33 [(.rs (2, 0) (part p10 (some (p6, p7))))] fun x75 l76 =>
         asOs (2, 0) x75 fun l77 => unn l76 (some ((.tup [(.agg [(.int .i64 p3), (.int .i64 p4), (.os (1, 0) p9), (.int .i64 p5), (.os (2, 0) l77)]), (.os (1, 0) p8)]), [])))))
   (ocall V 33 [(.rs (2, 0) (part p10 (some (p6, p7))))] fun x78 l79 =>
    asOs (2, 0) x78 fun l80 => unn l79 (some ((.tup [(.agg [(.int .i64 p3), (.int .i64 p4), (.os (1, 0) p9), (.int .i64 p5), (.os (2, 0) l80)]), (.os (1, 0) p8)]), []))) := by
  exact (Rn_eq _ _ _).trans (by kernel_rfl)
theorem Limpl_LinkOk_4_eq (p0 : List D) (p1 : Int) (p2 : Int) (p3 : Int) (p4 : Int) (p5 : List D) (p6 : Int) (p7 : List D) : Limpl_LinkOk_4 p0 p1 p2 p3 p4 p5 p6 p7 =
  br (decide (p2 < p1))
   (grd (decide (0 ≤ p2) && decide (p2 < ni (List.length p0))) (oget p0 (Int.toNat p2) fun x9 =>
    asAgg x9 fun l10 => unc l10 fun x11 l12 => asI .i64 x11 fun n13 => unc l12 fun x14 l15 => asS x14 fun _ => unn l15 (ocall V 31 [(.int .i64 n13), (.int .i64 (IntKind.wrap IntKind.i64 (p6 + 1))), (.int .i64 (IntKind.wrap IntKind.i64 (mnI (IntKind.wrap IntKind.i64 (p6 + 4)) p3 - 1)))] fun x17 l18 =>
          asB x17 fun b19 => unn l18 (br (!b19)
            (some ((.bool false), []))
            (br (decide (p2 > 0))
             (grd (decide (0 ≤ IntKind.wrap IntKind.i64 (p2 - 1)) && decide (IntKind.wrap IntKind.i64 (p2 - 1) < ni (List.length p7))) (oget p7 (Int.toNat (IntKind.wrap IntKind.i64 (p2 - 1))) fun x20 =>
              asAgg x20 fun l21 => oget l21 0 fun x22 =>
                asI .i64 x22 fun n23 => br (decide (n23 ≥ n13))
                  (some ((.bool false), []))
                  (Limpl_LinkOk_4 p0 p1 (IntKind.wrap IntKind.i64 (p2 + 1)) p3 p4 p5 p6 p7)))
             (Limpl_LinkOk_4 p0 p1 (IntKind.wrap IntKind.i64 (p2 + 1)) p3 p4 p5 p6 p7))))))
   (some ((.bool true), [])) := by
  exact (Rn_eq _ _ _).trans (by kernel_rfl)
theorem eimpl_LinkShow (a0_0 : Int) (a0_1 : Int) (a0_2 : List D) (a0_3 : Int) (a0_4 : List D) : V 10 [.agg [.int .i64 a0_0, .int .i64 a0_1, .rs (1, 0) a0_2, .int .i64 a0_3, .rs (2, 0) a0_4]] =
  ocall V 17 [(.agg [(.int .i64 a0_0), (.int .i64 a0_1), (.rs (1, 0) a0_2), (.int .i64 a0_3), (.rs (2, 0) a0_4)])] fun x0 l1 =>
   asB x0 fun b2 => unn l1 (br (!b2)
     (some ((.os (2, 0) []), []))
     (grd (cutOk (List.length a0_2) none (some (mnI (4) (ni (List.length a0_2))))) (Limpl_LinkShow_5 (cutH a0_2 (mnI (4) (ni (List.length a0_2)))) (ni (List.length (cutH a0_2 (mnI (4) (ni (List.length a0_2)))))) (0) a0_0 a0_1 a0_2 a0_3 a0_4 []))) := by
  exact (Vn_eq Try.func10 rfl _).trans (by kernel_rfl)
theorem Llaws_sameTexts_4_eq (p0 : List D) (p1 : List D) (p2 : Int) : Llaws_sameTexts_4 p0 p1 p2 =
  br (decide (p2 < ni (List.length p0)))
   (grd (decide (0 ≤ p2) && decide (p2 < ni (List.length p0))) (oget p0 (Int.toNat p2) fun x0 =>
    asS x0 fun s1 => grd (decide (0 ≤ p2) && decide (p2 < ni (List.length p1))) (oget p1 (Int.toNat p2) fun x2 =>
      asS x2 fun s3 => br (!strEq s1 s3)
        (some ((.bool false), []))
        (Llaws_sameTexts_4 p0 p1 (IntKind.wrap IntKind.i64 (p2 + 1))))))
   (some ((.bool true), [])) := by
  exact (Rn_eq _ _ _).trans (by kernel_rfl)
theorem eimpl_copyLink (a0_0 : Int) (a0_1 : Int) (a0_2 : List D) (a0_3 : Int) (a0_4 : List D) : V 28 [.agg [.int .i64 a0_0, .int .i64 a0_1, .rs (1, 0) a0_2, .int .i64 a0_3, .rs (2, 0) a0_4]] =
  ocall V 34 [(.rs (1, 0) a0_2)] fun x0 l1 =>
   asOs (1, 0) x0 fun l2 => unn l1 (ocall V 33 [(.rs (2, 0) a0_4)] fun x3 l4 =>
     asOs (2, 0) x3 fun l5 => unn l4 (some ((.agg [(.int .i64 a0_0), (.int .i64 a0_1), (.os (1, 0) l2), (.int .i64 a0_3), (.os (2, 0) l5)]), []))) := by
  exact (Vn_eq Try.func28 rfl _).trans (by kernel_rfl)
theorem elaws_sameTexts (a0_ : List D) (a1_ : List D) : V 13 [.rs (1, 0) a0_, .rs (1, 0) a1_] =
  br (ni (List.length a0_) != ni (List.length a1_))
   (some ((.bool false), []))
   (Llaws_sameTexts_4 a0_ a1_ (0)) := by
  exact (Vn_eq Try.func13 rfl _).trans (by kernel_rfl)
end Go.Eng
/-! the functions as the interpreter has them -/
namespace Go.Eng
open Go.Proofs Go.Proofs.Try
set_option maxRecDepth 100000
theorem Llaws_FnWay_10v2_eq (p0 : List D) (p1 : Nat) (p2 : Nat) (p3 : Int) (p4 : Int) (p5 : Int) (p6 : Int) (p7 : List D) (p8 : List D) (p9 : List D) (p10 : List D) (p11 : List D) : Llaws_FnWay_10v2 p0 p1 p2 p3 p4 p5 p6 p7 p8 p9 p10 p11 =
  br (decide (p3 < 40))
   (ocall V 8 [(.rs (1, 0) p0), (.int .i64 p3)] fun x271 l272 =>
    asI .i64 x271 fun n273 => unn l272 (br (decide (n273 < 60))
      (ocall V 9 [(.int .i64 p3)] fun x274 l275 =>
       asS x274 fun s276 => unn l275 (ocall V 7 [(.agg [(.int .i64 p4), (.int .i64 p5), (.rs (1, 0) p10), (.int .i64 p6), (.rs (2, 0) p11)]), (.str s276)] fun x277 l278 =>
         asTup x277 fun l279 => unc l279 fun x280 l281 => asAgg x280 fun l282 => unc l282 fun x283 l284 => asI .i64 x283 fun n285 => unc l284 fun x286 l287 => asI .i64 x286 fun n288 => unc l287 fun x289 l290 => asOs (1, 0) x289 fun l291 => unc l290 fun x292 l293 => asI .i64 x292 fun n294 => unc l293 fun x295 l296 => asOs (2, 0) x295 fun l297 => unn l296 (unc l281 fun x298 l299 => asB x298 fun b300 => unn l299 (unn l278 (br b300
                         (ocall V 9 [(.int .i64 p3)] fun x301 l302 =>
                          asS x301 fun s303 => unn l302 (grd (decide (ni (List.length (p7 ++ [D.str s303])) ≤ LIM)) (nam (p7 ++ [D.str s303]) fun l304 =>
                            Llaws_FnWay_10v2 p0 p1 p2 (IntKind.wrap IntKind.i64 (p3 + 1)) n285 n288 n294 l304 p8 p9 l291 l297)))
                         (Llaws_FnWay_10v2 p0 p1 p2 (IntKind.wrap IntKind.i64 (p3 + 1)) p4 p5 p6 p7 p8 p9 p10 p11))))))
      (br (decide (n273 < 120))
       (ocall V 10 [(.agg [(.int .i64 p4), (.int .i64 p5), (.rs (1, 0) p10), (.int .i64 p6), (.rs (2, 0) p11)])] fun x305 l306 =>
        asOs (2, 0) x305 fun l307 => unn l306 (grd (decide (ni (List.length (part p9 (some (p1, p2)) ++ l307)) ≤ LIM)) (nam (part p9 (some (p1, p2)) ++ l307) fun l308 =>
          Llaws_FnWay_10v1 p0 (IntKind.wrap IntKind.i64 (p3 + 1)) p4 p5 p6 p7 p8 l308 p10 p11)))
       (br (decide (n273 < 230))
        (br (decide (ni p2 > 0))
         (grd (!decide (ni p2 = 0)) (grd (decide (0 ≤ Int.tmod n273 (ni p2)) && decide (Int.tmod n273 (ni p2) < ni p2) && decide (p1 + p2 ≤ List.length p9)) (oget p9 (p1 + Int.toNat (Int.tmod n273 (ni p2))) fun x309 =>
          asAgg x309 fun l310 => unc l310 fun x311 l312 => asI .i64 x311 fun n313 => unc l312 fun x314 l315 => asS x314 fun s316 => unn l315 (ocall V 11 [(.agg [(.int .i64 p4), (.int .i64 p5), (.rs (1, 0) p10), (.int .i64 p6), (.rs (2, 0) p11)]), (.agg [(.int .i64 n313), (.str s316)])] fun x317 l318 =>
                asTup x317 fun l319 => unc l319 fun x320 l321 => asAgg x320 fun l322 => unc l322 fun x323 l324 => asI .i64 x323 fun n325 => unc l324 fun x326 l327 => asI .i64 x326 fun n328 => unc l327 fun x329 l330 => asOs (1, 0) x329 fun l331 => unc l330 fun x332 l333 => asI .i64 x332 fun n334 => unc l333 fun x335 l336 => asOs (2, 0) x335 fun l337 => unn l336 (unc l321 fun x338 l339 => asOs (1, 0) x338 fun l340 => unn l339 (unn l318 (grd (decide (ni (List.length (p8 ++ l340)) ≤ LIM)) (nam (p8 ++ l340) fun l341 =>
                                Llaws_FnWay_10v2 p0 p1 p2 (IntKind.wrap IntKind.i64 (p3 + 1)) n325 n328 n334 p7 l341 p9 l331 l337))))))))
         (br (decide (ni p2 > 0))
          (grd (!decide (2 = 0)) (ocall V 12 [(.agg [(.int .i64 p4), (.int .i64 p5), (.rs (1, 0) p10), (.int .i64 p6), (.rs (2, 0) p11)]), (.int .i64 (IntKind.wrap IntKind.i64 (p6 - Int.tmod n273 (2))))] fun x342 l343 =>
           asTup x342 fun l344 => unc l344 fun x345 l346 => asAgg x345 fun l347 => unc l347 fun x348 l349 => asI .i64 x348 fun n350 => unc l349 fun x351 l352 => asI .i64 x351 fun n353 => unc l352 fun x354 l355 => asOs (1, 0) x354 fun l356 => unc l355 fun x357 l358 => asI .i64 x357 fun n359 => unc l358 fun x360 l361 => asOs (2, 0) x360 fun l362 => unn l361 (unc l346 fun x363 l364 => asB x363 fun _ => unn l364 (unn l343 (grd (cutOkX p2 (List.length p9 - p1) (some (1)) none) (Llaws_FnWay_10v2 p0 (p1 + Int.toNat (1)) (p2 - Int.toNat (1)) (IntKind.wrap IntKind.i64 (p3 + 1)) n350 n353 n359 p7 p8 p9 l356 l362))))))
          (Llaws_FnWay_10v2 p0 p1 p2 (IntKind.wrap IntKind.i64 (p3 + 1)) p4 p5 p6 p7 p8 p9 p10 p11)))
        (br (decide (ni p2 > 0))
         (grd (!decide (2 = 0)) (ocall V 12 [(.agg [(.int .i64 p4), (.int .i64 p5), (.rs (1, 0) p10), (.int .i64 p6), (.rs (2, 0) p11)]), (.int .i64 (IntKind.wrap IntKind.i64 (p6 - Int.tmod n273 (2))))] fun x366 l367 =>
          asTup x366 fun l368 => unc l368 fun x369 l370 => asAgg x369 fun l371 => unc l371 fun x372 l373 => asI .i64 x372 fun n374 => unc l373 fun x375 l376 => asI .i64 x375 fun n377 => unc l376 fun x378 l379 => asOs (1, 0) x378 fun l380 => unc l379 fun x381 l382 => asI .i64 x381 fun n383 => unc l382 fun x384 l385 => asOs (2, 0) x384 fun l386 => unn l385 (unc l370 fun x387 l388 => asB x387 fun _ => unn l388 (unn l367 (grd (cutOkX p2 (List.length p9 - p1) (some (1)) none) (Llaws_FnWay_10v2 p0 (p1 + Int.toNat (1)) (p2 - Int.toNat (1)) (IntKind.wrap IntKind.i64 (p3 + 1)) n374 n377 n383 p7 p8 p9 l380 l386))))))
         (Llaws_FnWay_10v2 p0 p1 p2 (IntKind.wrap IntKind.i64 (p3 + 1)) p4 p5 p6 p7 p8 p9 p10 p11))))))
   (br (decide (ni (List.length p8) > ni (List.length p7)))
    (some ((.bool false), []))
    (grd (cutOk (List.length p7) none (some (ni (List.length p8)))) (ocall V 13 [(.rs (1, 0) p8), (.rs (1, 0) (part p7 (some (0, Int.toNat (ni (List.length p8))))))] fun x390 l391 =>
     asB x390 fun b392 => unn l391 (br (!b392)
       (some ((.bool false), []))
       (Llaws_FnWay_31v1 (0) p4 p5 p6 p7 p8 p10 p11))))) := by
  exact (Rn_eq _ _ _).trans (by kernel_rfl)
theorem Llaws_FnWay_35v1_eq (p0 : Int) (p1 : Int) (p2 : Int) (p3 : Int) (p4 : Int) (p5 : List D) (p6 : List D) (p7 : List D) (p8 : List D) (p9 : List D) : Llaws_FnWay_35v1 p0 p1 p2 p3 p4 p5 p6 p7 p8 p9 =
  br (decide (p1 < ni (List.length p7)))
   (grd (decide (0 ≤ p1) && decide (p1 < ni (List.length p7))) (oget p7 (Int.toNat p1) fun x462 =>
    asAgg x462 fun l463 => unc l463 fun x464 l465 => asI .i64 x464 fun n466 => unc l465 fun x467 l468 => asS x467 fun s469 => unn l468 (ocall V 11 [(.agg [(.int .i64 p2), (.int .i64 p3), (.rs (1, 0) p8), (.int .i64 p4), (.rs (2, 0) p9)]), (.agg [(.int .i64 n466), (.str s469)])] fun x470 l471 =>
          asTup x470 fun l472 => unc l472 fun x473 l474 => asAgg x473 fun l475 => unc l475 fun x476 l477 => asI .i64 x476 fun n478 => unc l477 fun x479 l480 => asI .i64 x479 fun n481 => unc l480 fun x482 l483 => asOs (1, 0) x482 fun l484 => unc l483 fun x485 l486 => asI .i64 x485 fun n487 => unc l486 fun x488 l489 => asOs (2, 0) x488 fun l490 => unn l489 (unc l474 fun x491 l492 => asOs (1, 0) x491 fun l493 => unn l492 (unn l471 (grd (decide (ni (List.length (p6 ++ l493)) ≤ LIM)) (nam (p6 ++ l493) fun l494 =>
                          Llaws_FnWay_35v1 p0 (IntKind.wrap IntKind.i64 (p1 + 1)) n478 n481 n487 p5 l494 p7 l484 l490)))))))
   (ocall V 12 [(.agg [(.int .i64 p2), (.int .i64 p3), (.rs (1, 0) p8), (.int .i64 p4), (.rs (2, 0) p9)]), (.int .i64 p4)] fun x495 l496 =>
    asTup x495 fun l497 => unc l497 fun x498 l499 => asAgg x498 fun l500 => unc l500 fun x501 l502 => asI .i64 x501 fun n503 => unc l502 fun x504 l505 => asI .i64 x504 fun n506 => unc l505 fun x507 l508 => asOs (1, 0) x507 fun l509 => unc l508 fun x510 l511 => asI .i64 x510 fun n512 => unc l511 fun x513 l514 => asOs (2, 0) x513 fun l515 => unn l514 (unc l499 fun x516 l517 => asB x516 fun _ => unn l517 (unn l496 (Llaws_FnWay_31v1 (IntKind.wrap IntKind.i64 (p0 + 1)) n503 n506 n512 p5 p6 l509 l515)))) := by
  exact (Rn_eq _ _ _).trans (by kernel_rfl)
theorem eimpl_LinkAck (a0_0 : Int) (a0_1 : Int) (a0_2 : List D) (a0_3 : Int) (a0_4 : List D) (a1_ : Int) : V 12 [.agg [.int .i64 a0_0, .int .i64 a0_1, .rs (1, 0) a0_2, .int .i64 a0_3, .rs (2, 0) a0_4], .int .i64 a1_] =
  ocall V 17 [(.agg [(.int .i64 a0_0), (.int .i64 a0_1), (.rs (1, 0) a0_2), (.int .i64 a0_3), (.rs (2, 0) a0_4)])] fun x0 l1 =>
   asB x0 fun b2 => unn l1 (br (!b2)
     (some ((.tup [(.agg [(.int .i64 (0)), (.int .i64 (0)), (.os (1, 0) []), (.int .i64 (0)), (.os (2, 0) [])]), (.bool false)]), []))
     (ocall V 28 [(.agg [(.int .i64 a0_0), (.int .i64 a0_1), (.rs (1, 0) a0_2), (.int .i64 a0_3), (.rs (2, 0) a0_4)])] fun x3 l4 =>
      asAgg x3 fun l5 => unc l5 fun x6 l7 => asI .i64 x6 fun n8 => unc l7 fun x9 l10 => asI .i64 x9 fun n11 => unc l10 fun x12 l13 => asOs (1, 0) x12 fun l14 => unc l13 fun x15 l16 => asI .i64 x15 fun n17 => unc l16 fun x18 l19 => asOs (2, 0) x18 fun l20 => unn l19 (unn l4 (br (decide (a1_ ≤ a0_1))
                  (some ((.tup [(.agg [(.int .i64 n8), (.int .i64 n11), (.os (1, 0) l14), (.int .i64 n17), (.os (2, 0) l20)]), (.bool false)]), []))
                  (br (decide (a1_ > a0_3))
                   (some ((.tup [(.agg [(.int .i64 n8), (.int .i64 n11), (.os (1, 0) l14), (.int .i64 n17), (.os (2, 0) l20)]), (.bool false)]), []))
                   (grd (cutOk (List.length l14) (some (IntKind.wrap IntKind.i64 (a1_ - a0_1))) none) (ocall V 34 [(.rs (1, 0) (part l14 (some (Int.toNat (IntKind.wrap IntKind.i64 (a1_ - a0_1)), List.length l14 - Int.toNat (IntKind.wrap IntKind.i64 (a1_ - a0_1))))))] fun x21 l22 =>
                    asOs (1, 0) x21 fun l23 => unn l22 (some ((.tup [(.agg [(.int .i64 n8), (.int .i64 a1_), (.os (1, 0) l23), (.int .i64 n17), (.os (2, 0) l20)]), (.bool true)]), []))))))))) := by
  exact (Vn_eq Try.func12 rfl _).trans (by kernel_rfl)
theorem Limpl_LinkShow_5_eq (p0 : List D) (p1 : Int) (p2 : Int) (p3 : Int) (p4 : Int) (p5 : List D) (p6 : Int) (p7 : List D) (p8 : List D) : Limpl_LinkShow_5 p0 p1 p2 p3 p4 p5 p6 p7 p8 =
  br (decide (p2 < p1))
   (grd (decide (0 ≤ p2) && decide (p2 < ni (List.length p0))) (oget p0 (Int.toNat p2) fun x3 =>
    asS x3 fun s4 => grd (decide (ni (List.length (p8 ++ [D.agg [D.int IntKind.i64 (IntKind.wrap IntKind.i64 (p4 + p2)), D.str s4]])) ≤ LIM)) (nam (p8 ++ [D.agg [D.int IntKind.i64 (IntKind.wrap IntKind.i64 (p4 + p2)), D.str s4]]) fun l5 =>
      Limpl_LinkShow_5 p0 p1 (IntKind.wrap IntKind.i64 (p2 + 1)) p3 p4 p5 p6 p7 l5)))
   (some ((.os (2, 0) p8), [])) := by
  exact (Rn_eq _ _ _).trans (by kernel_rfl)
theorem elaws_at (a0_ : List D) (a1_ : Int) : V 8 [.rs (1, 0) a0_, .int .i64 a1_] =
  br (decide (a1_ < ni (List.length a0_)))
   (grd (decide (0 ≤ a1_) && decide (a1_ < ni (List.length a0_))) (oget a0_ (Int.toNat a1_) fun x0 =>
    asI .u8 x0 fun n1 => some ((.int .i64 (IntKind.wrap IntKind.i64 n1)), [])))
   (grd (!decide (256 = 0)) (some ((.int .i64 (Int.tmod (IntKind.wrap IntKind.i64 (IntKind.wrap IntKind.i64 (a1_ * 7) + ni (List.length a0_))) (256))), []))) := by
  exact (Vn_eq Try.func8 rfl _).trans (by kernel_rfl)
theorem eimpl_LinkTake_1 (a0_0 : Int) (a0_1 : ByteArray) (a1_ : Int) : V 30 [.agg [.int .i64 a0_0, .str a0_1], .int .i64 a1_] =
  some ((.int .i64 (IntKind.wrap IntKind.i64 (a0_0 - a1_))), []) := by
  exact (Vn_eq Try.func30 rfl _).trans (by kernel_rfl)
theorem elaws_big (a0_ : List D) : V 6 [.rs (1, 0) a0_] =
  some ((.bool (decide (ni (List.length a0_) > 1048576))), []) := by
  exact (Vn_eq Try.func6 rfl _).trans (by kernel_rfl)

end Go.Eng
/-! the functions as the interpreter has them -/
/-! what the functions on links come to -/
namespace Go.Eng
open Go.Proofs Go.Proofs.Try

theorem strEq_refl (s : ByteArray) : strEq s s = true := by simp [strEq]

structure Pc where
  no : Int
  text : ByteArray
structure Lk where
  sent : Int
  acked : Int
  queue : List ByteArray
  got : Int
  held : List Pc
noncomputable def eP (p : Pc) : D := .agg [.int .i64 p.no, .str p.text]
theorem eP_mk (p : Pc) : eP p = .agg [.int .i64 p.no, .str p.text] := rfl
/-- a link, its rows lent, or owned -/
noncomputable def eK (l : Lk) : D := .agg [.int .i64 l.sent, .int .i64 l.acked, .rs (1, 0) (l.queue.map .str), .int .i64 l.got, .rs (2, 0) (l.held.map eP)]
noncomputable def oK (l : Lk) : D := .agg [.int .i64 l.sent, .int .i64 l.acked, .os (1, 0) (l.queue.map .str), .int .i64 l.got, .os (2, 0) (l.held.map eP)]

theorem v_within (n lo hi : Int) : V 31 [.int .i64 n, .int .i64 lo, .int .i64 hi] = some (.bool (wi n lo hi), []) := (eimpl_within n lo hi).trans within_eq
/-! ## sizes -/
/-- what comes of the arguments -/
structure Lk.Fits (l : Lk) : Prop where
  q : ∀ s ∈ l.queue, s.size ≤ 140737488351232
  ql : l.queue.length < 4611686018427387904
  h : ∀ s ∈ l.held, s.text.size ≤ 140737488351232
  hl : l.held.length < 4611686018427387904
/-! ## copies -/
/-! ## the same -/
/-! ## LinkOk -/
noncomputable def prevOk (h : List Pc) : Nat → Pc → Bool
  | 0, _ => true
  | j + 1, p => match h[j]? with | some q => !decide (q.no ≥ p.no) | none => true
noncomputable def heldFrom (l : Lk) : Nat → Nat → Bool
  | _, 0 => true
  | i, k + 1 => (match l.held[i]? with | some p => wi p.no (l.got + 1) (mnI (l.got + 4) l.sent - 1) && prevOk l.held i p | none => true) && heldFrom l (i + 1) k
noncomputable def okK (l : Lk) : Bool := wi l.sent 0 100000 && (wi l.got 0 l.sent && (wi l.acked 0 l.got && (((l.queue.length : Int) == l.sent - l.acked) && (!decide ((l.queue.length : Int) > 30) && heldFrom l 0 l.held.length))))

theorem mnI_le (a b : Int) : mnI a b ≤ a ∧ mnI a b ≤ b ∧ (mnI a b = a ∨ mnI a b = b) := by unfold mnI; split <;> omega

theorem impl_okK_loop {l : Lk} (hl : l.held.length < 4611686018427387904) (h1 : 0 ≤ l.got) (h2 : l.got ≤ 100000) (h3 : 0 ≤ l.sent) (h4 : l.sent ≤ 100000) : ∀ (k i : Nat), i + k = l.held.length → Limpl_LinkOk_4 (l.held.map eP) (l.held.length : Int) (i : Int) l.sent l.acked (l.queue.map .str) l.got (l.held.map eP) = some (.bool (heldFrom l i k), [])
  | 0, i, hi => by
    rw [Limpl_LinkOk_4_eq, br_not (decide_eq_false (by omega))]; rfl
  | k + 1, i, hi => by
    obtain ⟨x, hx⟩ := get_of_lt (l := l.held) (i := i) (by omega)
    have ih := impl_okK_loop hl h1 h2 h3 h4 k (i + 1) (by omega)
    have hmn := mnI_le (l.got + 4) l.sent
    rw [Limpl_LinkOk_4_eq, br_of (decide_eq_true (by omega)), grd_of (by rw [List.length_map]; exact in_idx (by omega)), Int.toNat_natCast, oget_map hx, eP_mk x, asAgg_agg, unc_cons, asI_int, unc_cons, asS_str, unn_nil, w64 (n := l.got + 4) (by omega) (by omega), w64 (n := l.got + 1) (by omega) (by omega), w64 (n := mnI (l.got + 4) l.sent - 1) (by omega) (by omega), ocall_some (v_within _ _ _), asB_bool, unn_nil, w64s (by omega)]
    simp only [heldFrom, hx]
    cases wi x.no (l.got + 1) (mnI (l.got + 4) l.sent - 1) with
    | false => rfl
    | true =>
      rw [Bool.not_true, br_false]
      cases i with
      | zero => rw [br_not (by simp)]; simp only [prevOk, Bool.true_and, Bool.and_self]; exact ih
      | succ j =>
        obtain ⟨y, hy⟩ := get_of_lt (l := l.held) (i := j) (by omega)
        rw [br_of (by simp), w64 (n := ((j + 1 : Nat) : Int) - 1) (by omega) (by omega), show ((j + 1 : Nat) : Int) - 1 = (j : Int) by omega, grd_of (by rw [List.length_map]; exact in_idx (by omega)), Int.toNat_natCast, oget_map hy, eP_mk y, asAgg_agg, oget_lit0, asI_int]
        simp only [prevOk, hy]
        cases decide (y.no ≥ x.no) with
        | true => rfl
        | false => rw [br_false]; simpa using ih
theorem v_impl_okK {l : Lk} (_ : l.queue.length < 4611686018427387904) (hl : l.held.length < 4611686018427387904) : V 17 [eK l] = some (.bool (okK l), []) := by
  unfold eK okK
  rw [eimpl_LinkOk, ocall_some (v_within _ _ _), asB_bool, unn_nil]
  cases h1 : wi l.sent 0 100000 with
  | false => rfl
  | true =>
    rw [Bool.not_true, br_false, ocall_some (v_within _ _ _), asB_bool, unn_nil]
    cases h2 : wi l.got 0 l.sent with
    | false => rfl
    | true =>
      rw [Bool.not_true, br_false, ocall_some (v_within _ _ _), asB_bool, unn_nil]
      cases h3 : wi l.acked 0 l.got with
      | false => rfl
      | true =>
        simp only [wi, Bool.and_eq_true, decide_eq_true_eq] at h1 h2 h3
        rw [Bool.not_true, br_false, w64 (n := l.sent - l.acked) (by omega) (by omega)]
        simp only [ni, List.length_map, bne]
        cases ((l.queue.length : Int) == l.sent - l.acked) with
        | false => rfl
        | true =>
          rw [Bool.not_true, br_false]
          cases decide ((l.queue.length : Int) > 30) with
          | true => rfl
          | false =>
            rw [br_false]
            simpa using impl_okK_loop hl (by omega) (by omega) (by omega) (by omega) l.held.length 0 (by omega)

/-! ## the arguments -/
end Go.Eng
/-! what the functions on links come to, second part -/
namespace Go.Eng
open Go.Proofs Go.Proofs.Try

/-! ## marks -/
/-! ## LinkShow -/
end Go.Eng
/-! what the functions on links come to, third part -/
namespace Go.Eng
open Go.Proofs Go.Proofs.Try

noncomputable def showFrom (l : Lk) : Nat → Nat → List Pc
  | _, 0 => []
  | i, k + 1 => (match l.queue[i]? with | some s => [⟨IntKind.wrap .i64 (l.acked + (i : Int)), s⟩] | none => []) ++ showFrom l (i + 1) k
theorem showFrom_length (l : Lk) : ∀ k i, (showFrom l i k).length ≤ k
  | 0, _ => by simp [showFrom]
  | k + 1, i => by
    have := showFrom_length l k (i + 1)
    simp only [showFrom]; split <;> simp <;> omega
noncomputable def showK (l : Lk) : List Pc := if okK l then showFrom l 0 (min 4 l.queue.length) else []
theorem impl_show_loop {l : Lk} {m : Nat} (hm : m = min 4 l.queue.length) : ∀ (k i : Nat), i + k = m → ∀ acc : List Pc, acc.length ≤ i → Limpl_LinkShow_5 ((l.queue.take m).map .str) (m : Int) (i : Int) l.sent l.acked (l.queue.map .str) l.got (l.held.map eP) (acc.map eP) = some (.os (2, 0) ((acc ++ showFrom l i k).map eP), [])
  | 0, i, hi, acc, ha => by
    rw [Limpl_LinkShow_5_eq, br_not (decide_eq_false (by omega))]; simp [showFrom]
  | k + 1, i, hi, acc, ha => by
    obtain ⟨x, hx⟩ := get_of_lt (l := l.queue) (i := i) (by omega)
    have hlen : (l.queue.take m).length = m := by rw [List.length_take]; omega
    have hx' : (l.queue.take m)[i]? = some x := by rw [List.getElem?_take_of_lt (by omega)]; exact hx
    rw [Limpl_LinkShow_5_eq, br_of (decide_eq_true (by omega)), grd_of (by rw [List.length_map, hlen]; exact in_idx (by omega)), Int.toNat_natCast, oget_map hx', asS_str, grd_of (decide_eq_true (by simp only [ni, LIM_eq, List.length_append, List.length_map, List.length_cons, List.length_nil]; omega)), nam_eq, w64s (by omega)]
    have ih := impl_show_loop hm k (i + 1) (by omega) (acc ++ [⟨IntKind.wrap .i64 (l.acked + (i : Int)), x⟩]) (by simp; omega)
    simp only [showFrom, hx]
    simp only [List.map_append, List.map_cons, List.map_nil, List.append_assoc, List.cons_append, List.nil_append, eP] at ih ⊢
    exact ih
theorem v_impl_show {l : Lk} (hq : l.queue.length < 4611686018427387904) (hl : l.held.length < 4611686018427387904) : V 10 [eK l] = some (.os (2, 0) ((showK l).map eP), []) := by
  have hs := v_impl_okK hq hl
  unfold eK at hs ⊢
  rw [eimpl_LinkShow, ocall_some hs, asB_bool, unn_nil]
  unfold showK
  cases okK l with
  | false => rfl
  | true =>
    have hm : mnI 4 (ni (l.queue.map D.str).length) = ((min 4 l.queue.length : Nat) : Int) := by
      simp only [ni, List.length_map, mnI]; split <;> omega
    rw [Bool.not_true, br_false, hm, grd_of (by simp [cutOk]; omega)]
    have := impl_show_loop (l := l) rfl (min 4 l.queue.length) 0 (by omega) [] (by simp)
    simp only [cutH, Int.toNat_natCast, ← List.map_take]
    have hlen : (l.queue.take (min 4 l.queue.length)).length = min 4 l.queue.length := by rw [List.length_take]; omega
    simp only [ni, List.length_map, hlen]
    simpa using this

end Go.Eng
/-! what the functions on links come to, fourth part: LinkAck, LinkSend -/
namespace Go.Eng
open Go.Proofs Go.Proofs.Try

noncomputable def zK : Lk := ⟨0, 0, [], 0, []⟩
theorem v_cloneS {l : List D} (hl : l.length ≤ 4294967296) : V 34 [.rs (1, 0) l] = some (.os (1, 0) l, []) := by
  rw [eslices_Clone_string_string, grd_of (decide_eq_true (by simp only [ni, LIM_eq, List.nil_append]; omega))]
  exact nilb_clone _ _
theorem v_cloneP {l : List D} (hl : l.length ≤ 4294967296) : V 33 [.rs (2, 0) l] = some (.os (2, 0) l, []) := by
  rw [eslices_Clone_impl_Piece_impl_Piece, grd_of (decide_eq_true (by simp only [ni, LIM_eq, List.nil_append]; omega))]
  exact nilb_clone _ _
theorem v_copyK {l : Lk} (h1 : l.queue.length ≤ 4294967296) (h2 : l.held.length ≤ 4294967296) : V 28 [eK l] = some (oK l, []) := by
  unfold eK oK
  rw [eimpl_copyLink, ocall_some (v_cloneS (by rw [List.length_map]; exact h1)), asOs_os, unn_nil, ocall_some (v_cloneP (by rw [List.length_map]; exact h2)), asOs_os, unn_nil]
theorem okK_facts {l : Lk} (h : okK l = true) : 0 ≤ l.acked ∧ l.acked ≤ l.got ∧ l.got ≤ l.sent ∧ l.sent ≤ 100000 ∧ (l.queue.length : Int) = l.sent - l.acked ∧ (l.queue.length : Int) ≤ 30 := by
  simp only [okK, wi, Bool.and_eq_true, decide_eq_true_eq, beq_iff_eq, Bool.not_eq_true', decide_eq_false_iff_not] at h
  omega

noncomputable def ackL (n : Int) (l : Lk) : Lk := ⟨l.sent, n, l.queue.drop (n - l.acked).toNat, l.got, l.held⟩
noncomputable def ackF (n : Int) (l : Lk) : Lk × Bool := if okK l then if wi n (l.acked + 1) l.got then (ackL n l, true) else (l, false) else (zK, false)
theorem v_impl_ack {l : Lk} (h1 : l.queue.length ≤ 4294967296) (h2 : l.held.length ≤ 4294967296) (n : Int) : V 12 [eK l, .int .i64 n] = some (.tup [oK (ackF n l).1, .bool (ackF n l).2], []) := by
  have hs := v_impl_okK (l := l) (by omega) (by omega)
  have hc := v_copyK h1 h2
  have e : V 12 [eK l, .int .i64 n] = _ := eimpl_LinkAck l.sent l.acked (l.queue.map .str) l.got (l.held.map eP) n
  rw [e]
  unfold eK at hs hc
  unfold oK at hc
  rw [ocall_some hs, asB_bool, unn_nil]
  unfold ackF
  cases hok : okK l with
  | false => rfl
  | true =>
    have hf := okK_facts hok
    rw [Bool.not_true, br_false, ocall_some hc, asAgg_agg, unc_cons, asI_int, unc_cons, asI_int, unc_cons, asOs_os, unc_cons, asI_int, unc_cons, asOs_os, unn_nil, unn_nil]
    by_cases ha : n ≤ l.acked
    · rw [br_of (decide_eq_true ha), show wi n (l.acked + 1) l.got = false by simp [wi]; omega]; rfl
    · rw [br_not (decide_eq_false ha)]
      by_cases hb : n > l.got
      · rw [br_of (decide_eq_true hb), show wi n (l.acked + 1) l.got = false by simp [wi]; omega]; rfl
      · rw [br_not (decide_eq_false hb), show wi n (l.acked + 1) l.got = true by simp [wi]; omega, w64 (n := n - l.acked) (by omega) (by omega), grd_of (by simp [cutOk]; omega)]
        have hp : part (l.queue.map D.str) (some ((n - l.acked).toNat, (List.map D.str l.queue).length - (n - l.acked).toNat)) = (l.queue.drop (n - l.acked).toNat).map .str := by
          simp only [part, ← List.map_drop]
          exact List.take_of_length_le (by simp)
        rw [hp, ocall_some (v_cloneS (by simp; omega)), asOs_os, unn_nil]
        rfl

end Go.Eng
/-! the laws on LinkAck and LinkSend -/
namespace Go.Eng
open Go.Proofs Go.Proofs.Try

end Go.Eng
/-! the law on LinkSend -/
namespace Go.Eng
open Go.Proofs Go.Proofs.Try

noncomputable def sendL (s : ByteArray) (l : Lk) : Lk := ⟨IntKind.wrap .i64 (l.sent + 1), l.acked, l.queue ++ [s], l.got, l.held⟩
noncomputable def sendF (s : ByteArray) (l : Lk) : Lk × Bool := if okK l then if okK (sendL s l) then (sendL s l, true) else (l, false) else (zK, false)
theorem v_impl_send {l : Lk} (h1 : l.queue.length < 4294967296) (h2 : l.held.length ≤ 4294967296) (s : ByteArray) : V 7 [eK l, .str s] = some (.tup [oK (sendF s l).1, .bool (sendF s l).2], []) := by
  have hs := v_impl_okK (l := l) (by omega) (by omega)
  have hs2 := v_impl_okK (l := sendL s l) (by simp only [sendL, List.length_append, List.length_cons, List.length_nil]; omega) (by simp only [sendL]; omega)
  have hc := v_copyK (l := l) (by omega) h2
  have e : V 7 [eK l, .str s] = _ := eimpl_LinkSend l.sent l.acked (l.queue.map .str) l.got (l.held.map eP) s
  rw [e]
  have hq : l.queue.map D.str ++ [D.str s] = (l.queue ++ [s]).map D.str := by simp
  unfold eK at hs hs2 hc
  simp only [sendL] at hs2
  unfold oK at hc
  rw [ocall_some hs, asB_bool, unn_nil]
  unfold sendF
  cases hok : okK l with
  | false => rfl
  | true =>
    rw [Bool.not_true, br_false, ocall_some hc, asAgg_agg, unc_cons, asI_int, unc_cons, asI_int, unc_cons, asOs_os, unc_cons, asI_int, unc_cons, asOs_os, unn_nil, unn_nil, hq, grd_of (decide_eq_true (by simp only [ni, LIM_eq, List.length_append, List.length_map, List.length_cons, List.length_nil]; omega)), nam_eq, ocall_some hs2, asB_bool, unn_nil]
    simp only [if_true]
    cases hok2 : okK (sendL s l) with
    | true =>
      simp only [sendL] at hok2
      rw [hok2, Bool.not_true, br_false]
      rfl
    | false =>
      simp only [sendL] at hok2
      rw [hok2, Bool.not_false, br_true, ocall_some hc, asAgg_agg, unc_cons, asI_int, unc_cons, asI_int, unc_cons, asOs_os, unc_cons, asI_int, unc_cons, asOs_os, unn_nil, unn_nil]
      rfl

end Go.Eng
/-! what LinkTake of the reference comes to -/
namespace Go.Eng
open Go.Proofs Go.Proofs.Try

noncomputable def holdF (p : Pc) : List Pc → List Pc
  | [] => [p]
  | q :: r => if q.no ≥ p.no then (if q.no > p.no then p :: q :: r else q :: r) else q :: holdF p r
noncomputable def popF : Int → List Pc → List ByteArray × Int × List Pc
  | g, [] => ([], g, [])
  | g, q :: r => if q.no = g then (q.text :: (popF (g + 1) r).1, (popF (g + 1) r).2.1, (popF (g + 1) r).2.2) else ([], g, q :: r)
theorem popF_facts : ∀ (l : List Pc) (g : Int), g ≤ (popF g l).2.1 ∧ (popF g l).2.1 ≤ g + l.length ∧ (popF g l).2.2.length ≤ l.length ∧ ((popF g l).1.length : Int) = (popF g l).2.1 - g
  | [], g => by simp [popF]
  | q :: r, g => by
    have := popF_facts r (g + 1)
    simp only [popF]
    split
    · simp; omega
    · simp; omega
noncomputable def upL (l : Lk) (p : Pc) : Lk × List ByteArray := ({ l with got := (popF (l.got + 1) l.held).2.1, held := (popF (l.got + 1) l.held).2.2 }, p.text :: (popF (l.got + 1) l.held).1)
noncomputable def takeF (l : Lk) (p : Pc) : Lk × List ByteArray :=
  if okK l then (if wi p.no l.got (mnI (l.got + 4) l.sent - 1) then (if p.no > l.got then ({ l with held := holdF p l.held }, []) else upL l p) else (l, [])) else (zK, [])
end Go.Eng
/-! slices.Insert at a row of pieces: the library's own text, walked: four roads -/
namespace Go.Eng
open Go.Proofs Go.Proofs.Try Go.Lib

theorem insInfo : ∃ i, Try.prog.info? 36 = some i ∧ i.size = 2 ∧ i.bytes = 24 ∧ i.zero = some (.agg #[.int .i64 0, .string ⟨#[]⟩]) := ⟨_, rfl, rfl, rfl, rfl⟩
theorem oneCell_of {v : Value} (h : notAgg v) : v.oneCell' = true := by cases v <;> first | rfl | exact h.elim
/-- copy over elements of so many cells -/
theorem run_copyN {P : Program} (w : World) (dT sT ty elem : TypeId) {sz : Nat} (b o dLen dCap : Nat) (a : Addr) (sLen sCap : Nat) (cs : List Value)
    (hu : P.underlying dT = some (.slice elem)) (hs : (P.info? elem).map (·.size) = some sz) {n : Nat} (hn : n = Nat.min sLen dLen) (hl : cs.length = n * sz)
    (hsrc : ∀ j v, cs[j]? = some v → w.cell? (a.add j) = some v) (hc : ∀ j, j < cs.length → (w.cell? ⟨b, o + j, none⟩).isSome = true) (hf : ∀ j, j < cs.length → w.frozen? ⟨b, o + j, none⟩ = false) (h1 : ∀ v ∈ cs, v.oneCell' = true) :
    (Builtin.copy_ #[dT, sT] ty #[.slice (some ⟨b, o, none⟩) dLen dCap, .slice (some a) sLen sCap]).run P w = .ok (goInt n) (w.setCells b o cs) := by
  have hld := run_loadCells_list (P := P) w a cs hsrc
  have hst := run_storeCells_cells (P := P) b o cs 0 w (by simpa using hc) (by simpa using hf) h1
  rw [hl] at hld
  cases hq : P.info? elem with
  | none => simp [hq] at hs
  | some i =>
    have hi : i.size = sz := by simpa [hq] using hs
    simp [Builtin.copy_, run_underlying hu, Builtin.lenOf, Builtin.firstCells, sizeOf, typeInfo, hq, hi, ← hn, hld, hst]
set_option maxHeartbeats 4000000 in
set_option maxRecDepth 100000 in
/-- at the end, no room -/
theorem ins_end_new (base : Option Addr) (n c : Nat) (va : Addr) (vc : Nat) (w : World) (v' : Value) (w1 : World)
    (hr : (Builtin.append_ #[25, 25] 25 #[.slice base n c, .slice (some va) 1 vc]).run Try.prog w = .ok v' w1) :
    Calls Try.prog 32 #[.slice base n c, .int .i64 n, .slice (some va) 1 vc] w fun e w' => e = .returned v' ∧ w' = w1 := by
  go_enter Try.func32, Try.ntmps32
  go_wp2_with (at_builtin; refine Lib.wpList_append_run _ rfl _ _ _ _ rfl _ _ rfl rfl _ _ hr ?_)
  all_goals (go_ret; exact ⟨rfl, rfl⟩)
set_option maxHeartbeats 4000000 in
set_option maxRecDepth 100000 in
/-- there is room, not at the end -/
theorem ins_shift (b off n c i : Nat) (va : Addr) (vc : Nat) (cs vs : List Value) (w : World) (hi : i < n) (hroom : n + 1 ≤ c) (hc63 : n ≤ 1000)
    (hov : ∀ lb cb, (callFunc 51 #[.slice (some va) 1 vc, .slice (some ⟨b, off + (i + 1) * 2, none⟩) lb cb]).run Try.prog w = .ok (.value (.bool false)) w)
    {k1 : Nat} (hcp1 : ∀ ty dc sc, (Builtin.copy_ #[25, 25] ty #[.slice (some ⟨b, off + (i + 1) * 2, none⟩) (n - i) dc, .slice (some ⟨b, off + i * 2, none⟩) (n + 1 - i) sc]).run Try.prog w.drew = .ok (goInt k1) (w.drew.setCells b (off + (i + 1) * 2) cs))
    {k2 : Nat} (hcp2 : ∀ W : World, (∀ x, W.cell? x = (w.drew.setCells b (off + (i + 1) * 2) cs).cell? x) → (∀ x, W.frozen? x = (w.drew.setCells b (off + (i + 1) * 2) cs).frozen? x) → ∀ ty dc, (Builtin.copy_ #[25, 25] ty #[.slice (some ⟨b, off + i * 2, none⟩) (n + 1 - i) dc, .slice (some va) 1 vc]).run Try.prog W = .ok (goInt k2) (W.setCells b (off + i * 2) vs)) :
    Calls Try.prog 32 #[.slice (some ⟨b, off, none⟩) n c, .int .i64 i, .slice (some va) 1 vc] w fun e w' => e = .returned (.slice (some ⟨b, off, none⟩) (n + 1) c) ∧ w' = (w.drew.setCells b (off + (i + 1) * 2) cs).setCells b (off + i * 2) vs := by
  have mixed : Try.prog.follows .mixedOrders = true := by kernel_rfl
  have hz2 : ¬ ((i : Int) = (n : Int)) := by omega
  have hw1 : IntKind.i64.wrap ((i : Int) + 1) = (i : Int) + 1 := by rw [IntKind.wrap_i64]; omega
  have hwn : IntKind.i64.wrap ((n : Int) + 1) = (n : Int) + 1 := by rw [IntKind.wrap_i64]; omega
  have hb1 : (0 : Int) ≤ (i : Int) + 1 := by omega
  have hin : i ≤ n := by omega
  have htn : ((i : Int) + 1).toNat = i + 1 := by omega
  have htn2 : ((n : Int) + 1).toNat = n + 1 := by omega
  have hb2 : ¬ (c = i + 1) := by omega
  have hb3 : (i : Int) ≤ (n : Int) + 1 := by omega
  have hb4 : ¬ (c = i) := by omega
  have hb5 : ¬ ((c : Int) < (n : Int) + 1) := by omega
  obtain ⟨W1, hW1⟩ : ∃ W1, W1 = w.drew.setCells b (off + (i + 1) * 2) cs := ⟨_, rfl⟩
  rw [← hW1] at hcp1 hcp2 ⊢
  go_enter Try.func32, Try.ntmps32
  go_wp2_with (first
    | (simp only [hov])
    | (at_builtin; refine wpList_copy_runI _ rfl _ _ 25 25 rfl _ _ rfl rfl (hcp2 _ (fun _ => rfl) (fun _ => rfl) _ _) ?_))
  go_region_law_o (refine step_copy_runI rfl _ _ 25 25 rfl _ _ (by simp [Act.eval, Act.put]) (by simp [Act.eval, Act.put]) (hcp1 _ _ _) ?_)
  go_wp2_with (at_builtin; refine wpList_copy_runI _ rfl _ _ 25 25 rfl _ _ rfl rfl (hcp2 _ (fun _ => rfl) (fun _ => rfl) _ _) ?_)
  go_ret
  first | exact ⟨rfl, rfl⟩ | exact ⟨rfl, by rw [hW1]⟩
set_option maxHeartbeats 4000000 in
set_option maxRecDepth 100000 in
/-- no room, not at the end -/
theorem ins_grow (b off n c i N G : Nat) (va : Addr) (vc : Nat) (cs vs : List Value) (w W1 : World) (hi : i < n) (hnc : n ≤ c) (hroom : c < n + 1) (hG : n + 1 ≤ G) (hc63 : G ≤ 9223372036854775807) (hn63 : n ≤ 1000)
    (hrz : ∀ ty, (Builtin.append_ #[25, 3] ty #[.slice (some ⟨b, off, none⟩) i c, .int .i64 ((n : Int) + 1 - (i : Int))]).run Try.prog w = .ok (.slice (some ⟨N, 0, none⟩) (n + 1) G) W1)
    {k1 : Nat} (hcpA : ∀ W : World, (∀ x, W.cell? x = W1.cell? x) → (∀ x, W.frozen? x = W1.frozen? x) → ∀ ty dc, (Builtin.copy_ #[25, 25] ty #[.slice (some ⟨N, i * 2, none⟩) (n + 1 - i) dc, .slice (some va) 1 vc]).run Try.prog W = .ok (goInt k1) (W.setCells N (i * 2) vs))
    {k2 : Nat} (hcpB : ∀ W : World, (∀ x, W.cell? x = (W1.setCells N (i * 2) vs).cell? x) → (∀ x, W.frozen? x = (W1.setCells N (i * 2) vs).frozen? x) → ∀ ty dc sc, (Builtin.copy_ #[25, 25] ty #[.slice (some ⟨N, (i + 1) * 2, none⟩) (n - i) dc, .slice (some ⟨b, off + i * 2, none⟩) (n - i) sc]).run Try.prog W = .ok (goInt k2) (W.setCells N ((i + 1) * 2) cs)) :
    Calls Try.prog 32 #[.slice (some ⟨b, off, none⟩) n c, .int .i64 i, .slice (some va) 1 vc] w fun e w' => e = .returned (.slice (some ⟨N, 0, none⟩) (n + 1) G) ∧ w' = ((W1.setCells N (i * 2) vs).drew.setCells N ((i + 1) * 2) cs) := by
  have mixed : Try.prog.follows .mixedOrders = true := by kernel_rfl
  have hz2 : ¬ ((i : Int) = (n : Int)) := by omega
  have hw1 : IntKind.i64.wrap ((i : Int) + 1) = (i : Int) + 1 := by rw [IntKind.wrap_i64]; omega
  have hwn : IntKind.i64.wrap ((n : Int) + 1) = (n : Int) + 1 := by rw [IntKind.wrap_i64]; omega
  have hwni : IntKind.i64.wrap ((n : Int) + 1 - (i : Int)) = (n : Int) + 1 - (i : Int) := by rw [IntKind.wrap_i64]; omega
  have hb1 : (0 : Int) ≤ (i : Int) + 1 := by omega
  have hin : i ≤ n := by omega
  have hic : i ≤ c := by omega
  have htn : ((i : Int) + 1).toNat = i + 1 := by omega
  have hb2 : ¬ (G = i + 1) := by omega
  have hb6 : ¬ (G = i) := by omega
  have hb3 : (i : Int) ≤ (n : Int) + 1 := by omega
  have hb3' : (i : Int) ≤ (n : Int) := by omega
  have hb4 : ¬ (c = i) := by omega
  have hb5 : (c : Int) < (n : Int) + 1 := by omega
  have hcpB' := fun ty dc sc => hcpB ((W1.setCells N (i * 2) vs).drew) (fun _ => rfl) (fun _ => rfl) ty dc sc
  go_enter Try.func32, Try.ntmps32
  go_wp2_with (first
    | (at_builtin; refine Lib.wpList_append_run _ rfl _ _ _ _ rfl _ _ rfl rfl _ _ (hrz _) ?_)
    | (at_builtin; refine wpList_copy_runI _ rfl _ _ 25 25 rfl _ _ rfl rfl (hcpA _ (fun _ => rfl) (fun _ => rfl) _ _) ?_))
  go_region_law_o (refine step_copy_runI rfl _ _ 25 25 rfl _ _ (by simp [Act.eval, Act.put]) (by simp [Act.eval, Act.put]) (hcpB _ (fun _ => rfl) (fun _ => rfl) _ _ _) ?_)
  go_wp2
  go_ret
  exact ⟨rfl, rfl⟩
end Go.Eng
/-! slices.Insert of one piece: what it comes to, told -/
namespace Go.Eng
open Go.Proofs Go.Proofs.Try Go.Lib
set_option maxHeartbeats 4000000

theorem cell_of {w : World} {b j : Nat} {c : Array Value} {ty : TypeId} {fr : Nat × Nat} (h : w.heap[b]? = some (.cells c ty fr)) (hj : j < c.size) : (w.cell? ⟨b, j, none⟩).isSome = true := by
  simp [World.cell?, h, hj]
theorem frz_of {w : World} {b j n : Nat} {c : Array Value} {ty : TypeId} {fr : Nat × Nat} (h : w.heap[b]? = some (.cells c ty fr)) (hu : unfr n fr) (hj : j < n) : w.frozen? ⟨b, j, none⟩ = false := by
  have := hu j hj
  simp only [World.frozen?, h]
  rw [Bool.and_eq_false_iff]
  by_cases h1 : fr.1 ≤ j
  · right; simp; omega
  · left; simpa using h1
theorem setCells_wr {w : World} {b lo : Nat} {vs : List Value} {c : Array Value} {ty : TypeId} {fr : Nat × Nat} (h : w.heap[b]? = some (.cells c ty fr)) (hu : unfr c.size fr) (hl : lo + vs.length ≤ c.size) (hv : ∀ v ∈ vs, notAgg v) : Wr b lo vs w (w.setCells b lo vs) := by
  obtain ⟨w', hr, hw⟩ := storeCells_run (P := Try.prog) (o := lo) vs 0 c w h hu (by omega) hv
  have := run_storeCells_cells (P := Try.prog) b lo vs 0 w (fun j hj => cell_of h (by omega)) (fun j hj => frz_of h hu (by omega)) (fun v hm => oneCell_of (hv v hm))
  rw [hr] at this
  injection this with _ e
  rw [Nat.add_zero] at e hw
  rw [← e]; exact hw
theorem els_split {w : World} {B : Nat → Prop} {z : Z} {fs : List D} : ∀ {es : List D} {fl : List Value} {o : List Res}, elsRep w B z (es ++ fs) fl o → ∃ f1 f2 o1 o2, fl = f1 ++ f2 ∧ o = o1 ++ o2 ∧ elsRep w B z es f1 o1 ∧ elsRep w B z fs f2 o2
  | [], fl, o, h => ⟨[], fl, [], o, rfl, rfl, ⟨rfl, rfl⟩, h⟩
  | e :: es, fl, o, h => by
    obtain ⟨vs, fr, o1, o2, rfl, rfl, h1, h2⟩ := h
    obtain ⟨f1, f2, p1, p2, rfl, rfl, h3, h4⟩ := els_split h2
    exact ⟨vs ++ f1, f2, o1 ++ p1, p2, by simp, by simp, ⟨vs, f1, o1, p1, rfl, rfl, h1, h3⟩, h4⟩
theorem os_rep {w : World} {B : Nat → Prop} {b off n cap : Nat} {c : Array Value} {ty : TypeId} {fr : Nat × Nat} {z : Z} {xs : List D} {fl : List Value} (hh : w.heap[b]? = some (.cells c ty fr)) (hu : unfz z c.size fr) (hc : off + cap * z.1 ≤ c.size) (hn : xs.length = n) (hcap : n ≤ cap) (he : elsRep w B z xs fl []) (hcell : cellsAt w b off fl) :
    repD w B (.os z xs) (.slice (some ⟨b, off, none⟩) n cap) [.arr b] := by
  simp only [repD]
  exact .inr ⟨b, off, cap, c, ty, fr, [], by rw [hn], by omega, hh, hu, fun _ => hc, repEs_of_els he hcell, rfl⟩
theorem wr_heap {b lo : Nat} {vs : List Value} {w w' : World} {c : Array Value} {ty : TypeId} {fr : Nat × Nat} (h : Wr b lo vs w w') (hh : w.heap[b]? = some (.cells c ty fr)) : ∃ c', w'.heap[b]? = some (.cells c' ty fr) ∧ c'.size = c.size := by
  obtain ⟨h1, h2, h3, h4, c0, ty0, fr0, c', h5, h6, h7, h8, h9⟩ := h
  rw [hh] at h5; cases h5
  exact ⟨c', h6, h7⟩
theorem wr_drew {b lo : Nat} {vs : List Value} {w w' : World} (h : Wr b lo vs w.drew w') : Wr b lo vs w w' := ⟨h.os, h.out, h.size, h.other, h.cells⟩
theorem wr_step {o : List Res} {w0 w w' : World} {b lo : Nat} {vs : List Value} (h : Chg o w0 w) (hw : Wr b lo vs w w') (hb : w0.heap.size ≤ b ∨ .arr b ∈ o) : Chg o w0 w' := by
  refine h.step hw.chg fun r hr => ?_
  rw [List.mem_singleton] at hr
  subst hr
  rcases hb with hb | hb
  · exact .inl hb
  · refine .inr ⟨List.mem_map.2 ⟨_, hb, rfl⟩, fun j hj => ⟨_, hb, rfl⟩⟩
/-- what slices.Insert has done -/
noncomputable def InsDone (w : World) (B : Nat → Prop) (o : List Res) (xs : List D) (v : Value) (w' : World) : Prop := ∃ b, repD w' B (.os (2, 0) xs) v [.arr b] ∧ Chg o w w' ∧ ¬ B b ∧ b < w'.heap.size ∧ okR w o (.arr b)
theorem ins_hov {w : World} {vb voff vc b off lb cb : Nat} {cv c : Array Value} {tyv ty : TypeId} {frv fr : Nat × Nat} (hne : vb ≠ b) (hv : w.heap[vb]? = some (.cells cv tyv frv)) (huv : unfr (cv.size + 1) frv) (hvs : voff < cv.size) (hb : w.heap[b]? = some (.cells c ty fr)) (hc : c.size ≠ 0) :
    (callFunc 51 #[.slice (some ⟨vb, voff, none⟩) 1 vc, .slice (some ⟨b, off, none⟩) lb cb]).run Try.prog w = .ok (.value (.bool false)) w := by
  rw [run_callFunc_extern Try.func51 (by kernel_rfl) (by kernel_rfl) (by kernel_rfl) (e := Extern.SlicesOverlaps.overlaps #[25, 25] #[4]) (by kernel_rfl),
    Lib.run_overlaps_apart w 25 4 36 Try.underlying25 2 Try.sizeOf36 ⟨vb, voff, none⟩ ⟨b, off, none⟩ 1 vc lb cb hne tyv ty cv.size c.size (by simp [World.shape?, hv]) (by simp [World.shape?, hb]) hc (frz_of hv huv (by omega)) (frz_of hv huv (by omega))]
  rfl
section
variable {w : World} {B : Nat → Prop} {o : List Res} {vb voff vc : Nat} {cv : Array Value} {tyv : TypeId} {frv : Nat × Nat} {vs : List Value} {y : D}
theorem same_B {w' : World} (hch : Chg o w w') (hB : ∀ b, B b → b < w.heap.size) (hoB : ∀ q ∈ o, ¬ B q.blk) : Same w w' B [] := by
  intro b hb
  rcases hb with hb | hb
  · refine hch.same b (hB b hb) ?_
    intro hm
    obtain ⟨q, hq, e⟩ := List.mem_map.1 hm
    exact hoB q hq (e ▸ hb)
  · simp [blks] at hb
theorem ins_len {w : World} {B : Nat → Prop} {xs : List D} {fl : List Value} {o : List Res} (h : elsRep w B (2, 0) xs fl o) : fl.length = xs.length * 2 := elsRep_length h
/-- a new row -/
theorem done_new {w' : World} {c : Array Value} {ty : TypeId} {xs : List D} {fl : List Value} {n cap : Nat} (hW : Chg o w w') (hh : w'.heap[w.heap.size]? = some (.cells c ty (0, 0))) (hsz : w.heap.size < w'.heap.size) (hc : cap * 2 ≤ c.size) (hn : xs.length = n) (hcap : n ≤ cap) (he : elsRep w B (2, 0) xs fl []) (hcell : cellsAt w' w.heap.size 0 fl)
    (hB : ∀ b, B b → b < w.heap.size) (hoB : ∀ q ∈ o, ¬ B q.blk) : InsDone w B o xs (.slice (some ⟨w.heap.size, 0, none⟩) n cap) w' := by
  refine ⟨w.heap.size, os_rep hh (unfz_zero _ _) (by omega) hn hcap (elsRep_frame (fun _ h => h) (same_B hW hB hoB) he) hcell, hW, fun hb => ?_, hsz, .inl (Nat.le_refl _)⟩
  have := hB _ hb
  omega
/-- behind all, where there is no room -/
theorem ins_new_end {base : Option Addr} {n cap : Nat} {xs : List D} {cs : List Value} (hB : ∀ b, B b → b < w.heap.size) (hoB : ∀ q ∈ o, ¬ B q.blk)
    (hv : cellsAt w vb voff vs) (hev : elsRep w B (2, 0) [y] vs []) (hes : elsRep w B (2, 0) xs cs []) (hn : xs.length = n) (hcs : n ≠ 0 → ∃ b off, base = some ⟨b, off, none⟩ ∧ cellsAt w b off cs) (hroom : cap < n + 1) (hlim : n ≤ 1000) :
    Calls Try.prog 32 #[.slice base n cap, .int .i64 n, .slice (some ⟨vb, voff, none⟩) 1 vc] w fun e w' => ∃ v, e = .returned v ∧ InsDone w B o (xs ++ [y]) v w' := by
  obtain ⟨i, hi, hs, hb, hz⟩ := insInfo
  have lv := ins_len hev
  have lc := ins_len hes
  have same : ∀ {w' : World} {b off : Nat} {l : List Value}, (∀ b o, w'.cell? ⟨b, o, none⟩ = w.cell? ⟨b, o, none⟩) → cellsAt w b off l → cellsAt w' b off l := fun h hc j v hj => (h _ _).trans (hc j v hj)
  obtain ⟨c0, cap0, hrun, hle, ⟨rest, hrest⟩, hsize⟩ := append_new (P := Try.prog) (w := w) (t := 25) (u := 25) (ty := 25) (x := .slice (some ⟨vb, voff, none⟩) 1 vc) (m := 1) (olds := cs) (news := vs) (base := base) (sLen := n) (sCap := cap) Try.underlying25 hi hz Try.underlying25 (fun k => by simp) rfl
    (fun w' h => firstCells_run (by rw [hs]; simpa using lv) (fun _ => ⟨vb, voff, rfl, same h hv⟩)) (fun w' h => firstCells_run (by rw [hs, lc, hn]) (fun h0 => by obtain ⟨b, off, e, hc⟩ := hcs h0; exact ⟨b, off, e, same h hc⟩)) hroom (by omega) (by omega)
  refine Calls.mono (ins_end_new base n cap ⟨vb, voff, none⟩ vc w _ _ hrun) fun e w' he => ?_
  obtain ⟨rfl, rfl⟩ := he
  have hN := New.drewAlloc w c0 36 (0, 0)
  have hz2 : (Value.agg #[.int .i64 0, .string ⟨#[]⟩]).cells.size = 2 := rfl
  rw [hz2, lv, lc, hn] at hsize
  refine ⟨_, rfl, done_new (c := c0) (ty := 36) (fl := cs ++ vs) (hN.chg o) hN.new (by rw [hN.size]; omega) ?_ (by simp [hn]) hle (elsRep_append hes hev) ?_ hB hoB⟩
  · simp only [List.length_cons, List.length_nil] at hsize
    omega
  · have := cellsAt_new hN.new
    rw [hrest] at this
    exact (cellsAt_append.1 this).1
/-- behind all, where there is room -/
theorem ins_room_end {b off n cap : Nat} {c : Array Value} {ty : TypeId} {fr : Nat × Nat} {xs : List D} {cs : List Value} (hB : ∀ b, B b → b < w.heap.size) (hoB : ∀ q ∈ o, ¬ B q.blk) (hbo : .arr b ∈ o)
    (hh : w.heap[b]? = some (.cells c ty fr)) (hu : unfz (2, 0) c.size fr) (hc : off + cap * 2 ≤ c.size) (hcell : cellsAt w b off cs)
    (hv : cellsAt w vb voff vs) (hev : elsRep w B (2, 0) [y] vs []) (hes : elsRep w B (2, 0) xs cs []) (hn : xs.length = n) (hroom : n + 1 ≤ cap) :
    Calls Try.prog 32 #[.slice (some ⟨b, off, none⟩) n cap, .int .i64 n, .slice (some ⟨vb, voff, none⟩) 1 vc] w fun e w' => ∃ v, e = .returned v ∧ InsDone w B o (xs ++ [y]) v w' := by
  obtain ⟨i, hi, hs, hb, hz⟩ := insInfo
  have lv := ins_len hev
  have lc := ins_len hes
  rw [List.length_cons, List.length_nil] at lv
  have hst := run_storeCells_cells (P := Try.prog) b (off + n * 2) vs 0 w (fun j hj => cell_of hh (by omega)) (fun j hj => frz_of hh hu.1 (by omega)) (fun v hm => oneCell_of (els_notAgg hev v hm))
  rw [Nat.add_zero] at hst
  have hrun : (Builtin.append_ #[25, 25] 25 #[.slice (some ⟨b, off, none⟩) n cap, .slice (some ⟨vb, voff, none⟩) 1 vc]).run Try.prog w = .ok (.slice (some ⟨b, off, none⟩) (n + 1) cap) (w.setCells b (off + n * 2) vs) := by
    rw [append_room (P := Try.prog) (w := w) (news := vs) Try.underlying25 hi Try.underlying25 (fun k => by simp) rfl (firstCells_run (by rw [hs]; omega) (fun _ => ⟨vb, voff, rfl, hv⟩)) hroom]
    simp only [hs, add_at, hst, Result.andThen_ok]
  refine Calls.mono (ins_end_new _ n cap ⟨vb, voff, none⟩ vc w _ _ hrun) fun e w' he => ?_
  obtain ⟨rfl, rfl⟩ := he
  have hw := setCells_wr (lo := off + n * 2) (vs := vs) hh hu.1 (by omega) (els_notAgg hev)
  obtain ⟨c', hh', hsz⟩ := wr_heap hw hh
  have hch := wr_step (Chg.refl o w) hw (.inr hbo)
  have hbs : ∀ q ∈ o, True := fun _ _ => trivial
  refine ⟨_, rfl, b, os_rep hh' (by rw [hsz]; exact hu) (by rw [hsz]; exact hc) (by simp [hn]) hroom (elsRep_append (elsRep_frame (fun _ h => h) (same_B hch hB hoB) hes) (elsRep_frame (fun _ h => h) (same_B hch hB hoB) hev)) (cellsAt_append.2 ⟨hw.keep hcell (.inl (by omega)), ?_⟩), hch, hoB _ hbo, ?_, .inr ⟨List.mem_map.2 ⟨_, hbo, rfl⟩, fun j hj => ⟨_, hbo, hj⟩⟩⟩
  · rw [lc, hn]; exact hw.cellsAt
  · exact lt_size_of hh'
/-- not behind all, where there is room -/
theorem ins_room_mid {b off n cap i : Nat} {c : Array Value} {ty : TypeId} {fr : Nat × Nat} {xs1 xs2 : List D} {f1 f2 : List Value} (hB : ∀ b, B b → b < w.heap.size) (hoB : ∀ q ∈ o, ¬ B q.blk) (hbo : .arr b ∈ o) (hne : vb ≠ b)
    (hh : w.heap[b]? = some (.cells c ty fr)) (hu : unfz (2, 0) c.size fr) (hc : off + cap * 2 ≤ c.size) (hcell : cellsAt w b off (f1 ++ f2))
    (hvh : w.heap[vb]? = some (.cells cv tyv frv)) (huv : unfz (2, 0) cv.size frv) (hvl : voff + 2 ≤ cv.size)
    (hv : cellsAt w vb voff vs) (hev : elsRep w B (2, 0) [y] vs []) (he1 : elsRep w B (2, 0) xs1 f1 []) (he2 : elsRep w B (2, 0) xs2 f2 []) (hn1 : xs1.length = i) (hn2 : i + xs2.length = n) (hi : i < n) (hroom : n + 1 ≤ cap) (hlim : n ≤ 1000) :
    Calls Try.prog 32 #[.slice (some ⟨b, off, none⟩) n cap, .int .i64 i, .slice (some ⟨vb, voff, none⟩) 1 vc] w fun e w' => ∃ v, e = .returned v ∧ InsDone w B o (xs1 ++ y :: xs2) v w' := by
  have hs2 : (Try.prog.info? 36).map (·.size) = some 2 := by obtain ⟨i, hi, hs, _⟩ := insInfo; rw [hi]; simp [hs]
  have lv := ins_len hev
  have l1 := ins_len he1
  have l2 := ins_len he2
  rw [List.length_cons, List.length_nil] at lv
  obtain ⟨hc1, hc2⟩ := cellsAt_append.1 hcell
  rw [l1, hn1] at hc2
  have nv := els_notAgg hev
  have n2 := els_notAgg he2
  have hk : ((n - i : Nat) : Int) = (n : Int) - i := by omega
  have hw1 : Wr b (off + (i + 1) * 2) f2 w (w.drew.setCells b (off + (i + 1) * 2) f2) := wr_drew (setCells_wr (w := w.drew) hh hu.1 (by omega) n2)
  obtain ⟨c1, hh1, hsz1⟩ := wr_heap hw1 hh
  have hu1 : unfr c1.size fr := by rw [hsz1]; exact hu.1
  have hw2 : Wr b (off + i * 2) vs (w.drew.setCells b (off + (i + 1) * 2) f2) ((w.drew.setCells b (off + (i + 1) * 2) f2).setCells b (off + i * 2) vs) := setCells_wr hh1 (by rw [hsz1]; exact hu.1) (by omega) nv
  obtain ⟨c2, hh2, hsz2⟩ := wr_heap hw2 hh1
  have hch := wr_step (wr_step (Chg.refl o w) hw1 (.inr hbo)) hw2 (.inr hbo)
  have hcp1 : ∀ ty dc sc, (Builtin.copy_ #[25, 25] ty #[.slice (some ⟨b, off + (i + 1) * 2, none⟩) (n - i) dc, .slice (some ⟨b, off + i * 2, none⟩) (n + 1 - i) sc]).run Try.prog w.drew = .ok (goInt ((n - i : Nat) : Int)) (w.drew.setCells b (off + (i + 1) * 2) f2) := fun ty dc sc =>
    run_copyN w.drew _ _ ty 36 b _ _ dc _ _ sc f2 Try.underlying25 hs2 (Nat.min_eq_right (by omega)).symm (by omega) (fun j v hj => by rw [add_at]; exact hc2 j v hj) (fun j hj => cell_of (w := w.drew) hh (by omega)) (fun j hj => frz_of (w := w.drew) hh hu.1 (by omega)) (fun v hm => oneCell_of (n2 v hm))
  have hcp2 : ∀ W : World, (∀ x, W.cell? x = (w.drew.setCells b (off + (i + 1) * 2) f2).cell? x) → (∀ x, W.frozen? x = (w.drew.setCells b (off + (i + 1) * 2) f2).frozen? x) → ∀ ty dc, (Builtin.copy_ #[25, 25] ty #[.slice (some ⟨b, off + i * 2, none⟩) (n + 1 - i) dc, .slice (some ⟨vb, voff, none⟩) 1 vc]).run Try.prog W = .ok (goInt ((1 : Nat) : Int)) (W.setCells b (off + i * 2) vs) := fun W hWc hWf ty dc =>
    run_copyN W _ _ ty 36 b _ _ dc _ _ vc vs Try.underlying25 hs2 (Nat.min_eq_left (by omega)).symm (by omega)
      (fun j v hj => by
        rw [add_at, hWc]
        have := hv j v hj
        rw [← this]
        exact cell_same (hw1.other vb hne))
      (fun j hj => by rw [hWc]; exact cell_of hh1 (by rw [hsz1]; rw [lv] at hj; omega)) (fun j hj => by rw [hWf]; exact frz_of hh1 hu1 (by rw [hsz1]; rw [lv] at hj; omega)) (fun v hm => oneCell_of (nv v hm))
  refine Calls.mono (ins_shift b off n cap i ⟨vb, voff, none⟩ vc f2 vs w hi hroom hlim (fun lb cb => ins_hov hne hvh (huv.2 (by decide)) (by omega) hh (by omega)) hcp1 hcp2) fun e w' he => ?_
  obtain ⟨rfl, rfl⟩ := he
  have fr := fun {xs fl} (h : elsRep w B (2, 0) xs fl []) => elsRep_frame (fun _ h => h) (same_B hch hB hoB) h
  refine ⟨_, rfl, b, os_rep (fl := f1 ++ (vs ++ f2)) hh2 (by rw [hsz2, hsz1]; exact hu) (by rw [hsz2, hsz1]; exact hc) (by simp; omega) hroom (elsRep_append (fr he1) (elsRep_append (es := [y]) (fr hev) (fr he2))) (cellsAt_append.2 ⟨hw2.keep (hw1.keep hc1 (.inl (by omega))) (.inl (by omega)), cellsAt_append.2 ⟨?_, ?_⟩⟩), hch, hoB _ hbo, lt_size_of hh2, .inr ⟨List.mem_map.2 ⟨_, hbo, rfl⟩, fun j hj => ⟨_, hbo, hj⟩⟩⟩
  · rw [l1, hn1]; exact hw2.cellsAt
  · rw [l1, hn1, lv, show off + i * 2 + (0 + 1) * 2 = off + (i + 1) * 2 by omega]
    exact hw2.keep hw1.cellsAt (.inr (by omega))
/-- not behind all, where there is no room -/
theorem ins_new_mid {b off n cap i : Nat} {xs1 xs2 : List D} {f1 f2 : List Value} (hB : ∀ b, B b → b < w.heap.size) (hoB : ∀ q ∈ o, ¬ B q.blk) (hbl : b < w.heap.size) (hvbl : vb < w.heap.size)
    (hcell : cellsAt w b off (f1 ++ f2))
    (hv : cellsAt w vb voff vs) (hev : elsRep w B (2, 0) [y] vs []) (he1 : elsRep w B (2, 0) xs1 f1 []) (he2 : elsRep w B (2, 0) xs2 f2 []) (hn1 : xs1.length = i) (hn2 : i + xs2.length = n) (hi : i < n) (hnc : n ≤ cap) (hroom : cap < n + 1) (hlim : n ≤ 1000) :
    Calls Try.prog 32 #[.slice (some ⟨b, off, none⟩) n cap, .int .i64 i, .slice (some ⟨vb, voff, none⟩) 1 vc] w fun e w' => ∃ v, e = .returned v ∧ InsDone w B o (xs1 ++ y :: xs2) v w' := by
  obtain ⟨i0, hi0, hs, hby, hz⟩ := insInfo
  have hs2 : (Try.prog.info? 36).map (·.size) = some 2 := by rw [hi0]; simp [hs]
  have lv := ins_len hev
  have l1 := ins_len he1
  have l2 := ins_len he2
  rw [List.length_cons, List.length_nil] at lv
  obtain ⟨hc1, hc2⟩ := cellsAt_append.1 hcell
  rw [l1, hn1] at hc2
  have nv := els_notAgg hev
  have n2 := els_notAgg he2
  have hkk : (n : Int) + 1 - (i : Int) = ((n + 1 - i : Nat) : Int) := by omega
  have hik : i + (n + 1 - i) = n + 1 := by omega
  have hold : (Builtin.firstCells i0.size i (.slice (some ⟨b, off, none⟩) i cap)).run Try.prog w.drew = .ok f1.toArray w.drew := firstCells_run (by rw [hs, l1, hn1]) (fun _ => ⟨b, off, rfl, fun j v hj => hc1 j v hj⟩)
  have hfit : Builtin.nextslicecap (n + 1) cap * i0.bytes ≤ 281474976710656 := by
    have := nextcap_le (need := n + 1) (cap := cap) (by omega)
    rw [hby]; omega
  have hz2 : (Value.agg #[.int .i64 0, .string ⟨#[]⟩]).cells.size = 2 := rfl
  have hrz : ∀ ty, (Builtin.append_ #[25, 3] ty #[.slice (some ⟨b, off, none⟩) i cap, .int .i64 ((n : Int) + 1 - (i : Int))]).run Try.prog w =
      .ok (.slice (some ⟨w.heap.size, 0, none⟩) (n + 1) (grownCap w (n + 1) cap 36)) (w.drew.alloc (.cells (f1.toArray ++ Builtin.zeroCells (Value.agg #[.int .i64 0, .string ⟨#[]⟩]).cells (n + 1 - i) ++ Builtin.zeroCells (Value.agg #[.int .i64 0, .string ⟨#[]⟩]).cells (grownCap w (n + 1) cap 36 - (n + 1))) 36)) := fun ty => by
    have h := Lib.run_append_grow_zeros w 25 3 ty 36 i0 _ .i64 .i64 Try.underlying25 Try.underlying3 hi0 hz (some ⟨b, off, none⟩) i cap f1 hold (n + 1 - i) (by omega) (by omega) (by omega) (by omega) (by rw [hby]; omega) (by rw [hik]; exact hfit)
    rw [hik] at h
    rw [hkk]
    exact h
  obtain ⟨G, hG⟩ : ∃ G, G = grownCap w (n + 1) cap 36 := ⟨_, rfl⟩
  have hGn : n + 1 ≤ G := by rw [hG]; exact grownCap_ge w _ _ _
  have hG63 : G ≤ 9223372036854775807 := by
    have := grownCap_le_maxLen w (n + 1) cap 36 (by unfold maxLen; omega)
    rw [← hG] at this
    unfold maxLen at this
    have h63 : (2 : Nat) ^ 63 - 1 = 9223372036854775807 := by decide
    omega
  rw [← hG] at hrz
  obtain ⟨ROW, hROW⟩ : ∃ ROW : Array Value, ROW = f1.toArray ++ Builtin.zeroCells (Value.agg #[.int .i64 0, .string ⟨#[]⟩]).cells (n + 1 - i) ++ Builtin.zeroCells (Value.agg #[.int .i64 0, .string ⟨#[]⟩]).cells (G - (n + 1)) := ⟨_, rfl⟩
  rw [← hROW] at hrz
  have hRs : ROW.size = G * 2 := by
    rw [hROW, Array.size_append, Array.size_append, size_zeroCells, size_zeroCells, hz2]
    simp only [List.size_toArray, l1, hn1]
    omega
  have hN := New.drewAlloc w ROW 36 (0, 0)
  obtain ⟨W1, hW1⟩ : ∃ W1, W1 = w.drew.alloc (.cells ROW 36) := ⟨_, rfl⟩
  rw [← hW1] at hrz hN
  have hw1 : Wr w.heap.size (i * 2) vs W1 (W1.setCells w.heap.size (i * 2) vs) := setCells_wr hN.new (unfr_zero _) (by omega) nv
  obtain ⟨c1, hh1, hsz1⟩ := wr_heap hw1 hN.new
  have hw2 : Wr w.heap.size ((i + 1) * 2) f2 (W1.setCells w.heap.size (i * 2) vs) ((W1.setCells w.heap.size (i * 2) vs).drew.setCells w.heap.size ((i + 1) * 2) f2) := wr_drew (setCells_wr (w := (W1.setCells w.heap.size (i * 2) vs).drew) hh1 (unfr_zero _) (by omega) n2)
  obtain ⟨c2, hh2, hsz2⟩ := wr_heap hw2 hh1
  have hch := wr_step (wr_step (hN.chg o) hw1 (.inl (Nat.le_refl _))) hw2 (.inl (Nat.le_refl _))
  have hcpA : ∀ W : World, (∀ x, W.cell? x = W1.cell? x) → (∀ x, W.frozen? x = W1.frozen? x) → ∀ ty dc, (Builtin.copy_ #[25, 25] ty #[.slice (some ⟨w.heap.size, i * 2, none⟩) (n + 1 - i) dc, .slice (some ⟨vb, voff, none⟩) 1 vc]).run Try.prog W = .ok (goInt ((1 : Nat) : Int)) (W.setCells w.heap.size (i * 2) vs) := fun W hWc hWf ty dc =>
    run_copyN W _ _ ty 36 w.heap.size _ _ dc _ _ vc vs Try.underlying25 hs2 (Nat.min_eq_left (by omega)).symm (by omega)
      (fun j v hj => by
        rw [add_at, hWc]
        have := hv j v hj
        rw [← this]
        exact cell_same (hN.old vb hvbl))
      (fun j hj => by rw [hWc]; exact cell_of hN.new (by rw [hRs]; rw [lv] at hj; omega)) (fun j hj => by rw [hWf]; exact frz_of hN.new (unfr_zero (ROW.size)) (by rw [hRs]; rw [lv] at hj; omega)) (fun v hm => oneCell_of (nv v hm))
  have hcpB : ∀ W : World, (∀ x, W.cell? x = (W1.setCells w.heap.size (i * 2) vs).cell? x) → (∀ x, W.frozen? x = (W1.setCells w.heap.size (i * 2) vs).frozen? x) → ∀ ty dc sc, (Builtin.copy_ #[25, 25] ty #[.slice (some ⟨w.heap.size, (i + 1) * 2, none⟩) (n - i) dc, .slice (some ⟨b, off + i * 2, none⟩) (n - i) sc]).run Try.prog W = .ok (goInt ((n - i : Nat) : Int)) (W.setCells w.heap.size ((i + 1) * 2) f2) := fun W hWc hWf ty dc sc =>
    run_copyN W _ _ ty 36 w.heap.size _ _ dc _ _ sc f2 Try.underlying25 hs2 (Nat.min_eq_left (Nat.le_refl _)).symm (by omega)
      (fun j v hj => by
        rw [add_at, hWc]
        have := hc2 j v hj
        rw [← this]
        exact (cell_same (hw1.other b (by omega))).trans (cell_same (hN.old b hbl)))
      (fun j hj => by rw [hWc]; exact cell_of hh1 (by rw [hsz1, hRs]; rw [l2] at hj; omega)) (fun j hj => by rw [hWf]; exact frz_of hh1 (unfr_zero (ROW.size)) (by rw [hRs]; rw [l2] at hj; omega)) (fun v hm => oneCell_of (n2 v hm))
  refine Calls.mono (ins_grow b off n cap i w.heap.size G ⟨vb, voff, none⟩ vc f2 vs w W1 hi hnc hroom hGn hG63 hlim hrz hcpA hcpB) fun e w' he => ?_
  obtain ⟨rfl, rfl⟩ := he
  have hf1 : cellsAt W1 w.heap.size 0 f1 := by
    have := cellsAt_new hN.new
    rw [hROW, Array.toList_append, Array.toList_append, List.append_assoc] at this
    exact (cellsAt_append.1 this).1
  refine ⟨_, rfl, done_new (c := c2) (ty := 36) (fl := f1 ++ (vs ++ f2)) hch hh2 (lt_size_of hh2) (by omega) (by simp; omega) hGn (elsRep_append he1 (elsRep_append (es := [y]) hev he2)) (cellsAt_append.2 ⟨hw2.keep (hw1.keep hf1 (.inl (by omega))) (.inl (by omega)), cellsAt_append.2 ⟨?_, ?_⟩⟩) hB hoB⟩
  · rw [l1, hn1, Nat.zero_add]; exact hw2.keep hw1.cellsAt (.inl (by omega))
  · rw [l1, hn1, lv, show 0 + i * 2 + (0 + 1) * 2 = (i + 1) * 2 by omega]
    exact hw2.cellsAt
end
end Go.Eng
/-! slices.Insert: what the cut says of it is so -/
namespace Go.Eng
open Go.Proofs Go.Proofs.Try Go.Lib

theorem scal_nil {w : World} {B : Nat → Prop} {c : D} {v : Value} {o : List Res} (hc : scal c = true) (h : repD w B c v o) : o = [] := by
  cases c <;> first | (simp only [repD] at h; exact h.2) | cases hc
theorem scals_nil {w : World} {B : Nat → Prop} : ∀ {cs : List D} {vs : List Value} {o : List Res}, (∀ c ∈ cs, scal c = true) → repDs w B cs vs o → o = []
  | [], vs, o, _, h => by simp only [repDs] at h; exact h.2
  | c :: cs, vs, o, hc, h => by
    simp only [repDs] at h
    obtain ⟨v, vs', o1, o2, h1, h2, hi, h3, h4⟩ := h
    rw [h2, scal_nil (hc c (by simp)) h3, scals_nil (fun c hm => hc c (by simp [hm])) h4]; rfl
theorem els_nil {w : World} {B : Nat → Prop} {n : Nat} : ∀ {es : List D} {fl : List Value} {o : List Res}, elsRep w B (n, 0) es fl o → o = []
  | [], fl, o, h => h.2
  | e :: es, fl, o, h => by
    obtain ⟨vs, fr, o1, o2, rfl, rfl, h1, h2⟩ := h
    rw [scals_nil (fun c hc => h1.2.2 c hc) h1.1, els_nil h2]; rfl
theorem ins_came {w w' : World} {B : Nat → Prop} {L : Nat → List (Option Nat)} {o : List Res} {a b c : D} {v1 v2 v3 v : Value} {zs : List D} (ha : isIo .mv a = false) (hb : isIo .ro b = false) (hc : isIo .mv c = false) (hB : ∀ b, B b → b < w.heap.size) (h : InsDone w B o zs v w') :
    ∃ B' oR oI, CameBack (cf0.mode 32) L w B o [a, b, c] [v1, v2, v3] (.os (2, 0) zs, []) v w' B' oR oI := by
  obtain ⟨bk, hr, hch, hnb, hlt, hok⟩ := h
  refine ⟨B, [.arr bk], [], hch, fun _ h => h, fun b hb => ⟨Nat.lt_of_lt_of_le (hB b hb) hch.size, .inl hb⟩, hr, ?_, by simp [blks], ?_⟩
  · have e0 : cf0.mode 32 0 = .mv := rfl
    have e1 : cf0.mode 32 1 = .ro := rfl
    have e2 : cf0.mode 32 2 = .mv := rfl
    simp only [ioRep, e0, e1, e2, ha, hb, hc, Nat.zero_add]
    exact ⟨v1, [v2, v3], rfl, v2, [v3], rfl, v3, [], rfl, rfl, trivial, trivial⟩
  · intro q hq
    simp only [List.append_nil, List.mem_singleton] at hq
    subst hq
    exact ⟨hnb, hlt, hok⟩
theorem insP_meets {ds : List D} {r : Ret} (h : insP ds = some r) : Meets Try.prog (cf0.mode 32) 32 ds r := by
  unfold insP at h
  split at h
  case h_2 => cases h
  rename_i z xs i z2 y
  split at h
  case h_2 => cases h
  rename_i hcond
  injection h with h
  subst h
  simp only [Bool.and_eq_true, decide_eq_true_eq] at hcond
  obtain ⟨rfl, rfl, hi0, hil, hlim⟩ := hcond
  obtain ⟨i, rfl⟩ := Int.eq_ofNat_of_zero_le hi0
  have hil : i ≤ xs.length := by omega
  intro fn hfn w B L pv cv o hargs hcv hnod hown hB
  have hfe := hfn.symm.trans Try.func32
  injection hfe with hfe
  have hps : fn.params.size = 3 := by rw [hfe]; kernel_rfl
  rw [hps] at hargs hcv ⊢
  simp only [List.take_succ_cons, List.take_nil, List.drop_succ_cons, List.drop_nil] at hargs hcv ⊢
  simp only [repVs] at hcv
  obtain ⟨rfl, -⟩ := hcv
  have e0 : cf0.mode 32 0 = .mv := rfl
  have e1 : cf0.mode 32 1 = .ro := rfl
  have e2 : cf0.mode 32 2 = .mv := rfl
  simp only [argsRep, e0, e1, e2, Nat.zero_add, argRep] at hargs
  obtain ⟨v1, _, o1, _, rfl, rfl, h1, v2, _, o2, _, rfl, rfl, h2, v3, _, o3, _, rfl, rfl, h3, rfl, rfl⟩ := hargs
  have h2' : v2 = .int .i64 i ∧ o2 = [] := by simpa only [repD] using h2
  obtain ⟨rfl, rfl⟩ := h2'
  simp only [repD] at h3
  rcases h3 with ⟨h3, -⟩ | ⟨vb, voff, vc, cv, tyv, frv, o3', rfl, hvc, hvh, huv, hvl, hve, rfl⟩
  · cases h3
  obtain ⟨vs, hve, hvcell⟩ := els_of_repEs hve
  obtain rfl := els_nil hve
  simp only [List.length_cons, List.length_nil, Nat.zero_add] at hvc ⊢
  have hvl' := hvl (by omega)
  have hvl2 : voff + 2 ≤ cv.size := by have : 1 * 2 ≤ vc * 2 := Nat.mul_le_mul_right 2 hvc; omega
  have hoB : ∀ q ∈ o1 ++ ([] ++ ([.arr vb] ++ [])), ¬ B q.blk := fun q hq => (hown q hq).1
  have hI0 : ∀ (z : Z) (l : List D), isIo .mv (.os z l) = false := fun _ _ => rfl
  have hI1 : ∀ (k : IntKind) (n : Int), isIo .ro (.int k n) = false := fun _ _ => rfl
  simp only [List.append_nil]
  refine Calls.mono (R := fun e w' => ∃ v, e = .returned v ∧ InsDone w B (o1 ++ ([] ++ ([.arr vb] ++ []))) (xs.take i ++ y :: xs.drop i) v w') ?_ fun e w' ⟨v, he, hd⟩ => ?_
  case refine_2 =>
    exact ⟨v, (ins_came (hI0 _ _) (hI1 _ _) (hI0 _ _) hB hd).imp fun B' ⟨oR, oI, h⟩ => ⟨oR, oI, he, h⟩⟩
  simp only [repD] at h1
  rcases h1 with ⟨rfl, rfl, a, rfl⟩ | ⟨b, off, cap, c, ty, fr, o1', rfl, hcap, hh, hu, hcs, hes, rfl⟩
  · obtain rfl : i = 0 := by simpa using hil
    exact ins_new_end (xs := []) hB hoB hvcell hve ⟨rfl, rfl⟩ rfl (fun h => absurd rfl h) (by omega) (by omega)
  obtain ⟨cs, hes, hcell⟩ := els_of_repEs hes
  obtain rfl := els_nil hes
  have hne : vb ≠ b := by
    intro e
    subst e
    simp [blks, Res.blk] at hnod
  have hbo : Res.arr b ∈ [.arr b] ++ ([] ++ ([.arr vb] ++ [])) := by simp
  obtain ⟨n, hn⟩ : ∃ n, n = xs.length := ⟨_, rfl⟩
  rw [← hn] at hcap hil hlim ⊢
  have hroomc : n + 1 ≤ cap → off + cap * 2 ≤ c.size := fun h => hcs (by omega)
  rcases Nat.lt_or_ge i n with hin | hin
  · obtain ⟨f1, f2, p1, p2, rfl, hp, he1, he2⟩ := els_split (es := xs.take i) (fs := xs.drop i) (by rw [List.take_append_drop]; exact hes)
    have hp' := List.append_eq_nil_iff.1 hp.symm
    obtain ⟨rfl, rfl⟩ := hp'
    have l1 : (xs.take i).length = i := by rw [List.length_take]; omega
    have l2 : i + (xs.drop i).length = n := by rw [List.length_drop]; omega
    rcases Nat.lt_or_ge cap (n + 1) with hr | hr
    · exact ins_new_mid hB hoB (lt_size_of hh) (lt_size_of hvh) hcell hvcell hve he1 he2 l1 l2 hin hcap hr hlim
    · exact ins_room_mid hB hoB hbo hne hh hu (hroomc hr) hcell hvh huv hvl2 hvcell hve he1 he2 l1 l2 hin hr hlim
  · obtain rfl : i = n := by omega
    rw [List.take_of_length_le (by omega), List.drop_of_length_le (by omega)]
    rcases Nat.lt_or_ge cap (i + 1) with hr | hr
    · exact ins_new_end hB hoB hvcell hve hes hn.symm (fun _ => ⟨b, off, rfl, hcell⟩) hr hlim
    · exact ins_room_end hB hoB hbo hh hu (hroomc hr) hcell hvcell hve hes hn.symm hr
theorem ins_enters : Enters Try.prog 32 := ⟨_, Try.func32, by kernel_rfl, by kernel_rfl⟩
theorem ext_holds : SoundExt Try.prog cf0 := fun f F h => by
  by_cases hf : f = 32
  · subst hf
    have : F = insP := by
      have h' : some insP = some F := h
      injection h' with h'; exact h'.symm
    subst this
    exact fun ds r h => ⟨insP_meets h, ins_enters⟩
  · exfalso
    have hn : cf0.ext f = none := by
      unfold cf0
      simp only
    rw [hn] at h; cases h
end Go.Eng
/-! LinkTake of the program -/
namespace Go.Eng
open Go.Proofs Go.Proofs.Try

theorem v_insert {xs : List D} {i : Nat} (y : D) (hi : i ≤ xs.length) (hl : xs.length ≤ 1000) : V 32 [.os (2, 0) xs, .int .i64 i, .os (2, 0) [y]] = some (.os (2, 0) (xs.take i ++ y :: xs.drop i), []) := by
  refine (Vn_ext (F := insP) rfl _).trans ?_
  have hc : (decide (((2, 0) : Z) = (2, 0)) && (decide (((2, 0) : Z) = (2, 0)) && (decide (0 ≤ (i : Int)) && (decide ((i : Int) ≤ (xs.length : Int)) && decide (xs.length ≤ 1000))))) = true := by
    simp only [Bool.and_eq_true, decide_eq_true_eq]
    exact ⟨trivial, trivial, by omega, by omega, hl⟩
  have hd : insP [.os (2, 0) xs, .int .i64 i, .os (2, 0) [y]] = match (decide (((2, 0) : Z) = (2, 0)) && (decide (((2, 0) : Z) = (2, 0)) && (decide (0 ≤ (i : Int)) && (decide ((i : Int) ≤ (xs.length : Int)) && decide (xs.length ≤ 1000))))) with
    | true => some (.os (2, 0) (xs.take (i : Int).toNat ++ y :: xs.drop (i : Int).toNat), [])
    | false => none := rfl
  rw [hd, hc]
  rfl

/-! ## the search -/
theorem half_eq {i j : Nat} (h : i + j ≤ 1000000) : IntKind.wrap IntKind.i64 (Int.fdiv (IntKind.wrap IntKind.u64 (IntKind.wrap IntKind.i64 ((i : Int) + (j : Int)))) (2 ^ min (Int.toNat (1)) (IntKind.bits IntKind.u64))) = (((i + j) / 2 : Nat) : Int) := by
  have h1 : IntKind.wrap IntKind.i64 ((i : Int) + (j : Int)) = ((i + j : Nat) : Int) := by rw [w64 (by omega) (by omega)]; omega
  have h2 : IntKind.wrap IntKind.u64 ((i + j : Nat) : Int) = ((i + j : Nat) : Int) := IntWalk.u64_in _ (by omega)
  have h3 : (2 : Int) ^ min (Int.toNat (1)) (IntKind.bits IntKind.u64) = 2 := by decide
  have h4 : Int.fdiv ((i + j : Nat) : Int) 2 = (((i + j) / 2 : Nat) : Int) := by
    rw [Int.fdiv_eq_ediv_of_nonneg _ (by omega)]; omega
  rw [h1, h2, h3, h4, w64 (by omega) (by omega)]
/-- what a search finds -/
structure Found (l : List Pc) (n : Int) (r : Nat) (b : Bool) : Prop where
  lo : ∀ k q, k < r → l[k]? = some q → q.no < n
  hi : ∀ k q, r ≤ k → l[k]? = some q → n ≤ q.no
  eq : b = true ↔ ∃ q, l[r]? = some q ∧ q.no = n
noncomputable def Sorted (l : List Pc) : Prop := ∀ (i j : Nat) (p q : Pc), i < j → l[i]? = some p → l[j]? = some q → p.no < q.no
noncomputable def Near (l : List Pc) (n : Int) : Prop := ∀ q ∈ l, -4611686018427387904 ≤ q.no - n ∧ q.no - n ≤ 4611686018427387904
theorem bs_loop {l : List Pc} (hl : l.length ≤ 1000) (n : Int) : ∀ (k i j : Nat), j - i ≤ k → i ≤ j → j ≤ l.length →
    ∃ (r : Nat) (b : Bool), LBinarySearchFunc_Piece_3 (l.map eP) n (ni l.length) (i : Int) (j : Int) = some (.tup [.int .i64 r, .bool b], []) ∧ r ≤ l.length ∧
      (Near l n → Sorted l → (∀ k q, k < i → l[k]? = some q → q.no < n) → (∀ k q, j ≤ k → l[k]? = some q → n ≤ q.no) → Found l n r b) := by
  have fin : ∀ (i j : Nat), i = j → j ≤ l.length → ∃ (r : Nat) (b : Bool), LBinarySearchFunc_Piece_3 (l.map eP) n (ni l.length) (i : Int) (j : Int) = some (.tup [.int .i64 r, .bool b], []) ∧ r ≤ l.length ∧
      (Near l n → Sorted l → (∀ k q, k < i → l[k]? = some q → q.no < n) → (∀ k q, j ≤ k → l[k]? = some q → n ≤ q.no) → Found l n r b) := by
    intro i j e hj
    subst e
    rw [LBinarySearchFunc_Piece_3_eq, br_not (decide_eq_false (by omega))]
    by_cases hil : i < l.length
    · obtain ⟨x, hx⟩ := get_of_lt hil
      rw [br_of (lt_idx hil), grd_of (by rw [List.length_map]; exact in_idx hil), Int.toNat_natCast, oget_map hx, eP_mk x, asAgg_agg, unc_cons, asI_int, unc_cons, asS_str, unn_nil, ocall_some (eimpl_LinkTake_1 _ _ _), asI_int, unn_nil]
      refine ⟨i, _, rfl, by omega, fun hn hs h1 h2 => ⟨h1, h2, ?_⟩⟩
      have := hn x (List.mem_of_getElem? hx)
      rw [w64 (by omega) (by omega), beq_iff_eq]
      constructor
      · intro h; exact ⟨x, hx, by omega⟩
      · rintro ⟨q, hq, e⟩
        rw [hx] at hq; cases hq; omega
    · rw [br_not (ge_idx (by omega))]
      refine ⟨i, _, rfl, by omega, fun hn hs h1 h2 => ⟨h1, h2, ?_⟩⟩
      constructor
      · intro h; cases h
      · rintro ⟨q, hq, e⟩
        rw [List.getElem?_eq_none (by omega)] at hq; cases hq
  intro k
  induction k with
  | zero => exact fun i j h1 h2 h3 => fin i j (by omega) h3
  | succ k ih =>
    intro i j h1 h2 h3
    by_cases hij : i = j
    · exact fin i j hij h3
    have hm : (i + j) / 2 < l.length := by omega
    obtain ⟨x, hx⟩ := get_of_lt hm
    rw [LBinarySearchFunc_Piece_3_eq, br_of (decide_eq_true (by omega)), grd_of (by rfl), half_eq (by omega)]
    rw [grd_of (by rw [List.length_map]; exact in_idx hm), Int.toNat_natCast, oget_map hx, eP_mk x, asAgg_agg, unc_cons, asI_int, unc_cons, asS_str, unn_nil, ocall_some (eimpl_LinkTake_1 _ _ _), asI_int, unn_nil, w64s (by omega)]
    by_cases hc : IntKind.wrap IntKind.i64 (x.no - n) < 0
    · rw [br_of (decide_eq_true hc)]
      obtain ⟨r, b, e, hr, hf⟩ := ih ((i + j) / 2 + 1) j (by omega) (by omega) h3
      refine ⟨r, b, e, hr, fun hn hs g1 g2 => hf hn hs (fun t q ht hq => ?_) g2⟩
      have hb := hn x (List.mem_of_getElem? hx)
      rw [w64 (by omega) (by omega)] at hc
      rcases Nat.lt_or_ge t ((i + j) / 2) with h | h
      · have := hs t _ q x h hq hx; omega
      · have : t = (i + j) / 2 := by omega
        subst this
        rw [hx] at hq; cases hq; omega
    · rw [br_not (decide_eq_false hc)]
      obtain ⟨r, b, e, hr, hf⟩ := ih i ((i + j) / 2) (by omega) (by omega) (by omega)
      refine ⟨r, b, e, hr, fun hn hs g1 g2 => hf hn hs g1 (fun t q ht hq => ?_)⟩
      have hb := hn x (List.mem_of_getElem? hx)
      rw [w64 (by omega) (by omega)] at hc
      rcases Nat.lt_or_ge ((i + j) / 2) t with h | h
      · have := hs _ t x q h hx hq; omega
      · have : t = (i + j) / 2 := by omega
        subst this
        rw [hx] at hq; cases hq; omega
theorem v_search {l : List Pc} (hl : l.length ≤ 1000) (n : Int) : ∃ (r : Nat) (b : Bool), V 29 [.rs (2, 0) (l.map eP), .int .i64 n, .fn 30 []] = some (.tup [.int .i64 r, .bool b], []) ∧ r ≤ l.length ∧ (Near l n → Sorted l → Found l n r b) := by
  obtain ⟨r, b, e, hr, hf⟩ := bs_loop hl n l.length 0 l.length (by omega) (by omega) (Nat.le_refl _)
  refine ⟨r, b, ?_, hr, fun h1 h2 => hf h1 h2 (fun k q h _ => by omega) (fun k q h hq => ?_)⟩
  · rw [eBinarySearchFunc_Piece, List.length_map]; exact e
  · rw [List.getElem?_eq_none h] at hq; cases hq
theorem holdF_found {p : Pc} : ∀ {l : List Pc} {r : Nat} {b : Bool}, r ≤ l.length → Found l p.no r b → holdF p l = if b then l else l.take r ++ p :: l.drop r
  | [], r, b, hr, h => by
    cases b with
    | true => obtain ⟨q, hq, _⟩ := h.eq.1 rfl; simp at hq
    | false => simp [holdF]
  | q :: l, 0, b, hr, h => by
    have h0 := h.hi 0 q (Nat.le_refl _) rfl
    simp only [holdF]
    rw [if_pos (by omega)]
    cases b with
    | true =>
      obtain ⟨q', hq, e⟩ := h.eq.1 rfl
      cases hq
      rw [if_neg (by omega)]; rfl
    | false =>
      have : ¬ q.no = p.no := fun e => by have := h.eq.2 ⟨q, rfl, e⟩; cases this
      rw [if_pos (by omega)]; rfl
  | q :: l, r + 1, b, hr, h => by
    have h0 := h.lo 0 q (by omega) rfl
    have ih := holdF_found (p := p) (l := l) (r := r) (b := b) (by simpa using hr) ⟨fun k x hk hx => h.lo (k + 1) x (by omega) hx, fun k x hk hx => h.hi (k + 1) x (by omega) hx, h.eq⟩
    simp only [holdF]
    rw [if_neg (by omega), ih]
    cases b <;> rfl

/-! ## what is held by a good link -/
theorem heldFrom_get {l : Lk} : ∀ (k i : Nat), heldFrom l i k = true → ∀ j p, i ≤ j → j < i + k → l.held[j]? = some p → wi p.no (l.got + 1) (mnI (l.got + 4) l.sent - 1) = true ∧ prevOk l.held j p = true
  | 0, i, h, j, p, h1, h2, hp => by omega
  | k + 1, i, h, j, p, h1, h2, hp => by
    simp only [heldFrom, Bool.and_eq_true] at h
    rcases Nat.lt_or_ge i j with hij | hij
    · exact heldFrom_get k (i + 1) h.2 j p hij (by omega) hp
    · have : j = i := by omega
      subst this
      rw [hp] at h
      simpa using h.1
theorem held_facts {l : Lk} (h : okK l = true) : Sorted l.held ∧ (∀ q ∈ l.held, l.got + 1 ≤ q.no ∧ q.no ≤ l.got + 3) ∧ l.held.length ≤ 3 := by
  have hh : heldFrom l 0 l.held.length = true := by simp only [okK, Bool.and_eq_true] at h; exact h.2.2.2.2.2
  have hg := heldFrom_get l.held.length 0 hh
  have hm := mnI_le (l.got + 4) l.sent
  have hw : ∀ (j : Nat) p, l.held[j]? = some p → l.got + 1 ≤ p.no ∧ p.no ≤ l.got + 3 := by
    intro j p hp
    have := (hg j p (by omega) (by have := lt_of_get hp; omega) hp).1
    simp only [wi, Bool.and_eq_true, decide_eq_true_eq] at this
    omega
  have hstep : ∀ (j : Nat) p q, l.held[j]? = some p → l.held[j + 1]? = some q → p.no < q.no := by
    intro j p q hp hq
    have := (hg (j + 1) q (by omega) (by have := lt_of_get hq; omega) hq).2
    simp only [prevOk, hp, Bool.not_eq_true', decide_eq_false_iff_not] at this
    omega
  have hge : ∀ (d i : Nat) p q, l.held[i]? = some p → l.held[i + d]? = some q → p.no + d ≤ q.no := by
    intro d
    induction d with
    | zero => intro i p q hp hq; rw [Nat.add_zero, hp] at hq; cases hq; simp
    | succ d ih =>
      intro i p q hp hq
      obtain ⟨x, hx⟩ := get_of_lt (l := l.held) (i := i + d) (by have := lt_of_get hq; omega)
      have h1 := ih i p x hp hx
      have h2 := hstep (i + d) x q hx hq
      omega
  refine ⟨fun i j p q hij hp hq => ?_, fun q hq => ?_, ?_⟩
  · have := hge (j - i) i p q hp (by rw [show i + (j - i) = j by omega]; exact hq)
    omega
  · obtain ⟨j, hj⟩ := List.getElem?_of_mem hq
    exact hw j q hj
  · rcases Nat.lt_or_ge 3 l.held.length with h3 | h3
    · obtain ⟨a, ha⟩ := get_of_lt (l := l.held) (i := 0) (by omega)
      obtain ⟨b, hb⟩ := get_of_lt (l := l.held) (i := 3) h3
      have h1 := hge 3 0 a b ha (by simpa using hb)
      have h2 := hw 0 a ha
      have h4 := hw 3 b hb
      omega
    · exact h3
/-! ## what is handed up -/
theorem popI_loop {l : List Pc} {q : List D} (hl : l.length < 4294967295) (z0 z1 z2 sent acked : Int) : ∀ (k i : Nat) (up : List ByteArray) (g : Int), i + k = l.length → up.length ≤ i + 1 → 0 ≤ g → g ≤ 100001 + i →
    Limpl_LinkTake_11v1 z0 z1 z2 sent acked g i k (up.map .str) q (l.map eP) = some (.tup [.agg [.int .i64 sent, .int .i64 acked, .os (1, 0) q, .int .i64 (popF g (l.drop i)).2.1, .os (2, 0) ((popF g (l.drop i)).2.2.map eP)], .os (1, 0) ((up ++ (popF g (l.drop i)).1).map .str)], [])
  | 0, i, up, g, hi, hu, hg, hg2 => by
    rw [Limpl_LinkTake_11v1_eq, br_not (by simp [ni]), ocall_some (v_cloneP (by simp [part])), asOs_os, unn_nil, List.drop_of_length_le (by omega)]
    simp [popF, part]
  | k + 1, i, up, g, hi, hu, hg, hg2 => by
    obtain ⟨x, hx⟩ := get_of_lt (l := l) (i := i) (by omega)
    have hb : (decide (0 ≤ 0) && decide ((0 : Int) < ni (k + 1)) && decide (i + (k + 1) ≤ (l.map eP).length)) = true := by simp [ni]; omega
    have hlim : decide (ni (up.map D.str ++ [D.str x.text]).length ≤ LIM) = true := decide_eq_true (by simp only [ni, LIM_eq, List.length_append, List.length_map, List.length_cons, List.length_nil]; omega)
    have hcut : cutOkX (k + 1) ((l.map eP).length - i) (some 1) none = true := by simp [cutOkX]; omega
    have hpart : part (l.map eP) (some (i, k + 1)) = (l.drop i).map eP := by
      simp only [part, ← List.map_drop, ← List.map_take]
      rw [List.take_of_length_le (by rw [List.length_drop]; omega)]
    have hb0 : decide (ni (k + 1) > 0) = true := decide_eq_true (by simp only [ni]; omega)
    have e0 : i + Int.toNat 0 = i := rfl
    rw [Limpl_LinkTake_11v1_eq, br_of hb0, grd_of hb, e0, oget_map hx, eP_mk x, asAgg_agg, oget_lit0, asI_int, drop_at hx]
    unfold popF
    by_cases h : x.no = g
    · rw [br_of (by simp [h]), if_pos h, grd_of hb, oget_map hx, eP_mk x, asAgg_agg, oget_lit1, asS_str, grd_of hlim, nam_eq, grd_of hcut, w64 (by omega) (by omega)]
      have := popI_loop (q := q) hl z0 z1 z2 sent acked k (i + 1) (up ++ [x.text]) (g + 1) (by omega) (by simp; omega) (by omega) (by omega)
      simp only [List.map_append, List.map_cons, List.map_nil] at this
      refine this.trans ?_
      simp
    · rw [br_not (by simp [h]), if_neg h, hpart, ocall_some (v_cloneP (by simp; omega)), asOs_os, unn_nil, drop_at hx]
      simp
theorem popI_first {l : List Pc} {q : List D} (hl : l.length < 4294967295) (z0 z1 z2 sent acked : Int) (s : ByteArray) (g : Int) (hg : 0 ≤ g) (hg2 : g ≤ 100001) :
    Limpl_LinkTake_11 z0 z1 z2 sent acked g [D.str s] q (l.map eP) = some (.tup [.agg [.int .i64 sent, .int .i64 acked, .os (1, 0) q, .int .i64 (popF g l).2.1, .os (2, 0) ((popF g l).2.2.map eP)], .os (1, 0) ((s :: (popF g l).1).map .str)], []) := by
  cases l with
  | nil => rw [Limpl_LinkTake_11_eq, br_not (by rfl), ocall_some (v_cloneP (by simp)), asOs_os, unn_nil]; rfl
  | cons x r =>
    have hlen : r.length + 1 < 4294967295 := by simpa using hl
    have hb0 : decide (ni (List.map eP (x :: r)).length > 0) = true := decide_eq_true (by simp only [ni, List.map_cons, List.length_cons]; omega)
    have hb : (decide (0 ≤ 0) && decide ((0 : Int) < ni (List.map eP (x :: r)).length)) = true := by simp only [ni, List.map_cons, List.length_cons, Bool.and_eq_true, decide_eq_true_eq]; omega
    have hlim : decide (ni ([D.str s] ++ [D.str x.text]).length ≤ LIM) = true := decide_eq_true (by simp [ni, LIM_eq])
    have hcut : cutOk (List.map eP (x :: r)).length (some 1) none = true := by simp [cutOk]; omega
    have hx : (x :: r)[0]? = some x := rfl
    rw [Limpl_LinkTake_11_eq, br_of hb0, grd_of hb, oget_map hx, eP_mk x, asAgg_agg, oget_lit0, asI_int]
    unfold popF
    by_cases h : x.no = g
    · rw [br_of (by simp [h]), if_pos h, grd_of hb, oget_map hx, eP_mk x, asAgg_agg, oget_lit1, asS_str, grd_of hlim, nam_eq, grd_of hcut, w64 (by omega) (by omega)]
      have := popI_loop (q := q) hl z0 z1 z2 sent acked r.length 1 [s, x.text] (g + 1) (by simp; omega) (by simp) (by omega) (by omega)
      have e1 : (List.map eP (x :: r)).length - Int.toNat 1 = r.length := by simp
      rw [e1]
      exact this
    · rw [br_not (by simp [h]), if_neg h, ocall_some (v_cloneP (by simp; omega)), asOs_os, unn_nil]
      rfl
theorem v_impl_take {l : Lk} (h1 : l.queue.length < 4294967295) (h2 : l.held.length < 4294967295) (p : Pc) : V 11 [eK l, .agg [.int .i64 p.no, .str p.text]] = some (.tup [oK (takeF l p).1, .os (1, 0) ((takeF l p).2.map .str)], []) := by
  have hs := v_impl_okK (l := l) (by omega) (by omega)
  have hc := v_copyK (l := l) (by omega) (by omega)
  have e : V 11 [eK l, .agg [.int .i64 p.no, .str p.text]] = _ := eimpl_LinkTake l.sent l.acked (l.queue.map .str) l.got (l.held.map eP) p.no p.text
  rw [e]
  unfold eK at hs hc
  unfold oK at hc
  unfold takeF
  rw [ocall_some hs, asB_bool, unn_nil]
  cases hok : okK l with
  | false => rfl
  | true =>
    have hf := okK_facts hok
    obtain ⟨hso, hno, hl3⟩ := held_facts hok
    have hm := mnI_le (l.got + 4) l.sent
    obtain ⟨r, b, hsr, hr, hfd⟩ := v_search (l := l.held) (by omega) p.no
    rw [Bool.not_true, br_false, ocall_some hc, asAgg_agg, unc_cons, asI_int, unc_cons, asI_int, unc_cons, asOs_os, unc_cons, asI_int, unc_cons, asOs_os, unn_nil, unn_nil, if_pos rfl]
    have ins : ((ocall V 29 [(.rs (2, 0) (l.held.map eP)), (.int .i64 p.no), (.fn 30 [])] fun x21 l22 =>
                   asTup x21 fun l23 => unc l23 fun x24 l25 => asI .i64 x24 fun n26 => unc l25 fun x27 l28 => asB x27 fun b29 => unn l28 (unn l22 (ocall V 31 [(.int .i64 p.no), (.int .i64 (IntKind.wrap IntKind.i64 (l.got + 1))), (.int .i64 (IntKind.wrap IntKind.i64 (mnI (IntKind.wrap IntKind.i64 (l.got + 4)) l.sent - 1)))] fun x30 l31 =>
                         asB x30 fun b32 => unn l31 (br b32
                           (br (!b29)
                            (ocall V 32 [(.os (2, 0) (l.held.map eP)), (.int .i64 n26), (.os (2, 0) [(.agg [(.int .i64 p.no), (.str p.text)])])] fun x33 l34 =>
                             asOs (2, 0) x33 fun l35 => unn l34 (some ((.tup [(.agg [(.int .i64 l.sent), (.int .i64 l.acked), (.os (1, 0) (l.queue.map .str)), (.int .i64 l.got), (.os (2, 0) l35)]), (.os (1, 0) [])]), [])))
                            (some ((.tup [(.agg [(.int .i64 l.sent), (.int .i64 l.acked), (.os (1, 0) (l.queue.map .str)), (.int .i64 l.got), (.os (2, 0) (l.held.map eP))]), (.os (1, 0) [])]), [])))
                           (some ((.tup [(.agg [(.int .i64 l.sent), (.int .i64 l.acked), (.os (1, 0) (l.queue.map .str)), (.int .i64 l.got), (.os (2, 0) (l.held.map eP))]), (.os (1, 0) [])]), [])))))) : Option Ret) =
        some (.tup [oK (if wi p.no (l.got + 1) (mnI (l.got + 4) l.sent - 1) then { l with held := holdF p l.held } else l), .os (1, 0) []], []) := by
      rw [ocall_some hsr, asTup_tup, unc_cons, asI_int, unc_cons, asB_bool, unn_nil, unn_nil, w64 (n := l.got + 4) (by omega) (by omega), w64 (n := l.got + 1) (by omega) (by omega), w64 (n := mnI (l.got + 4) l.sent - 1) (by omega) (by omega), ocall_some (v_within _ _ _), asB_bool, unn_nil]
      cases hw : wi p.no (l.got + 1) (mnI (l.got + 4) l.sent - 1) with
      | false => rfl
      | true =>
        have hw' := hw
        simp only [wi, Bool.and_eq_true, decide_eq_true_eq] at hw'
        have hfo := hfd (fun q hq => by have := hno q hq; omega) hso
        have hh := holdF_found hr hfo
        rw [br_true, if_pos rfl, hh]
        cases b with
        | true => rfl
        | false =>
          rw [Bool.not_false, br_true, ocall_some (v_insert _ (by rw [List.length_map]; exact hr) (by rw [List.length_map]; omega)), asOs_os, unn_nil]
          simp [oK, eP]
    by_cases hp : p.no = l.got
    · rw [br_not (by simp [hp])]
      by_cases hg : l.got ≥ l.sent
      · rw [br_of (decide_eq_true hg)]
        refine ins.trans ?_
        have w1 : wi p.no (l.got + 1) (mnI (l.got + 4) l.sent - 1) = false := by simp only [wi, Bool.and_eq_false_iff, decide_eq_false_iff_not]; omega
        have w2 : wi p.no l.got (mnI (l.got + 4) l.sent - 1) = false := by simp only [wi, Bool.and_eq_false_iff, decide_eq_false_iff_not]; omega
        rw [w1, w2]; rfl
      · have w2 : wi p.no l.got (mnI (l.got + 4) l.sent - 1) = true := by simp only [wi, Bool.and_eq_true, decide_eq_true_eq]; omega
        rw [br_not (decide_eq_false hg), w2, if_pos rfl, if_neg (by omega), w64 (by omega) (by omega)]
        rw [popI_first (l := l.held) (q := l.queue.map .str) (by omega) 0 0 0 l.sent l.acked p.text (l.got + 1) (by omega) (by omega)]
        rfl
    · rw [br_of (by simp [hp])]
      refine ins.trans ?_
      by_cases hw : wi p.no (l.got + 1) (mnI (l.got + 4) l.sent - 1) = true
      · have hw' := hw
        simp only [wi, Bool.and_eq_true, decide_eq_true_eq] at hw'
        have w2 : wi p.no l.got (mnI (l.got + 4) l.sent - 1) = true := by simp only [wi, Bool.and_eq_true, decide_eq_true_eq]; omega
        rw [if_pos hw, if_pos w2, if_pos (by omega)]; rfl
      · have w2 : ¬ wi p.no l.got (mnI (l.got + 4) l.sent - 1) = true := by
          intro h
          simp only [wi, Bool.and_eq_true, decide_eq_true_eq] at h hw
          omega
        rw [if_neg hw, if_neg w2]; rfl
end Go.Eng
/-! what LinkTake leaves is good -/
namespace Go.Eng
open Go.Proofs Go.Proofs.Try

noncomputable def Asc (l : List Pc) : Prop := l.Pairwise fun p q => p.no < q.no
theorem asc_of {l : List Pc} (h : Sorted l) : Asc l := by
  refine List.pairwise_iff_getElem.2 fun i j hi hj hij => ?_
  exact h i j _ _ hij (List.getElem?_eq_getElem hi) (List.getElem?_eq_getElem hj)
theorem sorted_of {l : List Pc} (h : Asc l) : Sorted l := by
  intro i j p q hij hp hq
  have h1 := lt_of_get hp
  have h2 := lt_of_get hq
  have := List.pairwise_iff_getElem.1 h i j h1 h2 hij
  rw [List.getElem?_eq_getElem h1] at hp
  rw [List.getElem?_eq_getElem h2] at hq
  cases hp; cases hq
  exact this
theorem holdF_asc (p : Pc) : ∀ {l : List Pc}, Asc l → Asc (holdF p l) ∧ ∀ q ∈ holdF p l, q = p ∨ q ∈ l
  | [], _ => ⟨by simp [holdF, Asc], by simp [holdF]⟩
  | q :: r, h => by
    have hc := List.pairwise_cons.1 h
    obtain ⟨h1, h2⟩ := holdF_asc p (l := r) hc.2
    simp only [holdF]
    split
    · split
      · rename_i hge hgt
        refine ⟨List.pairwise_cons.2 ⟨fun x hx => ?_, h⟩, fun x hx => ?_⟩
        · rcases List.mem_cons.1 hx with rfl | hx
          · exact hgt
          · have := hc.1 x hx; omega
        · simpa using hx
      · exact ⟨h, fun x hx => .inr hx⟩
    · rename_i hlt
      refine ⟨List.pairwise_cons.2 ⟨fun x hx => ?_, h1⟩, fun x hx => ?_⟩
      · rcases h2 x hx with rfl | hx
        · omega
        · exact hc.1 x hx
      · rcases List.mem_cons.1 hx with rfl | hx
        · exact .inr (by simp)
        · rcases h2 x hx with h | h
          · exact .inl h
          · exact .inr (by simp [h])
theorem popF_asc : ∀ {l : List Pc} {g S : Int}, Asc l → (∀ q ∈ l, g ≤ q.no ∧ q.no < S) → g ≤ S → Asc (popF g l).2.2 ∧ (∀ q ∈ (popF g l).2.2, (popF g l).2.1 + 1 ≤ q.no ∧ q ∈ l) ∧ (popF g l).2.1 ≤ S
  | [], g, S, h, hg, hS => by simp [popF, Asc, hS]
  | q :: r, g, S, h, hg, hS => by
    have hc := List.pairwise_cons.1 h
    have h0 := hg q (by simp)
    simp only [popF]
    split
    · rename_i e
      obtain ⟨h1, h2, h3⟩ := popF_asc (g := g + 1) (S := S) hc.2 (fun x hx => by have := hc.1 x hx; have := hg x (by simp [hx]); omega) (by omega)
      exact ⟨h1, fun x hx => ⟨(h2 x hx).1, by simp [(h2 x hx).2]⟩, h3⟩
    · rename_i e
      refine ⟨h, fun x hx => ⟨?_, hx⟩, hS⟩
      rcases List.mem_cons.1 hx with rfl | hx'
      · simp only; omega
      · have := hc.1 x hx'; simp only; omega
theorem heldFrom_of {l : Lk} : ∀ (k i : Nat), (∀ j p, i ≤ j → j < i + k → l.held[j]? = some p → wi p.no (l.got + 1) (mnI (l.got + 4) l.sent - 1) = true ∧ prevOk l.held j p = true) → heldFrom l i k = true
  | 0, i, h => rfl
  | k + 1, i, h => by
    simp only [heldFrom, Bool.and_eq_true]
    refine ⟨?_, heldFrom_of k (i + 1) fun j p h1 h2 hp => h j p (by omega) (by omega) hp⟩
    cases hp : l.held[i]? with
    | none => rfl
    | some p => simpa using h i p (Nat.le_refl _) (by omega) hp
theorem okK_of {l : Lk} (h1 : 0 ≤ l.acked) (h2 : l.acked ≤ l.got) (h3 : l.got ≤ l.sent) (h4 : l.sent ≤ 100000) (h5 : (l.queue.length : Int) = l.sent - l.acked) (h6 : (l.queue.length : Int) ≤ 30) (hs : Asc l.held) (hw : ∀ q ∈ l.held, l.got + 1 ≤ q.no ∧ q.no ≤ mnI (l.got + 4) l.sent - 1) : okK l = true := by
  have hh : heldFrom l 0 l.held.length = true := by
    refine heldFrom_of _ _ fun j p _ _ hp => ⟨?_, ?_⟩
    · have := hw p (List.mem_of_getElem? hp)
      simp only [wi, Bool.and_eq_true, decide_eq_true_eq]; omega
    · cases j with
      | zero => rfl
      | succ j =>
        obtain ⟨q, hq⟩ := get_of_lt (l := l.held) (i := j) (by have := lt_of_get hp; omega)
        have := sorted_of hs j (j + 1) q p (by omega) hq hp
        simp only [prevOk, hq, Bool.not_eq_true', decide_eq_false_iff_not]; omega
  simp only [okK, wi, hh, Bool.and_true, Bool.and_eq_true, decide_eq_true_eq, beq_iff_eq, Bool.not_eq_true', decide_eq_false_iff_not]
  omega
theorem held_facts2 {l : Lk} (h : okK l = true) : ∀ q ∈ l.held, l.got + 1 ≤ q.no ∧ q.no ≤ mnI (l.got + 4) l.sent - 1 := by
  have hh : heldFrom l 0 l.held.length = true := by simp only [okK, Bool.and_eq_true] at h; exact h.2.2.2.2.2
  intro q hq
  obtain ⟨j, hj⟩ := List.getElem?_of_mem hq
  have := (heldFrom_get l.held.length 0 hh j q (by omega) (by have := lt_of_get hj; omega) hj).1
  simpa only [wi, Bool.and_eq_true, decide_eq_true_eq] using this
/-- what a good link takes: good again; told is what came from got on -/
theorem takeF_good {l : Lk} (h : okK l = true) (p : Pc) : okK (takeF l p).1 = true ∧ (takeF l p).1.got = l.got + (takeF l p).2.length ∧ ((takeF l p).2 = [] ∨ (p.no = l.got ∧ ∃ r, (takeF l p).2 = p.text :: r)) := by
  have hf := okK_facts h
  have hw := held_facts2 h
  have ha := asc_of (held_facts h).1
  have hm := mnI_le (l.got + 4) l.sent
  unfold takeF
  rw [if_pos h]
  split
  · rename_i hin
    simp only [wi, Bool.and_eq_true, decide_eq_true_eq] at hin
    split
    · rename_i hgt
      obtain ⟨h1, h2⟩ := holdF_asc p ha
      refine ⟨okK_of (l := { l with held := holdF p l.held }) (by simp only; omega) (by simp only; omega) (by simp only; omega) (by simp only; omega) (by simp only; omega) (by simp only; omega) h1 fun q hq => ?_, by simp, .inl rfl⟩
      rcases h2 q hq with rfl | hq'
      · simp only; omega
      · exact hw q hq'
    · rename_i hle
      obtain ⟨h1, h2, h3⟩ := popF_asc (g := l.got + 1) (S := l.sent) ha (fun q hq => by have := hw q hq; omega) (by omega)
      have h4 := popF_facts l.held (l.got + 1)
      have hm2 := mnI_le ((popF (l.got + 1) l.held).2.1 + 4) l.sent
      refine ⟨okK_of (l := (upL l p).1) (by simp only [upL]; omega) (by simp only [upL]; omega) (by simp only [upL]; omega) (by simp only [upL]; omega) (by simp only [upL]; omega) (by simp only [upL]; omega) h1 fun q hq => ?_, ?_, .inr ⟨by omega, _, rfl⟩⟩
      · have h5 := h2 q hq
        have h6 := hw q h5.2
        simp only [upL]
        omega
      · simp only [upL, List.length_cons]; omega
  · exact ⟨h, by simp, .inl rfl⟩
end Go.Eng
/-! a call and its results, taken in one step -/
namespace Go.Eng
open Go.Proofs
theorem oc_i_LinkTake {ds : List D} {v8 : Int} {v11 : Int} {v14 : List D} {v17 : Int} {v20 : List D} {v23 : List D} (h : V 11 ds = some (.tup [.agg [.int .i64 v8, .int .i64 v11, .os (1, 0) v14, .int .i64 v17, .os (2, 0) v20], .os (1, 0) v23], [])) (K : Int → Int → List D → Int → List D → List D → Option Ret) : ocall V 11 ds (fun v0 v1 => asTup v0 fun v2 => unc v2 fun v3 v4 => asAgg v3 fun v5 => unc v5 fun v6 v7 => asI .i64 v6 fun v8 => unc v7 fun v9 v10 => asI .i64 v9 fun v11 => unc v10 fun v12 v13 => asOs (1, 0) v12 fun v14 => unc v13 fun v15 v16 => asI .i64 v15 fun v17 => unc v16 fun v18 v19 => asOs (2, 0) v18 fun v20 => unn v19 (unc v4 fun v21 v22 => asOs (1, 0) v21 fun v23 => unn v22 (unn v1 ((K v8 v11 v14 v17 v20 v23))))) = K v8 v11 v14 v17 v20 v23 := (ocall_some h _).trans rfl
theorem oc_w_digits {ds : List D} {v2 : ByteArray} (h : V 9 ds = some (.str v2, [])) (K : ByteArray → Option Ret) : ocall V 9 ds (fun v0 v1 => asS v0 fun v2 => unn v1 ((K v2))) = K v2 := (ocall_some h _).trans rfl
theorem oc_w_at {ds : List D} {v2 : Int} (h : V 8 ds = some (.int .i64 v2, [])) (K : Int → Option Ret) : ocall V 8 ds (fun v0 v1 => asI .i64 v0 fun v2 => unn v1 ((K v2))) = K v2 := (ocall_some h _).trans rfl
theorem oc_i_LinkSend {ds : List D} {v8 : Int} {v11 : Int} {v14 : List D} {v17 : Int} {v20 : List D} {v23 : Bool} (h : V 7 ds = some (.tup [.agg [.int .i64 v8, .int .i64 v11, .os (1, 0) v14, .int .i64 v17, .os (2, 0) v20], .bool v23], [])) (K : Int → Int → List D → Int → List D → Bool → Option Ret) : ocall V 7 ds (fun v0 v1 => asTup v0 fun v2 => unc v2 fun v3 v4 => asAgg v3 fun v5 => unc v5 fun v6 v7 => asI .i64 v6 fun v8 => unc v7 fun v9 v10 => asI .i64 v9 fun v11 => unc v10 fun v12 v13 => asOs (1, 0) v12 fun v14 => unc v13 fun v15 v16 => asI .i64 v15 fun v17 => unc v16 fun v18 v19 => asOs (2, 0) v18 fun v20 => unn v19 (unc v4 fun v21 v22 => asB v21 fun v23 => unn v22 (unn v1 ((K v8 v11 v14 v17 v20 v23))))) = K v8 v11 v14 v17 v20 v23 := (ocall_some h _).trans rfl
theorem oc_i_LinkShow {ds : List D} {v2 : List D} (h : V 10 ds = some (.os (2, 0) v2, [])) (K : List D → Option Ret) : ocall V 10 ds (fun v0 v1 => asOs (2, 0) v0 fun v2 => unn v1 ((K v2))) = K v2 := (ocall_some h _).trans rfl
theorem oc_i_LinkAck {ds : List D} {v8 : Int} {v11 : Int} {v14 : List D} {v17 : Int} {v20 : List D} {v23 : Bool} (h : V 12 ds = some (.tup [.agg [.int .i64 v8, .int .i64 v11, .os (1, 0) v14, .int .i64 v17, .os (2, 0) v20], .bool v23], [])) (K : Int → Int → List D → Int → List D → Bool → Option Ret) : ocall V 12 ds (fun v0 v1 => asTup v0 fun v2 => unc v2 fun v3 v4 => asAgg v3 fun v5 => unc v5 fun v6 v7 => asI .i64 v6 fun v8 => unc v7 fun v9 v10 => asI .i64 v9 fun v11 => unc v10 fun v12 v13 => asOs (1, 0) v12 fun v14 => unc v13 fun v15 v16 => asI .i64 v15 fun v17 => unc v16 fun v18 v19 => asOs (2, 0) v18 fun v20 => unn v19 (unc v4 fun v21 v22 => asB v21 fun v23 => unn v22 (unn v1 ((K v8 v11 v14 v17 v20 v23))))) = K v8 v11 v14 v17 v20 v23 := (ocall_some h _).trans rfl
theorem oc_w_sameTexts {ds : List D} {v2 : Bool} (h : V 13 ds = some (.bool v2, [])) (K : Bool → Option Ret) : ocall V 13 ds (fun v0 v1 => asB v0 fun v2 => unn v1 ((K v2))) = K v2 := (ocall_some h _).trans rfl
theorem oc_w_big {ds : List D} {v2 : Bool} (h : V 6 ds = some (.bool v2, [])) (K : Bool → Option Ret) : ocall V 6 ds (fun v0 v1 => asB v0 fun v2 => unn v1 ((K v2))) = K v2 := (ocall_some h _).trans rfl
end Go.Eng
/-! what is drawn: the cursor -/
namespace Go.Eng
open Go.Proofs Go.Proofs.Try

noncomputable def eB (x : Int) : D := .int .u8 x
section
variable {b : List Int} {c : Int × Int}
end
theorem v_big (b : List Int) : V 6 [.rs (1, 0) (b.map eB)] = some (.bool (decide ((b.length : Int) > 1048576)), []) := by
  rw [elaws_big, List.length_map]
end Go.Eng
/-! what is drawn: links -/
namespace Go.Eng
open Go.Proofs Go.Proofs.Try

end Go.Eng
/-! the laws on drawn links: FnShown, FnAcked, FnSent -/
namespace Go.Eng
open Go.Proofs Go.Proofs.Try

theorem same_loop {l : List ByteArray} (hl : l.length < 4611686018427387904) : ∀ (k i : Nat), i + k = l.length → Llaws_sameTexts_4 (l.map .str) (l.map .str) (i : Int) = some (.bool true, [])
  | 0, i, hi => by rw [Llaws_sameTexts_4_eq, br_not (by rw [List.length_map]; exact ge_idx (by omega))]
  | k + 1, i, hi => by
    obtain ⟨x, hx⟩ := get_of_lt (l := l) (i := i) (by omega)
    rw [Llaws_sameTexts_4_eq, br_of (by rw [List.length_map]; exact lt_idx (by omega)), grd_of (by rw [List.length_map]; exact in_idx (by omega)), Int.toNat_natCast, oget_map hx, asS_str, grd_of (by rw [List.length_map]; exact in_idx (by omega)), oget_map hx, asS_str, br_not (by rw [strEq_refl]; rfl), w64s (by omega)]
    exact same_loop hl k (i + 1) (by omega)
theorem v_same {l : List ByteArray} (hl : l.length < 4611686018427387904) : V 13 [.rs (1, 0) (l.map .str), .rs (1, 0) (l.map .str)] = some (.bool true, []) := by
  rw [elaws_sameTexts, br_not (by simp)]
  exact same_loop hl l.length 0 (by omega)

/-! ## FnShown -/
theorem showFrom_get (l : Lk) : ∀ (k i j : Nat), i + k ≤ l.queue.length → j < k → ∃ s, l.queue[i + j]? = some s ∧ (showFrom l i k)[j]? = some ⟨IntKind.wrap .i64 (l.acked + ((i + j : Nat) : Int)), s⟩
  | 0, i, j, _, h => by omega
  | k + 1, i, j, h1, h2 => by
    obtain ⟨s, hs⟩ := get_of_lt (l := l.queue) (i := i) (by omega)
    cases j with
    | zero => exact ⟨s, hs, by simp [showFrom, hs]⟩
    | succ j =>
      obtain ⟨s', h3, h4⟩ := showFrom_get l k (i + 1) j (by omega) (by omega)
      rw [show i + 1 + j = i + (j + 1) by omega] at h3 h4
      exact ⟨s', h3, by simp only [showFrom, hs]; simpa using h4⟩
/-! ## FnAcked -/
/-! ## FnSent -/
end Go.Eng
