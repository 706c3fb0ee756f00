/- the program and the reference on plain data, part 1 -/
import Derived.Test.YtnnedacillllmaaEngC
import Derived.Test.YtnnedacillllmaaProg
import Derived.Shelf.Spec.SlicesInsertGrow
/-! the functions as the interpreter has them: loop heads -/
namespace Go.Eng
open Go.Proofs Go.Proofs.Try
set_option maxRecDepth 100000
noncomputable def cf0 : Cfg := { ext := fun f => match f with | 32 => some insP | _ => none, own := fun f => match f with | 14 => false | 35 => false | _ => true, mode := fun f i => match f, i with | 24, 0 => .mut | 25, 0 => .mut | 48, 0 => .mut | 60, 0 => .mut | 32, 0 => .mv | 32, 2 => .mv | _, _ => .ro }
noncomputable abbrev V := Vn Try.prog cf0
noncomputable abbrev R := Rn Try.prog cf0
noncomputable def Limpl_LinkTake_11 (p0 : Int) (p1 : Int) (p2 : Int) (p3 : Int) (p4 : Int) (p5 : Int) (p6 : List D) (p7 : List D) (p8 : List D) : Option Ret := R 11 Try.f11 [] (headAt Try.f11 11) ⟨[.undef, .undef, .undef, .undef, .ref 0 0 0, .undef, .ref 1 0 0, .undef, .undef, .asl 2 none, .undef, .undef, .undef, .undef, .undef, .undef, .undef, .undef, .undef, .undef, .undef, .undef, .undef, .undef, .undef, .undef, .undef, .undef, .undef, .undef, .undef, .undef, .undef, .undef, .undef, .undef, .undef, .undef, .undef, .undef, .undef, .undef, .undef, .undef, .undef, .undef, .undef, .undef, .undef, .undef, .undef, .undef, .undef, .undef, .undef, .undef, .undef, .undef, .undef, .undef, .undef, .undef, .undef, .undef, .undef, .undef, .undef, .undef, .undef, .undef, .undef, .undef, .undef, .undef, .undef, .undef, .undef, .undef, .undef, .undef, .undef, .undef, .undef, .undef, .undef, .undef, .undef, .undef, .undef, .undef, .undef, .undef, .undef, .undef, .undef, .undef, .undef, .undef, .undef, .undef, .undef, .undef, .undef, .undef], [(0, some (.var [.d (.int .i64 p0), .d (.int .i64 p1), .d .nl, .d (.int .i64 p2), .d .nl])), (1, some (.var [.d (.int .i64 p3), .d (.int .i64 p4), .asl 3 none, .d (.int .i64 p5), .asl 4 none])), (2, some (.arr (1, 0) p6)), (3, some (.arr (1, 0) p7)), (4, some (.arr (2, 0) p8))], 5, []⟩
noncomputable def Limpl_LinkTake_11v1 (p0 : Int) (p1 : Int) (p2 : Int) (p3 : Int) (p4 : Int) (p5 : Int) (p6 : Nat) (p7 : Nat) (p8 : List D) (p9 : List D) (p10 : List D) : Option Ret := R 11 Try.f11 [] (headAt Try.f11 11) ⟨[.undef, .undef, .undef, .undef, .ref 0 0 0, .undef, .ref 1 0 0, .undef, .undef, .asl 2 none, .undef, .undef, .undef, .undef, .undef, .undef, .undef, .undef, .undef, .undef, .undef, .undef, .undef, .undef, .undef, .undef, .undef, .undef, .undef, .undef, .undef, .undef, .undef, .undef, .undef, .undef, .undef, .undef, .undef, .undef, .undef, .undef, .undef, .undef, .undef, .undef, .undef, .undef, .undef, .undef, .undef, .undef, .undef, .undef, .undef, .undef, .undef, .undef, .undef, .undef, .undef, .undef, .undef, .undef, .undef, .undef, .undef, .undef, .undef, .undef, .undef, .undef, .undef, .undef, .undef, .undef, .undef, .undef, .undef, .undef, .undef, .undef, .undef, .undef, .undef, .undef, .undef, .undef, .undef, .undef, .undef, .undef, .undef, .undef, .undef, .undef, .undef, .undef, .undef, .undef, .undef, .undef, .undef, .undef], [(0, some (.var [.d (.int .i64 p0), .d (.int .i64 p1), .d .nl, .d (.int .i64 p2), .d .nl])), (1, some (.var [.d (.int .i64 p3), .d (.int .i64 p4), .asl 3 none, .d (.int .i64 p5), .asl 4 (some (p6, p7))])), (2, some (.arr (1, 0) p8)), (3, some (.arr (1, 0) p9)), (4, some (.arr (2, 0) p10))], 5, []⟩
noncomputable def Lspec_LinkTake_12 (p0 : Int) (p1 : Int) (p2 : Int) (p3 : List D) (p4 : Int) (p5 : Int) (p6 : Int) (p7 : List D) (p8 : List D) : Option Ret := R 15 Try.f15 [] (headAt Try.f15 12) ⟨[.undef, .undef, .undef, .undef, .ref 0 0 0, .undef, .asl 1 none, .ref 2 0 0, .undef, .undef, .undef, .undef, .undef, .undef, .undef, .undef, .undef, .undef, .undef, .undef, .undef, .undef, .undef, .undef, .undef, .undef, .undef, .undef, .undef, .undef, .undef, .undef, .undef, .undef, .undef, .undef, .undef, .undef, .undef, .undef, .undef, .undef, .undef, .undef, .undef, .undef, .undef, .undef, .undef, .undef, .undef, .undef, .undef, .undef, .undef, .undef, .undef, .undef, .undef, .undef, .undef, .undef, .undef, .undef, .undef, .undef, .undef, .undef, .undef, .undef, .undef, .undef, .undef, .undef, .undef, .undef, .undef, .undef, .undef, .undef, .undef, .undef, .undef, .undef, .undef, .undef, .undef, .undef, .undef], [(0, some (.var [.d (.int .i64 p0), .d (.int .i64 p1), .d .nl, .d (.int .i64 p2), .d .nl])), (1, some (.arr (1, 0) p3)), (2, some (.var [.d (.int .i64 p4), .d (.int .i64 p5), .asl 3 none, .d (.int .i64 p6), .asl 4 none])), (3, some (.arr (1, 0) p7)), (4, some (.arr (2, 0) p8))], 5, []⟩
noncomputable def Lspec_LinkTake_12v1 (p0 : Int) (p1 : Int) (p2 : Int) (p3 : List D) (p4 : Int) (p5 : Int) (p6 : Int) (p7 : Nat) (p8 : Nat) (p9 : List D) (p10 : List D) : Option Ret := R 15 Try.f15 [] (headAt Try.f15 12) ⟨[.undef, .undef, .undef, .undef, .ref 0 0 0, .undef, .asl 1 none, .ref 2 0 0, .undef, .undef, .undef, .undef, .undef, .undef, .undef, .undef, .undef, .undef, .undef, .undef, .undef, .undef, .undef, .undef, .undef, .undef, .undef, .undef, .undef, .undef, .undef, .undef, .undef, .undef, .undef, .undef, .undef, .undef, .undef, .undef, .undef, .undef, .undef, .undef, .undef, .undef, .undef, .undef, .undef, .undef, .undef, .undef, .undef, .undef, .undef, .undef, .undef, .undef, .undef, .undef, .undef, .undef, .undef, .undef, .undef, .undef, .undef, .undef, .undef, .undef, .undef, .undef, .undef, .undef, .undef, .undef, .undef, .undef, .undef, .undef, .undef, .undef, .undef, .undef, .undef, .undef, .undef, .undef, .undef], [(0, some (.var [.d (.int .i64 p0), .d (.int .i64 p1), .d .nl, .d (.int .i64 p2), .d .nl])), (1, some (.arr (1, 0) p3)), (2, some (.var [.d (.int .i64 p4), .d (.int .i64 p5), .asl 3 none, .d (.int .i64 p6), .asl 4 (some (p7, p8))])), (3, some (.arr (1, 0) p9)), (4, some (.arr (2, 0) p10))], 5, []⟩
noncomputable def Lspec_LinkOk_4 (p0 : Int) (p1 : Int) (p2 : Int) (p3 : List D) (p4 : Int) (p5 : List D) : Option Ret := R 16 Try.f16 [] (headAt Try.f16 4) ⟨[.undef, .ref 0 0 0, .undef, .d (.int .i64 p0), .undef, .undef, .undef, .undef, .undef, .undef, .undef, .undef, .undef, .undef, .undef, .undef, .undef, .undef, .undef, .undef, .undef, .undef, .undef, .undef, .undef, .undef, .undef, .undef, .undef, .undef, .undef, .undef, .undef, .undef, .undef, .undef, .undef, .undef, .undef, .undef, .undef, .undef, .undef, .undef, .undef, .undef, .undef, .undef, .undef, .undef, .undef, .undef, .undef, .undef, .undef, .undef, .undef, .undef, .undef, .undef, .undef, .undef, .undef, .undef, .undef, .undef, .undef, .undef, .undef, .undef, .undef, .undef, .undef, .undef, .undef, .undef, .undef, .undef, .undef, .undef, .undef, .undef, .undef], [(0, some (.var [.d (.int .i64 p1), .d (.int .i64 p2), .d (.rs (1, 0) p3), .d (.int .i64 p4), .d (.rs (2, 0) p5)]))], 1, []⟩
noncomputable def Limpl_LinkOk_4 (p0 : List D) (p1 : Int) (p2 : Int) (p3 : Int) (p4 : Int) (p5 : List D) (p6 : Int) (p7 : List D) : Option Ret := R 17 Try.f17 [] (headAt Try.f17 4) ⟨[.undef, .ref 0 0 0, .undef, .undef, .undef, .undef, .undef, .undef, .undef, .undef, .undef, .undef, .undef, .undef, .undef, .undef, .undef, .undef, .undef, .undef, .undef, .undef, .undef, .undef, .undef, .undef, .undef, .undef, .undef, .undef, .undef, .undef, .undef, .undef, .undef, .undef, .undef, .undef, .undef, .undef, .undef, .undef, .undef, .d (.rs (2, 0) p0), .d (.int .i64 p1), .d (.int .i64 p2), .undef, .undef, .undef, .undef, .undef, .undef, .undef, .undef, .undef, .undef, .undef, .undef, .undef, .undef, .undef, .undef, .undef, .undef, .undef, .undef, .undef, .undef, .undef, .undef, .undef, .undef, .undef, .undef, .undef, .undef, .undef, .undef, .undef, .undef, .undef], [(0, some (.var [.d (.int .i64 p3), .d (.int .i64 p4), .d (.rs (1, 0) p5), .d (.int .i64 p6), .d (.rs (2, 0) p7)]))], 1, []⟩
noncomputable def Llaws_eqStringS_4 (p0 : List D) (p1 : List D) (p2 : Int) : Option Ret := R 23 Try.f23 [] (headAt Try.f23 4) ⟨[.d (.rs (1, 0) p0), .d (.rs (1, 0) p1), .undef, .undef, .undef, .d (.int .i64 p2), .undef, .undef, .undef, .undef, .undef, .undef, .undef, .undef, .undef, .undef, .undef, .undef, .undef, .undef, .undef, .undef, .undef, .undef, .undef, .undef], [], 0, []⟩
noncomputable def Llaws_markStringS_2 (p0 : Int) (p1 : Int) (p2 : List D) : Option Ret := R 25 Try.f25 [24] (headAt Try.f25 2) ⟨[.asl 0 none, .d (.int .i64 p0), .undef, .undef, .undef, .d (.int .i64 p1), .undef, .undef, .undef, .undef, .undef, .undef, .undef, .undef, .undef, .undef, .undef, .undef, .undef, .undef], [(0, some (.arr (1, 0) p2))], 1, [.asl 0 none]⟩
noncomputable def Llaws_heldStringS_2 (p0 : List D) (p1 : Int) (p2 : Int) : Option Ret := R 27 Try.f27 [] (headAt Try.f27 2) ⟨[.d (.rs (1, 0) p0), .d (.int .i64 p1), .undef, .undef, .undef, .d (.int .i64 p2), .undef, .undef, .undef, .undef, .undef, .undef, .undef, .undef, .undef, .undef, .undef, .undef, .undef, .undef, .undef, .undef], [], 0, []⟩
noncomputable def LBinarySearchFunc_Piece_3 (p0 : List D) (p1 : Int) (p2 : Int) (p3 : Int) (p4 : Int) : Option Ret := R 29 Try.f29 [] (headAt Try.f29 3) ⟨[.d (.rs (2, 0) p0), .d (.int .i64 p1), .fn 30 [], .undef, .undef, .undef, .undef, .undef, .d (.int .i64 p2), .d (.int .i64 p3), .d (.int .i64 p4), .undef, .undef, .undef, .undef, .undef, .undef, .undef, .undef, .undef, .undef, .undef, .undef, .undef, .undef, .undef, .undef, .undef, .undef, .undef, .undef, .undef, .undef, .undef, .undef, .undef, .undef, .undef, .undef, .undef, .undef, .undef, .undef, .undef, .undef, .undef, .undef, .undef, .undef], [], 0, []⟩
noncomputable def Lspec_l10Hold_4 (p0 : List D) (p1 : Bool) (p2 : Int) (p3 : Int) (p4 : ByteArray) (p5 : List D) : Option Ret := R 42 Try.f42 [] (headAt Try.f42 4) ⟨[.d (.rs (2, 0) p0), .undef, .undef, .ref 0 0 0, .undef, .asl 1 none, .d (.bool p1), .d (.int .i64 p2), .undef, .undef, .undef, .undef, .undef, .undef, .undef, .undef, .undef, .undef, .undef, .undef, .undef, .undef, .undef, .undef, .undef, .undef, .undef, .undef, .undef, .undef, .undef, .undef, .undef, .undef, .undef, .undef, .undef, .undef, .undef, .undef, .undef, .undef, .undef, .undef, .undef, .undef, .undef, .undef, .undef, .undef, .undef, .undef, .undef], [(0, some (.var [.d (.int .i64 p3), .d (.str p4)])), (1, some (.arr (2, 0) p5))], 2, []⟩
noncomputable def Llaws_szStringS_5 (p0 : List D) (p1 : Int) (p2 : Int) : Option Ret := R 43 Try.f43 [] (headAt Try.f43 5) ⟨[.d (.rs (1, 0) p0), .d (.int .i64 p1), .undef, .undef, .undef, .d (.int .i64 p2), .undef, .undef, .undef, .undef, .undef, .undef, .undef, .undef, .undef, .undef, .undef, .undef, .undef, .undef, .undef, .undef, .undef, .undef, .undef, .undef, .undef, .undef], [], 0, []⟩
noncomputable def Llaws_szPieceS_5 (p0 : List D) (p1 : Int) (p2 : Int) : Option Ret := R 44 Try.f44 [] (headAt Try.f44 5) ⟨[.d (.rs (2, 0) p0), .d (.int .i64 p1), .undef, .undef, .undef, .d (.int .i64 p2), .undef, .undef, .undef, .undef, .undef, .undef, .undef, .undef, .undef, .undef, .undef, .undef, .undef, .undef, .undef, .undef, .undef, .undef, .undef, .undef, .undef], [], 0, []⟩
noncomputable def Llaws_toStringS_3 (p0 : List D) (p1 : Int) (p2 : List D) : Option Ret := R 45 Try.f45 [] (headAt Try.f45 3) ⟨[.d (.rs (1, 0) p0), .undef, .undef, .asl 0 none, .d (.int .i64 p1), .undef, .undef, .undef, .undef, .undef, .undef, .undef, .undef, .undef, .undef, .undef, .undef, .undef, .undef, .undef, .undef, .undef], [(0, some (.arr (1, 0) p2))], 1, []⟩
noncomputable def Llaws_toPieceS_3 (p0 : List D) (p1 : Int) (p2 : List D) : Option Ret := R 46 Try.f46 [] (headAt Try.f46 3) ⟨[.d (.rs (2, 0) p0), .undef, .undef, .asl 0 none, .d (.int .i64 p1), .undef, .undef, .undef, .undef, .undef, .undef, .undef, .undef, .undef, .undef, .undef, .undef, .undef, .undef, .undef, .undef, .undef, .undef], [(0, some (.arr (2, 0) p2))], 1, []⟩
noncomputable def Llaws_eqPieceS_4 (p0 : List D) (p1 : List D) (p2 : Int) : Option Ret := R 47 Try.f47 [] (headAt Try.f47 4) ⟨[.d (.rs (2, 0) p0), .d (.rs (2, 0) p1), .undef, .undef, .undef, .d (.int .i64 p2), .undef, .undef, .undef, .undef, .undef, .undef, .undef, .undef, .undef, .undef, .undef, .undef, .undef, .undef, .undef, .undef, .undef, .undef, .undef, .undef, .undef], [], 0, []⟩
noncomputable def Llaws_markPieceS_2 (p0 : Int) (p1 : Int) (p2 : List D) : Option Ret := R 48 Try.f48 [25] (headAt Try.f48 2) ⟨[.asl 0 none, .d (.int .i64 p0), .undef, .undef, .undef, .d (.int .i64 p1), .undef, .undef, .undef, .undef, .undef, .undef, .undef, .undef, .undef, .undef, .undef, .undef, .undef, .undef, .undef, .undef, .undef, .undef, .undef, .undef, .undef, .undef], [(0, some (.arr (2, 0) p2))], 1, [.asl 0 none]⟩
noncomputable def Llaws_markText_4 (p0 : Int) (p1 : ByteArray) : Option Ret := R 49 Try.f49 [] (headAt Try.f49 4) ⟨[.d (.int .i64 p0), .undef, .undef, .d (.str p1), .undef, .undef, .undef, .undef, .undef, .undef, .undef, .undef, .undef, .undef, .undef, .undef, .undef, .undef, .undef, .undef], [], 0, []⟩
noncomputable def Llaws_heldPieceS_2 (p0 : List D) (p1 : Int) (p2 : Int) : Option Ret := R 50 Try.f50 [] (headAt Try.f50 2) ⟨[.d (.rs (2, 0) p0), .d (.int .i64 p1), .undef, .undef, .undef, .d (.int .i64 p2), .undef, .undef, .undef, .undef, .undef, .undef, .undef, .undef, .undef, .undef, .undef, .undef, .undef, .undef, .undef, .undef, .undef, .undef, .undef, .undef, .undef, .undef, .undef, .undef, .undef, .undef], [], 0, []⟩
end Go.Eng
/-! the functions as the interpreter has them -/
namespace Go.Eng
open Go.Proofs Go.Proofs.Try
set_option maxRecDepth 100000
theorem elaws_FnExactLinkTake (a0_0 : Int) (a0_1 : Int) (a0_2 : List D) (a0_3 : Int) (a0_4 : List D) (a1_0 : Int) (a1_1 : ByteArray) : V 5 [.agg [.int .i64 a0_0, .int .i64 a0_1, .rs (1, 0) a0_2, .int .i64 a0_3, .rs (2, 0) a0_4], .agg [.int .i64 a1_0, .str a1_1]] =
  ocall V 18 [(.agg [(.int .i64 a0_0), (.int .i64 a0_1), (.rs (1, 0) a0_2), (.int .i64 a0_3), (.rs (2, 0) a0_4)]), (.int .i64 (1048576))] fun x0 l1 =>
   asI .i64 x0 fun n2 => unn l1 (br (decide (n2 < 0))
     (some ((.bool true), []))
     (ocall V 19 [(.agg [(.int .i64 a1_0), (.str a1_1)]), (.int .i64 n2)] fun x3 l4 =>
      asI .i64 x3 fun n5 => unn l4 (br (decide (n5 < 0))
        (some ((.bool true), []))
        (ocall V 20 [(.agg [(.int .i64 a0_0), (.int .i64 a0_1), (.rs (1, 0) a0_2), (.int .i64 a0_3), (.rs (2, 0) a0_4)])] fun x6 l7 =>
         asAgg x6 fun l8 => unc l8 fun x9 l10 => asI .i64 x9 fun n11 => unc l10 fun x12 l13 => asI .i64 x12 fun n14 => unc l13 fun x15 l16 => asOs (1, 0) x15 fun l17 => unc l16 fun x18 l19 => asI .i64 x18 fun n20 => unc l19 fun x21 l22 => asOs (2, 0) x21 fun l23 => unn l22 (unn l7 (ocall V 21 [(.agg [(.int .i64 a1_0), (.str a1_1)])] fun x24 l25 =>
                     asAgg x24 fun l26 => unc l26 fun x27 l28 => asI .i64 x27 fun n29 => unc l28 fun x30 l31 => asS x30 fun s32 => unn l31 (unn l25 (ocall V 15 [(.agg [(.int .i64 n11), (.int .i64 n14), (.rs (1, 0) l17), (.int .i64 n20), (.rs (2, 0) l23)]), (.agg [(.int .i64 n29), (.str s32)])] fun x33 l34 =>
                           asTup x33 fun l35 => unc l35 fun x36 l37 => asAgg x36 fun l38 => unc l38 fun x39 l40 => asI .i64 x39 fun n41 => unc l40 fun x42 l43 => asI .i64 x42 fun n44 => unc l43 fun x45 l46 => asOs (1, 0) x45 fun l47 => unc l46 fun x48 l49 => asI .i64 x48 fun n50 => unc l49 fun x51 l52 => asOs (2, 0) x51 fun l53 => unn l52 (unc l37 fun x54 l55 => asOs (1, 0) x54 fun l56 => unn l55 (unn l34 (ocall V 20 [(.agg [(.int .i64 a0_0), (.int .i64 a0_1), (.rs (1, 0) a0_2), (.int .i64 a0_3), (.rs (2, 0) a0_4)])] fun x57 l58 =>
                                           asAgg x57 fun l59 => unc l59 fun x60 l61 => asI .i64 x60 fun n62 => unc l61 fun x63 l64 => asI .i64 x63 fun n65 => unc l64 fun x66 l67 => asOs (1, 0) x66 fun l68 => unc l67 fun x69 l70 => asI .i64 x69 fun n71 => unc l70 fun x72 l73 => asOs (2, 0) x72 fun l74 => unn l73 (unn l58 (ocall V 21 [(.agg [(.int .i64 a1_0), (.str a1_1)])] fun x75 l76 =>
                                                       asAgg x75 fun l77 => unc l77 fun x78 l79 => asI .i64 x78 fun n80 => unc l79 fun x81 l82 => asS x81 fun s83 => unn l82 (unn l76 (ocall V 11 [(.agg [(.int .i64 n62), (.int .i64 n65), (.rs (1, 0) l68), (.int .i64 n71), (.rs (2, 0) l74)]), (.agg [(.int .i64 n80), (.str s83)])] fun x84 l85 =>
                                                             asTup x84 fun l86 => unc l86 fun x87 l88 => asAgg x87 fun l89 => unc l89 fun x90 l91 => asI .i64 x90 fun n92 => unc l91 fun x93 l94 => asI .i64 x93 fun n95 => unc l94 fun x96 l97 => asOs (1, 0) x96 fun l98 => unc l97 fun x99 l100 => asI .i64 x99 fun n101 => unc l100 fun x102 l103 => asOs (2, 0) x102 fun l104 => unn l103 (unc l88 fun x105 l106 => asOs (1, 0) x105 fun l107 => unn l106 (unn l85 (ocall V 22 [(.agg [(.int .i64 n92), (.int .i64 n95), (.rs (1, 0) l98), (.int .i64 n101), (.rs (2, 0) l104)]), (.agg [(.int .i64 n41), (.int .i64 n44), (.rs (1, 0) l47), (.int .i64 n50), (.rs (2, 0) l53)])] fun x108 l109 =>
                                                                             asB x108 fun b110 => unn l109 (br (!b110)
                                                                               (some ((.bool false), []))
                                                                               (ocall V 23 [(.rs (1, 0) l107), (.rs (1, 0) l56)] fun x111 l112 =>
                                                                                asB x111 fun b113 => unn l112 (br (!b113)
                                                                                  (some ((.bool false), []))
                                                                                  (ocall V 20 [(.agg [(.int .i64 a0_0), (.int .i64 a0_1), (.rs (1, 0) a0_2), (.int .i64 a0_3), (.rs (2, 0) a0_4)])] fun x114 l115 =>
                                                                                   asAgg x114 fun l116 => unc l116 fun x117 l118 => asI .i64 x117 fun n119 => unc l118 fun x120 l121 => asI .i64 x120 fun n122 => unc l121 fun x123 l124 => asOs (1, 0) x123 fun l125 => unc l124 fun x126 l127 => asI .i64 x126 fun n128 => unc l127 fun x129 l130 => asOs (2, 0) x129 fun l131 => unn l130 (unn l115 (ocall V 22 [(.agg [(.int .i64 n62), (.int .i64 n65), (.rs (1, 0) l68), (.int .i64 n71), (.rs (2, 0) l74)]), (.agg [(.int .i64 n119), (.int .i64 n122), (.rs (1, 0) l125), (.int .i64 n128), (.rs (2, 0) l131)])] fun x132 l133 =>
                                                                                               asB x132 fun b134 => unn l133 (br (!b134)
                                                                                                 (some ((.bool false), []))
                                                                                                 (ocall V 24 [(.agg [(.int .i64 n62), (.int .i64 n65), (.os (1, 0) l68), (.int .i64 n71), (.os (2, 0) l74)]), (.int .i64 (1))] fun x135 l136 =>
                                                                                                  asI .i64 x135 fun n137 => unc l136 fun x138 l139 => asAgg x138 fun l140 => unc l140 fun x141 l142 => asI .i64 x141 fun _ => unc l142 fun x144 l145 => asI .i64 x144 fun _ => unc l145 fun x147 l148 => asOs (1, 0) x147 fun _ => unc l148 fun x150 l151 => asI .i64 x150 fun _ => unc l151 fun x153 l154 => asOs (2, 0) x153 fun _ => unn l154 (unn l139 (br (decide (n137 < 0))
                                                                                                                (some ((.bool false), []))
                                                                                                                (ocall V 22 [(.agg [(.int .i64 n92), (.int .i64 n95), (.rs (1, 0) l98), (.int .i64 n101), (.rs (2, 0) l104)]), (.agg [(.int .i64 n41), (.int .i64 n44), (.rs (1, 0) l47), (.int .i64 n50), (.rs (2, 0) l53)])] fun x156 l157 =>
                                                                                                                 asB x156 fun b158 => unn l157 (br (!b158)
                                                                                                                   (some ((.bool false), []))
                                                                                                                   (ocall V 23 [(.rs (1, 0) l107), (.rs (1, 0) l56)] fun x159 l160 =>
                                                                                                                    asB x159 fun b161 => unn l160 (br (!b161)
                                                                                                                      (some ((.bool false), []))
                                                                                                                      (ocall V 24 [(.agg [(.int .i64 n92), (.int .i64 n95), (.os (1, 0) l98), (.int .i64 n101), (.os (2, 0) l104)]), (.int .i64 (1))] fun x162 l163 =>
                                                                                                                       asI .i64 x162 fun n164 => unc l163 fun x165 l166 => asAgg x165 fun l167 => unc l167 fun x168 l169 => asI .i64 x168 fun _ => unc l169 fun x171 l172 => asI .i64 x171 fun _ => unc l172 fun x174 l175 => asOs (1, 0) x174 fun l176 => unc l175 fun x177 l178 => asI .i64 x177 fun _ => unc l178 fun x180 l181 => asOs (2, 0) x180 fun l182 => unn l181 (unn l166 (ocall V 25 [(.os (1, 0) l107), (.int .i64 n164)] fun x183 l184 =>
                                                                                                                                     asI .i64 x183 fun n185 => unc l184 fun x186 l187 => asOs (1, 0) x186 fun l188 => unn l187 (ocall V 26 [(.agg [(.int .i64 n92), (.int .i64 n95), (.rs (1, 0) l176), (.int .i64 n101), (.rs (2, 0) l182)]), (.int .i64 (1))] fun x189 l190 =>
                                                                                                                                         asI .i64 x189 fun n191 => unn l190 (br (decide (n191 < 0))
                                                                                                                                           (some ((.bool false), []))
                                                                                                                                           (ocall V 27 [(.rs (1, 0) l188), (.int .i64 n191)] fun x192 l193 =>
                                                                                                                                            asI .i64 x192 fun n194 => unn l193 (br (decide (n194 < 0))
                                                                                                                                              (some ((.bool false), []))
                                                                                                                                              (br (n194 != n185)
                                                                                                                                               (some ((.bool false), []))
                                                                                                                                               (ocall V 20 [(.agg [(.int .i64 a0_0), (.int .i64 a0_1), (.rs (1, 0) a0_2), (.int .i64 a0_3), (.rs (2, 0) a0_4)])] fun x195 l196 =>
                                                                                                                                                asAgg x195 fun l197 => unc l197 fun x198 l199 => asI .i64 x198 fun n200 => unc l199 fun x201 l202 => asI .i64 x201 fun n203 => unc l202 fun x204 l205 => asOs (1, 0) x204 fun l206 => unc l205 fun x207 l208 => asI .i64 x207 fun n209 => unc l208 fun x210 l211 => asOs (2, 0) x210 fun l212 => unn l211 (unn l196 (ocall V 21 [(.agg [(.int .i64 a1_0), (.str a1_1)])] fun x213 l214 =>
                                                                                                                                                            asAgg x213 fun l215 => unc l215 fun x216 l217 => asI .i64 x216 fun n218 => unc l217 fun x219 l220 => asS x219 fun s221 => unn l220 (unn l214 (ocall V 11 [(.agg [(.int .i64 n200), (.int .i64 n203), (.rs (1, 0) l206), (.int .i64 n209), (.rs (2, 0) l212)]), (.agg [(.int .i64 n218), (.str s221)])] fun x222 l223 =>
                                                                                                                                                                  asTup x222 fun l224 => unc l224 fun x225 l226 => asAgg x225 fun l227 => unc l227 fun x228 l229 => asI .i64 x228 fun n230 => unc l229 fun x231 l232 => asI .i64 x231 fun n233 => unc l232 fun x234 l235 => asOs (1, 0) x234 fun l236 => unc l235 fun x237 l238 => asI .i64 x237 fun n239 => unc l238 fun x240 l241 => asOs (2, 0) x240 fun l242 => unn l241 (unc l226 fun x243 l244 => asOs (1, 0) x243 fun l245 => unn l244 (unn l223 (ocall V 22 [(.agg [(.int .i64 n230), (.int .i64 n233), (.rs (1, 0) l236), (.int .i64 n239), (.rs (2, 0) l242)]), (.agg [(.int .i64 n41), (.int .i64 n44), (.rs (1, 0) l47), (.int .i64 n50), (.rs (2, 0) l53)])] fun x246 l247 =>
                                                                                                                                                                                  asB x246 fun b248 => unn l247 (br (!b248)
                                                                                                                                                                                    (some ((.bool false), []))
                                                                                                                                                                                    (ocall V 23 [(.rs (1, 0) l245), (.rs (1, 0) l56)] fun x249 l250 =>
                                                                                                                                                                                     asB x249 fun b251 => unn l250 (br (!b251)
                                                                                                                                                                                       (some ((.bool false), []))
                                                                                                                                                                                       (ocall V 26 [(.agg [(.int .i64 n92), (.int .i64 n95), (.rs (1, 0) l176), (.int .i64 n101), (.rs (2, 0) l182)]), (.int .i64 (1))] fun x252 l253 =>
                                                                                                                                                                                        asI .i64 x252 fun n254 => unn l253 (br (decide (n254 < 0))
                                                                                                                                                                                          (some ((.bool false), []))
                                                                                                                                                                                          (ocall V 27 [(.rs (1, 0) l188), (.int .i64 n254)] fun x255 l256 =>
                                                                                                                                                                                           asI .i64 x255 fun n257 => unn l256 (br (decide (n257 < 0))
                                                                                                                                                                                             (some ((.bool false), []))
                                                                                                                                                                                             (br (n257 != n185)
                                                                                                                                                                                              (some ((.bool false), []))
                                                                                                                                                                                              (some ((.bool true), [])))))))))))))))))))))))))))))))))))))))))))))))))))))))))) := by
  exact (Vn_eq Try.func5 rfl _).trans (by kernel_rfl)
theorem LBinarySearchFunc_Piece_3_eq (p0 : List D) (p1 : Int) (p2 : Int) (p3 : Int) (p4 : Int) : LBinarySearchFunc_Piece_3 p0 p1 p2 p3 p4 =
  br (decide (p3 < p4))
   (grd (!decide (1 < 0)) (grd (decide (0 ≤ IntKind.wrap IntKind.i64 (Int.fdiv (IntKind.wrap IntKind.u64 (IntKind.wrap IntKind.i64 (p3 + p4))) (2 ^ min (Int.toNat (1)) (IntKind.bits IntKind.u64)))) && decide (IntKind.wrap IntKind.i64 (Int.fdiv (IntKind.wrap IntKind.u64 (IntKind.wrap IntKind.i64 (p3 + p4))) (2 ^ min (Int.toNat (1)) (IntKind.bits IntKind.u64))) < ni (List.length p0))) (oget p0 (Int.toNat (IntKind.wrap IntKind.i64 (Int.fdiv (IntKind.wrap IntKind.u64 (IntKind.wrap IntKind.i64 (p3 + p4))) (2 ^ min (Int.toNat (1)) (IntKind.bits IntKind.u64))))) fun x0 =>
    asAgg x0 fun l1 => unc l1 fun x2 l3 => asI .i64 x2 fun n4 => unc l3 fun x5 l6 => asS x5 fun s7 => unn l6 (ocall V 30 [(.agg [(.int .i64 n4), (.str s7)]), (.int .i64 p1)] fun x8 l9 =>
          asI .i64 x8 fun n10 => unn l9 (br (decide (n10 < 0))
            (LBinarySearchFunc_Piece_3 p0 p1 p2 (IntKind.wrap IntKind.i64 (IntKind.wrap IntKind.i64 (Int.fdiv (IntKind.wrap IntKind.u64 (IntKind.wrap IntKind.i64 (p3 + p4))) (2 ^ min (Int.toNat (1)) (IntKind.bits IntKind.u64))) + 1)) p4)
            (LBinarySearchFunc_Piece_3 p0 p1 p2 p3 (IntKind.wrap IntKind.i64 (Int.fdiv (IntKind.wrap IntKind.u64 (IntKind.wrap IntKind.i64 (p3 + p4))) (2 ^ min (Int.toNat (1)) (IntKind.bits IntKind.u64))))))))))
   (br (decide (p3 < p2))
    (grd (decide (0 ≤ p3) && decide (p3 < ni (List.length p0))) (oget p0 (Int.toNat p3) fun x11 =>
     asAgg x11 fun l12 => unc l12 fun x13 l14 => asI .i64 x13 fun n15 => unc l14 fun x16 l17 => asS x16 fun s18 => unn l17 (ocall V 30 [(.agg [(.int .i64 n15), (.str s18)]), (.int .i64 p1)] fun x19 l20 =>
           asI .i64 x19 fun n21 => unn l20 (some ((.tup [(.int .i64 p3), (.bool (n21 == 0))]), [])))))
    (some ((.tup [(.int .i64 p3), (.bool false)]), []))) := by
  exact (Rn_eq _ _ _).trans (by kernel_rfl)
theorem Lspec_LinkTake_12v1_eq (p0 : Int) (p1 : Int) (p2 : Int) (p3 : List D) (p4 : Int) (p5 : Int) (p6 : Int) (p7 : Nat) (p8 : Nat) (p9 : List D) (p10 : List D) : Lspec_LinkTake_12v1 p0 p1 p2 p3 p4 p5 p6 p7 p8 p9 p10 =
  br (decide (ni p8 > 0))
   (grd (decide (0 ≤ 0) && decide (0 < ni p8) && decide (p7 + p8 ≤ List.length p10)) (oget p10 (p7 + Int.toNat (0)) fun x41 =>
    asAgg x41 fun l42 => oget l42 0 fun x43 =>
      asI .i64 x43 fun n44 => br (n44 == p6)
        (grd (decide (0 ≤ 0) && decide (0 < ni p8) && decide (p7 + p8 ≤ List.length p10)) (oget p10 (p7 + Int.toNat (0)) fun x45 =>
         asAgg x45 fun l46 => oget l46 1 fun x47 =>
           asS x47 fun s48 => grd (decide (ni (List.length (p3 ++ [D.str s48])) ≤ LIM)) (nam (p3 ++ [D.str s48]) fun l49 =>
             grd (cutOkX p8 (List.length p10 - p7) (some (1)) none) (Lspec_LinkTake_12v1 p0 p1 p2 l49 p4 p5 (IntKind.wrap IntKind.i64 (p6 + 1)) (p7 + Int.toNat (1)) (p8 - Int.toNat (1)) p9 p10))))
        (grd (decide (ni (List.length ([] ++ part p10 (some (p7, p8)))) ≤ LIM)) (nam ([] ++ part p10 (some (p7, p8))) fun l50 =>
         some ((.tup [(.agg [(.int .i64 p4), (.int .i64 p5), (.os (1, 0) p9), (.int .i64 p6), (.os (2, 0) l50)]), (.os (1, 0) p3)]), [])))))
   (grd (decide (ni (List.length ([] ++ part p10 (some (p7, p8)))) ≤ LIM)) (nam ([] ++ part p10 (some (p7, p8))) fun l51 =>
    some ((.tup [(.agg [(.int .i64 p4), (.int .i64 p5), (.os (1, 0) p9), (.int .i64 p6), (.os (2, 0) l51)]), (.os (1, 0) p3)]), []))) := by
  exact (Rn_eq _ _ _).trans (by kernel_rfl)
theorem Limpl_LinkTake_11_eq (p0 : Int) (p1 : Int) (p2 : Int) (p3 : Int) (p4 : Int) (p5 : Int) (p6 : List D) (p7 : List D) (p8 : List D) : Limpl_LinkTake_11 p0 p1 p2 p3 p4 p5 p6 p7 p8 =
  br (decide (ni (List.length p8) > 0))
   (grd (decide (0 ≤ 0) && decide (0 < ni (List.length p8))) (oget p8 0 fun x51 =>
    asAgg x51 fun l52 => oget l52 0 fun x53 =>
      asI .i64 x53 fun n54 => br (n54 == p5)
        (grd (decide (0 ≤ 0) && decide (0 < ni (List.length p8))) (oget p8 0 fun x55 =>
         asAgg x55 fun l56 => oget l56 1 fun x57 =>
           asS x57 fun s58 => grd (decide (ni (List.length (p6 ++ [D.str s58])) ≤ LIM)) (nam (p6 ++ [D.str s58]) fun l59 =>
             grd (cutOk (List.length p8) (some (1)) none) (Limpl_LinkTake_11v1 p0 p1 p2 p3 p4 (IntKind.wrap IntKind.i64 (p5 + 1)) (Int.toNat (1)) (List.length p8 - Int.toNat (1)) l59 p7 p8))))
        (ocall V 33 [(.rs (2, 0) p8)] fun x60 l61 =>
         asOs (2, 0) x60 fun l62 => unn l61 (some ((.tup [(.agg [(.int .i64 p3), (.int .i64 p4), (.os (1, 0) p7), (.int .i64 p5), (.os (2, 0) l62)]), (.os (1, 0) p6)]), [])))))
   (ocall V 33 [(.rs (2, 0) p8)] fun x63 l64 =>
    asOs (2, 0) x63 fun l65 => unn l64 (some ((.tup [(.agg [(.int .i64 p3), (.int .i64 p4), (.os (1, 0) p7), (.int .i64 p5), (.os (2, 0) l65)]), (.os (1, 0) p6)]), []))) := by
  exact (Rn_eq _ _ _).trans (by kernel_rfl)
theorem eimpl_LinkOk (a0_0 : Int) (a0_1 : Int) (a0_2 : List D) (a0_3 : Int) (a0_4 : List D) : V 17 [.agg [.int .i64 a0_0, .int .i64 a0_1, .rs (1, 0) a0_2, .int .i64 a0_3, .rs (2, 0) a0_4]] =
  ocall V 31 [(.int .i64 a0_0), (.int .i64 (0)), (.int .i64 (100000))] fun x0 l1 =>
   asB x0 fun b2 => unn l1 (br (!b2)
     (some ((.bool false), []))
     (ocall V 31 [(.int .i64 a0_3), (.int .i64 (0)), (.int .i64 a0_0)] fun x3 l4 =>
      asB x3 fun b5 => unn l4 (br (!b5)
        (some ((.bool false), []))
        (ocall V 31 [(.int .i64 a0_1), (.int .i64 (0)), (.int .i64 a0_3)] fun x6 l7 =>
         asB x6 fun b8 => unn l7 (br (!b8)
           (some ((.bool false), []))
           (br (ni (List.length a0_2) != IntKind.wrap IntKind.i64 (a0_0 - a0_1))
            (some ((.bool false), []))
            (br (decide (ni (List.length a0_2) > 30))
             (some ((.bool false), []))
             (Limpl_LinkOk_4 a0_4 (ni (List.length a0_4)) (0) a0_0 a0_1 a0_2 a0_3 a0_4)))))))) := by
  exact (Vn_eq Try.func17 rfl _).trans (by kernel_rfl)
theorem Llaws_eqPieceS_4_eq (p0 : List D) (p1 : List D) (p2 : Int) : Llaws_eqPieceS_4 p0 p1 p2 =
  br (decide (p2 < ni (List.length p0)))
   (grd (decide (0 ≤ p2) && decide (p2 < ni (List.length p0))) (oget p0 (Int.toNat p2) fun x0 =>
    asAgg x0 fun l1 => unc l1 fun x2 l3 => asI .i64 x2 fun n4 => unc l3 fun x5 l6 => asS x5 fun s7 => unn l6 (grd (decide (0 ≤ p2) && decide (p2 < ni (List.length p1))) (oget p1 (Int.toNat p2) fun x8 =>
          asAgg x8 fun l9 => unc l9 fun x10 l11 => asI .i64 x10 fun n12 => unc l11 fun x13 l14 => asS x13 fun s15 => unn l14 (ocall V 56 [(.agg [(.int .i64 n4), (.str s7)]), (.agg [(.int .i64 n12), (.str s15)])] fun x16 l17 =>
                asB x16 fun b18 => unn l17 (br (!b18)
                  (some ((.bool false), []))
                  (Llaws_eqPieceS_4 p0 p1 (IntKind.wrap IntKind.i64 (p2 + 1)))))))))
   (some ((.bool true), [])) := by
  exact (Rn_eq _ _ _).trans (by kernel_rfl)
theorem elaws_szLink (a0_0 : Int) (a0_1 : Int) (a0_2 : List D) (a0_3 : Int) (a0_4 : List D) (a1_ : Int) : V 18 [.agg [.int .i64 a0_0, .int .i64 a0_1, .rs (1, 0) a0_2, .int .i64 a0_3, .rs (2, 0) a0_4], .int .i64 a1_] =
  ocall V 43 [(.rs (1, 0) a0_2), (.int .i64 a1_)] fun x0 l1 =>
   asI .i64 x0 fun n2 => unn l1 (br (decide (n2 < 0))
     (some ((.int .i64 (-1)), []))
     (ocall V 44 [(.rs (2, 0) a0_4), (.int .i64 n2)] fun x3 l4 =>
      asI .i64 x3 fun n5 => unn l4 (br (decide (n5 < 0))
        (some ((.int .i64 (-1)), []))
        (some ((.int .i64 n5), []))))) := by
  exact (Vn_eq Try.func18 rfl _).trans (by kernel_rfl)
theorem Llaws_heldStringS_2_eq (p0 : List D) (p1 : Int) (p2 : Int) : Llaws_heldStringS_2 p0 p1 p2 =
  br (decide (p2 < ni (List.length p0)))
   (grd (decide (0 ≤ p2) && decide (p2 < ni (List.length p0))) (oget p0 (Int.toNat p2) fun x0 =>
    asS x0 fun s1 => ocall V 49 [(.int .i64 p1)] fun x2 l3 =>
      asS x2 fun s4 => unn l3 (br (!strEq s1 s4)
        (some ((.int .i64 (-1)), []))
        (Llaws_heldStringS_2 p0 (IntKind.wrap IntKind.i64 (p1 + 1)) (IntKind.wrap IntKind.i64 (p2 + 1))))))
   (some ((.int .i64 p1), [])) := by
  exact (Rn_eq _ _ _).trans (by kernel_rfl)
theorem elaws_toLink (a0_0 : Int) (a0_1 : Int) (a0_2 : List D) (a0_3 : Int) (a0_4 : List D) : V 20 [.agg [.int .i64 a0_0, .int .i64 a0_1, .rs (1, 0) a0_2, .int .i64 a0_3, .rs (2, 0) a0_4]] =
  ocall V 45 [(.rs (1, 0) a0_2)] fun x0 l1 =>
   asOs (1, 0) x0 fun l2 => unn l1 (ocall V 46 [(.rs (2, 0) a0_4)] fun x3 l4 =>
     asOs (2, 0) x3 fun l5 => unn l4 (some ((.agg [(.int .i64 a0_0), (.int .i64 a0_1), (.os (1, 0) l2), (.int .i64 a0_3), (.os (2, 0) l5)]), []))) := by
  exact (Vn_eq Try.func20 rfl _).trans (by kernel_rfl)
theorem elaws_toPieceS (a0_ : List D) : V 46 [.rs (2, 0) a0_] =
  grd (decide (0 ≤ ni (List.length a0_)) && decide (ni (List.length a0_) ≤ LIM)) (Llaws_toPieceS_3 a0_ (0) (List.replicate (Int.toNat (ni (List.length a0_))) (D.agg [D.int IntKind.i64 (0), D.str { data := #[] }]))) := by
  exact (Vn_eq Try.func46 rfl _).trans (by kernel_rfl)
theorem eslices_Clone_string_string (a0_ : List D) : V 34 [.rs (1, 0) a0_] =
  nilb a0_
   (some ((.os (1, 0) []), []))
   (grd (decide (ni (List.length ([] ++ a0_)) ≤ LIM)) (nam ([] ++ a0_) fun l0 =>
    some ((.os (1, 0) l0), []))) := by
  exact (Vn_eq Try.func34 rfl _).trans (by kernel_rfl)
theorem elaws_eqPieceS (a0_ : List D) (a1_ : List D) : V 47 [.rs (2, 0) a0_, .rs (2, 0) a1_] =
  br (ni (List.length a0_) != ni (List.length a1_))
   (some ((.bool false), []))
   (Llaws_eqPieceS_4 a0_ a1_ (0)) := by
  exact (Vn_eq Try.func47 rfl _).trans (by kernel_rfl)
theorem elaws_markText (a0_ : Int) : V 49 [.int .i64 a0_] =
  br (decide (a0_ ≤ 0))
   (some ((.str ({ data := #[109, 48] })), []))
   (Llaws_markText_4 a0_ ({ data := #[] })) := by
  exact (Vn_eq Try.func49 rfl _).trans (by kernel_rfl)
theorem elaws_heldPieceS (a0_ : List D) (a1_ : Int) : V 50 [.rs (2, 0) a0_, .int .i64 a1_] =
  Llaws_heldPieceS_2 a0_ a1_ (0) := by
  exact (Vn_eq Try.func50 rfl _).trans (by kernel_rfl)

end Go.Eng
/-! the functions as the interpreter has them -/
namespace Go.Eng
open Go.Proofs Go.Proofs.Try
set_option maxRecDepth 100000
theorem Lspec_l10Hold_4_eq (p0 : List D) (p1 : Bool) (p2 : Int) (p3 : Int) (p4 : ByteArray) (p5 : List D) : Lspec_l10Hold_4 p0 p1 p2 p3 p4 p5 =
  br (decide (p2 < ni (List.length p0)))
   (br (!p1)
    (grd (decide (0 ≤ p2) && decide (p2 < ni (List.length p0))) (oget p0 (Int.toNat p2) fun x0 =>
     asAgg x0 fun l1 => oget l1 0 fun x2 =>
       asI .i64 x2 fun n3 => br (decide (n3 ≥ p3))
         (grd (decide (0 ≤ p2) && decide (p2 < ni (List.length p0))) (oget p0 (Int.toNat p2) fun x4 =>
          asAgg x4 fun l5 => oget l5 0 fun x6 =>
            asI .i64 x6 fun n7 => br (decide (n7 > p3))
              (grd (decide (ni (List.length (p5 ++ [D.agg [D.int IntKind.i64 p3, D.str p4]])) ≤ LIM)) (nam (p5 ++ [D.agg [D.int IntKind.i64 p3, D.str p4]]) fun l8 =>
               grd (decide (0 ≤ p2) && decide (p2 < ni (List.length p0))) (oget p0 (Int.toNat p2) fun x9 =>
                asAgg x9 fun l10 => unc l10 fun x11 l12 => asI .i64 x11 fun n13 => unc l12 fun x14 l15 => asS x14 fun s16 => unn l15 (grd (decide (ni (List.length (l8 ++ [D.agg [D.int IntKind.i64 n13, D.str s16]])) ≤ LIM)) (nam (l8 ++ [D.agg [D.int IntKind.i64 n13, D.str s16]]) fun l17 =>
                      Lspec_l10Hold_4 p0 true (IntKind.wrap IntKind.i64 (p2 + 1)) p3 p4 l17)))))
              (grd (decide (0 ≤ p2) && decide (p2 < ni (List.length p0))) (oget p0 (Int.toNat p2) fun x18 =>
               asAgg x18 fun l19 => unc l19 fun x20 l21 => asI .i64 x20 fun n22 => unc l21 fun x23 l24 => asS x23 fun s25 => unn l24 (grd (decide (ni (List.length (p5 ++ [D.agg [D.int IntKind.i64 n22, D.str s25]])) ≤ LIM)) (nam (p5 ++ [D.agg [D.int IntKind.i64 n22, D.str s25]]) fun l26 =>
                     Lspec_l10Hold_4 p0 true (IntKind.wrap IntKind.i64 (p2 + 1)) p3 p4 l26))))))
         (grd (decide (0 ≤ p2) && decide (p2 < ni (List.length p0))) (oget p0 (Int.toNat p2) fun x27 =>
          asAgg x27 fun l28 => unc l28 fun x29 l30 => asI .i64 x29 fun n31 => unc l30 fun x32 l33 => asS x32 fun s34 => unn l33 (grd (decide (ni (List.length (p5 ++ [D.agg [D.int IntKind.i64 n31, D.str s34]])) ≤ LIM)) (nam (p5 ++ [D.agg [D.int IntKind.i64 n31, D.str s34]]) fun l35 =>
                Lspec_l10Hold_4 p0 p1 (IntKind.wrap IntKind.i64 (p2 + 1)) p3 p4 l35))))))
    (grd (decide (0 ≤ p2) && decide (p2 < ni (List.length p0))) (oget p0 (Int.toNat p2) fun x36 =>
     asAgg x36 fun l37 => unc l37 fun x38 l39 => asI .i64 x38 fun n40 => unc l39 fun x41 l42 => asS x41 fun s43 => unn l42 (grd (decide (ni (List.length (p5 ++ [D.agg [D.int IntKind.i64 n40, D.str s43]])) ≤ LIM)) (nam (p5 ++ [D.agg [D.int IntKind.i64 n40, D.str s43]]) fun l44 =>
           Lspec_l10Hold_4 p0 p1 (IntKind.wrap IntKind.i64 (p2 + 1)) p3 p4 l44)))))
   (br (!p1)
    (grd (decide (ni (List.length (p5 ++ [D.agg [D.int IntKind.i64 p3, D.str p4]])) ≤ LIM)) (nam (p5 ++ [D.agg [D.int IntKind.i64 p3, D.str p4]]) fun l45 =>
     some ((.os (2, 0) l45), [])))
    (some ((.os (2, 0) p5), []))) := by
  exact (Rn_eq _ _ _).trans (by kernel_rfl)
theorem espec_LinkTake (a0_0 : Int) (a0_1 : Int) (a0_2 : List D) (a0_3 : Int) (a0_4 : List D) (a1_0 : Int) (a1_1 : ByteArray) : V 15 [.agg [.int .i64 a0_0, .int .i64 a0_1, .rs (1, 0) a0_2, .int .i64 a0_3, .rs (2, 0) a0_4], .agg [.int .i64 a1_0, .str a1_1]] =
  ocall V 16 [(.agg [(.int .i64 a0_0), (.int .i64 a0_1), (.rs (1, 0) a0_2), (.int .i64 a0_3), (.rs (2, 0) a0_4)])] fun x0 l1 =>
   asB x0 fun b2 => unn l1 (br (!b2)
     (some ((.tup [(.agg [(.int .i64 (0)), (.int .i64 (0)), (.os (1, 0) []), (.int .i64 (0)), (.os (2, 0) [])]), (.os (1, 0) [])]), []))
     (ocall V 39 [(.agg [(.int .i64 a0_0), (.int .i64 a0_1), (.rs (1, 0) a0_2), (.int .i64 a0_3), (.rs (2, 0) a0_4)])] fun x3 l4 =>
      asAgg x3 fun l5 => unc l5 fun x6 l7 => asI .i64 x6 fun n8 => unc l7 fun x9 l10 => asI .i64 x9 fun n11 => unc l10 fun x12 l13 => asOs (1, 0) x12 fun l14 => unc l13 fun x15 l16 => asI .i64 x15 fun n17 => unc l16 fun x18 l19 => asOs (2, 0) x18 fun l20 => unn l19 (unn l4 (ocall V 41 [(.int .i64 (IntKind.wrap IntKind.i64 (a0_3 + 4))), (.int .i64 a0_0)] fun x21 l22 =>
                  asI .i64 x21 fun n23 => unn l22 (ocall V 40 [(.int .i64 a1_0), (.int .i64 a0_3), (.int .i64 (IntKind.wrap IntKind.i64 (n23 - 1)))] fun x24 l25 =>
                    asB x24 fun b26 => unn l25 (br (!b26)
                      (some ((.tup [(.agg [(.int .i64 n8), (.int .i64 n11), (.os (1, 0) l14), (.int .i64 n17), (.os (2, 0) l20)]), (.os (1, 0) [])]), []))
                      (br (decide (a1_0 > a0_3))
                       (ocall V 42 [(.rs (2, 0) l20), (.agg [(.int .i64 a1_0), (.str a1_1)])] fun x27 l28 =>
                        asOs (2, 0) x27 fun l29 => unn l28 (some ((.tup [(.agg [(.int .i64 n8), (.int .i64 n11), (.os (1, 0) l14), (.int .i64 n17), (.os (2, 0) l29)]), (.os (1, 0) [])]), [])))
                       (grd (decide (ni 1 ≤ LIM)) (Lspec_LinkTake_12 (0) (0) (0) ([D.str a1_1]) n8 n11 (IntKind.wrap IntKind.i64 (a0_3 + 1)) l14 l20))))))))) := by
  exact (Vn_eq Try.func15 rfl _).trans (by kernel_rfl)
theorem Limpl_LinkOk_4_eq (p0 : List D) (p1 : Int) (p2 : Int) (p3 : Int) (p4 : Int) (p5 : List D) (p6 : Int) (p7 : List D) : Limpl_LinkOk_4 p0 p1 p2 p3 p4 p5 p6 p7 =
  br (decide (p2 < p1))
   (grd (decide (0 ≤ p2) && decide (p2 < ni (List.length p0))) (oget p0 (Int.toNat p2) fun x9 =>
    asAgg x9 fun l10 => unc l10 fun x11 l12 => asI .i64 x11 fun n13 => unc l12 fun x14 l15 => asS x14 fun _ => unn l15 (ocall V 31 [(.int .i64 n13), (.int .i64 (IntKind.wrap IntKind.i64 (p6 + 1))), (.int .i64 (IntKind.wrap IntKind.i64 (mnI (IntKind.wrap IntKind.i64 (p6 + 4)) p3 - 1)))] fun x17 l18 =>
          asB x17 fun b19 => unn l18 (br (!b19)
            (some ((.bool false), []))
            (br (decide (p2 > 0))
             (grd (decide (0 ≤ IntKind.wrap IntKind.i64 (p2 - 1)) && decide (IntKind.wrap IntKind.i64 (p2 - 1) < ni (List.length p7))) (oget p7 (Int.toNat (IntKind.wrap IntKind.i64 (p2 - 1))) fun x20 =>
              asAgg x20 fun l21 => oget l21 0 fun x22 =>
                asI .i64 x22 fun n23 => br (decide (n23 ≥ n13))
                  (some ((.bool false), []))
                  (Limpl_LinkOk_4 p0 p1 (IntKind.wrap IntKind.i64 (p2 + 1)) p3 p4 p5 p6 p7)))
             (Limpl_LinkOk_4 p0 p1 (IntKind.wrap IntKind.i64 (p2 + 1)) p3 p4 p5 p6 p7))))))
   (some ((.bool true), [])) := by
  exact (Rn_eq _ _ _).trans (by kernel_rfl)
theorem Llaws_heldPieceS_2_eq (p0 : List D) (p1 : Int) (p2 : Int) : Llaws_heldPieceS_2 p0 p1 p2 =
  br (decide (p2 < ni (List.length p0)))
   (grd (decide (0 ≤ p2) && decide (p2 < ni (List.length p0))) (oget p0 (Int.toNat p2) fun x0 =>
    asAgg x0 fun l1 => oget l1 0 fun x2 =>
      asI .i64 x2 fun n3 => br (n3 != p1)
        (some ((.int .i64 (-1)), []))
        (grd (decide (0 ≤ p2) && decide (p2 < ni (List.length p0))) (oget p0 (Int.toNat p2) fun x4 =>
         asAgg x4 fun l5 => oget l5 1 fun x6 =>
           asS x6 fun s7 => ocall V 49 [(.int .i64 (IntKind.wrap IntKind.i64 (p1 + 1)))] fun x8 l9 =>
             asS x8 fun s10 => unn l9 (br (!strEq s7 s10)
               (some ((.int .i64 (-1)), []))
               (Llaws_heldPieceS_2 p0 (IntKind.wrap IntKind.i64 (IntKind.wrap IntKind.i64 (p1 + 1) + 1)) (IntKind.wrap IntKind.i64 (p2 + 1))))))))
   (some ((.int .i64 p1), [])) := by
  exact (Rn_eq _ _ _).trans (by kernel_rfl)
theorem elaws_eqLink (a0_0 : Int) (a0_1 : Int) (a0_2 : List D) (a0_3 : Int) (a0_4 : List D) (a1_0 : Int) (a1_1 : Int) (a1_2 : List D) (a1_3 : Int) (a1_4 : List D) : V 22 [.agg [.int .i64 a0_0, .int .i64 a0_1, .rs (1, 0) a0_2, .int .i64 a0_3, .rs (2, 0) a0_4], .agg [.int .i64 a1_0, .int .i64 a1_1, .rs (1, 0) a1_2, .int .i64 a1_3, .rs (2, 0) a1_4]] =
  br (a0_0 != a1_0)
   (some ((.bool false), []))
   (br (a0_1 != a1_1)
    (some ((.bool false), []))
    (ocall V 23 [(.rs (1, 0) a0_2), (.rs (1, 0) a1_2)] fun x0 l1 =>
     asB x0 fun b2 => unn l1 (br (!b2)
       (some ((.bool false), []))
       (br (a0_3 != a1_3)
        (some ((.bool false), []))
        (ocall V 47 [(.rs (2, 0) a0_4), (.rs (2, 0) a1_4)] fun x3 l4 =>
         asB x3 fun b5 => unn l4 (br (!b5)
           (some ((.bool false), []))
           (some ((.bool true), [])))))))) := by
  exact (Vn_eq Try.func22 rfl _).trans (by kernel_rfl)
theorem Llaws_szPieceS_5_eq (p0 : List D) (p1 : Int) (p2 : Int) : Llaws_szPieceS_5 p0 p1 p2 =
  br (decide (p2 < ni (List.length p0)))
   (grd (decide (0 ≤ p2) && decide (p2 < ni (List.length p0))) (oget p0 (Int.toNat p2) fun x0 =>
    asAgg x0 fun l1 => unc l1 fun x2 l3 => asI .i64 x2 fun n4 => unc l3 fun x5 l6 => asS x5 fun s7 => unn l6 (ocall V 19 [(.agg [(.int .i64 n4), (.str s7)]), (.int .i64 p1)] fun x8 l9 =>
          asI .i64 x8 fun n10 => unn l9 (br (decide (n10 < 0))
            (some ((.int .i64 (-1)), []))
            (Llaws_szPieceS_5 p0 n10 (IntKind.wrap IntKind.i64 (p2 + 1)))))))
   (some ((.int .i64 p1), [])) := by
  exact (Rn_eq _ _ _).trans (by kernel_rfl)
theorem Llaws_markText_4_eq (p0 : Int) (p1 : ByteArray) : Llaws_markText_4 p0 p1 =
  br (decide (p0 > 0))
   (grd (!decide (10 = 0)) (obytes ([D.int IntKind.u8 (IntKind.wrap IntKind.u8 (IntKind.wrap IntKind.i64 (48 + Int.tmod p0 (10))))]) fun s0 => grd (decide (ni (ByteArray.size s0 + ByteArray.size p1) ≤ LIM)) (grd (!decide (10 = 0)) (Llaws_markText_4 (IntKind.wrap IntKind.i64 (Int.tdiv p0 (10))) (s0 ++ p1)))))
   (grd (decide (ni (ByteArray.size { data := #[109] } + ByteArray.size p1) ≤ LIM)) (some ((.str ({ data := #[109] } ++ p1)), []))) := by
  exact (Rn_eq _ _ _).trans (by kernel_rfl)
theorem Llaws_eqStringS_4_eq (p0 : List D) (p1 : List D) (p2 : Int) : Llaws_eqStringS_4 p0 p1 p2 =
  br (decide (p2 < ni (List.length p0)))
   (grd (decide (0 ≤ p2) && decide (p2 < ni (List.length p0))) (oget p0 (Int.toNat p2) fun x0 =>
    asS x0 fun s1 => grd (decide (0 ≤ p2) && decide (p2 < ni (List.length p1))) (oget p1 (Int.toNat p2) fun x2 =>
      asS x2 fun s3 => br (!strEq s1 s3)
        (some ((.bool false), []))
        (Llaws_eqStringS_4 p0 p1 (IntKind.wrap IntKind.i64 (p2 + 1))))))
   (some ((.bool true), [])) := by
  exact (Rn_eq _ _ _).trans (by kernel_rfl)
theorem Llaws_toStringS_3_eq (p0 : List D) (p1 : Int) (p2 : List D) : Llaws_toStringS_3 p0 p1 p2 =
  br (decide (p1 < ni (List.length p0)))
   (grd (decide (0 ≤ p1) && decide (p1 < ni (List.length p0))) (oget p0 (Int.toNat p1) fun x0 =>
    asS x0 fun s1 => grd (decide (0 ≤ p1) && decide (p1 < ni (List.length p2))) (oget p2 (Int.toNat p1) fun _ =>
      nam (List.set p2 (Int.toNat p1) (D.str s1)) fun l3 =>
       Llaws_toStringS_3 p0 (IntKind.wrap IntKind.i64 (p1 + 1)) l3)))
   (some ((.os (1, 0) p2), [])) := by
  exact (Rn_eq _ _ _).trans (by kernel_rfl)
theorem elaws_szPiece (a0_0 : Int) (a0_1 : ByteArray) (a1_ : Int) : V 19 [.agg [.int .i64 a0_0, .str a0_1], .int .i64 a1_] =
  br (decide (IntKind.wrap IntKind.i64 (a1_ - ni (ByteArray.size a0_1)) < 0))
   (some ((.int .i64 (-1)), []))
   (some ((.int .i64 (IntKind.wrap IntKind.i64 (a1_ - ni (ByteArray.size a0_1)))), [])) := by
  exact (Vn_eq Try.func19 rfl _).trans (by kernel_rfl)
theorem elaws_szPieceS (a0_ : List D) (a1_ : Int) : V 44 [.rs (2, 0) a0_, .int .i64 a1_] =
  br (decide (IntKind.wrap IntKind.i64 (a1_ - ni (List.length a0_)) < 0))
   (some ((.int .i64 (-1)), []))
   (Llaws_szPieceS_5 a0_ (IntKind.wrap IntKind.i64 (a1_ - ni (List.length a0_))) (0)) := by
  exact (Vn_eq Try.func44 rfl _).trans (by kernel_rfl)
theorem eslices_Clone_impl_Piece_impl_Piece (a0_ : List D) : V 33 [.rs (2, 0) a0_] =
  nilb a0_
   (some ((.os (2, 0) []), []))
   (grd (decide (ni (List.length ([] ++ a0_)) ≤ LIM)) (nam ([] ++ a0_) fun l0 =>
    some ((.os (2, 0) l0), []))) := by
  exact (Vn_eq Try.func33 rfl _).trans (by kernel_rfl)
theorem eimpl_within (a0_ : Int) (a1_ : Int) (a2_ : Int) : V 31 [.int .i64 a0_, .int .i64 a1_, .int .i64 a2_] =
  br (decide (a0_ ≥ a1_))
   (some ((.bool (decide (a0_ ≤ a2_))), []))
   (some ((.bool false), [])) := by
  exact (Vn_eq Try.func31 rfl _).trans (by kernel_rfl)
theorem espec_l10Hold (a0_ : List D) (a1_0 : Int) (a1_1 : ByteArray) : V 42 [.rs (2, 0) a0_, .agg [.int .i64 a1_0, .str a1_1]] =
  Lspec_l10Hold_4 a0_ false (0) a1_0 a1_1 [] := by
  exact (Vn_eq Try.func42 rfl _).trans (by kernel_rfl)
theorem elaws_heldStringS (a0_ : List D) (a1_ : Int) : V 27 [.rs (1, 0) a0_, .int .i64 a1_] =
  Llaws_heldStringS_2 a0_ a1_ (0) := by
  exact (Vn_eq Try.func27 rfl _).trans (by kernel_rfl)
end Go.Eng
/-! the functions as the interpreter has them -/
namespace Go.Eng
open Go.Proofs Go.Proofs.Try
set_option maxRecDepth 100000
theorem eimpl_LinkTake (a0_0 : Int) (a0_1 : Int) (a0_2 : List D) (a0_3 : Int) (a0_4 : List D) (a1_0 : Int) (a1_1 : ByteArray) : V 11 [.agg [.int .i64 a0_0, .int .i64 a0_1, .rs (1, 0) a0_2, .int .i64 a0_3, .rs (2, 0) a0_4], .agg [.int .i64 a1_0, .str a1_1]] =
  ocall V 17 [(.agg [(.int .i64 a0_0), (.int .i64 a0_1), (.rs (1, 0) a0_2), (.int .i64 a0_3), (.rs (2, 0) a0_4)])] fun x0 l1 =>
   asB x0 fun b2 => unn l1 (br (!b2)
     (some ((.tup [(.agg [(.int .i64 (0)), (.int .i64 (0)), (.os (1, 0) []), (.int .i64 (0)), (.os (2, 0) [])]), (.os (1, 0) [])]), []))
     (ocall V 28 [(.agg [(.int .i64 a0_0), (.int .i64 a0_1), (.rs (1, 0) a0_2), (.int .i64 a0_3), (.rs (2, 0) a0_4)])] fun x3 l4 =>
      asAgg x3 fun l5 => unc l5 fun x6 l7 => asI .i64 x6 fun n8 => unc l7 fun x9 l10 => asI .i64 x9 fun n11 => unc l10 fun x12 l13 => asOs (1, 0) x12 fun l14 => unc l13 fun x15 l16 => asI .i64 x15 fun n17 => unc l16 fun x18 l19 => asOs (2, 0) x18 fun l20 => unn l19 (unn l4 (br (a1_0 != a0_3)
                  (ocall V 29 [(.rs (2, 0) l20), (.int .i64 a1_0), (.fn 30 [])] fun x21 l22 =>
                   asTup x21 fun l23 => unc l23 fun x24 l25 => asI .i64 x24 fun n26 => unc l25 fun x27 l28 => asB x27 fun b29 => unn l28 (unn l22 (ocall V 31 [(.int .i64 a1_0), (.int .i64 (IntKind.wrap IntKind.i64 (a0_3 + 1))), (.int .i64 (IntKind.wrap IntKind.i64 (mnI (IntKind.wrap IntKind.i64 (a0_3 + 4)) a0_0 - 1)))] fun x30 l31 =>
                         asB x30 fun b32 => unn l31 (br b32
                           (br (!b29)
                            (ocall V 32 [(.os (2, 0) l20), (.int .i64 n26), (.os (2, 0) [(.agg [(.int .i64 a1_0), (.str a1_1)])])] fun x33 l34 =>
                             asOs (2, 0) x33 fun l35 => unn l34 (some ((.tup [(.agg [(.int .i64 n8), (.int .i64 n11), (.os (1, 0) l14), (.int .i64 n17), (.os (2, 0) l35)]), (.os (1, 0) [])]), [])))
                            (some ((.tup [(.agg [(.int .i64 n8), (.int .i64 n11), (.os (1, 0) l14), (.int .i64 n17), (.os (2, 0) l20)]), (.os (1, 0) [])]), [])))
                           (some ((.tup [(.agg [(.int .i64 n8), (.int .i64 n11), (.os (1, 0) l14), (.int .i64 n17), (.os (2, 0) l20)]), (.os (1, 0) [])]), []))))))
                  (br (decide (a0_3 ≥ a0_0))
                   (ocall V 29 [(.rs (2, 0) l20), (.int .i64 a1_0), (.fn 30 [])] fun x36 l37 =>
                    asTup x36 fun l38 => unc l38 fun x39 l40 => asI .i64 x39 fun n41 => unc l40 fun x42 l43 => asB x42 fun b44 => unn l43 (unn l37 (ocall V 31 [(.int .i64 a1_0), (.int .i64 (IntKind.wrap IntKind.i64 (a0_3 + 1))), (.int .i64 (IntKind.wrap IntKind.i64 (mnI (IntKind.wrap IntKind.i64 (a0_3 + 4)) a0_0 - 1)))] fun x45 l46 =>
                          asB x45 fun b47 => unn l46 (br b47
                            (br (!b44)
                             (ocall V 32 [(.os (2, 0) l20), (.int .i64 n41), (.os (2, 0) [(.agg [(.int .i64 a1_0), (.str a1_1)])])] fun x48 l49 =>
                              asOs (2, 0) x48 fun l50 => unn l49 (some ((.tup [(.agg [(.int .i64 n8), (.int .i64 n11), (.os (1, 0) l14), (.int .i64 n17), (.os (2, 0) l50)]), (.os (1, 0) [])]), [])))
                             (some ((.tup [(.agg [(.int .i64 n8), (.int .i64 n11), (.os (1, 0) l14), (.int .i64 n17), (.os (2, 0) l20)]), (.os (1, 0) [])]), [])))
                            (some ((.tup [(.agg [(.int .i64 n8), (.int .i64 n11), (.os (1, 0) l14), (.int .i64 n17), (.os (2, 0) l20)]), (.os (1, 0) [])]), []))))))
                   (Limpl_LinkTake_11 (0) (0) (0) n8 n11 (IntKind.wrap IntKind.i64 (n17 + 1)) ([D.str a1_1]) l14 l20)))))) := by
  exact (Vn_eq Try.func11 rfl _).trans (by kernel_rfl)
theorem Limpl_LinkTake_11v1_eq (p0 : Int) (p1 : Int) (p2 : Int) (p3 : Int) (p4 : Int) (p5 : Int) (p6 : Nat) (p7 : Nat) (p8 : List D) (p9 : List D) (p10 : List D) : Limpl_LinkTake_11v1 p0 p1 p2 p3 p4 p5 p6 p7 p8 p9 p10 =
  br (decide (ni p7 > 0))
   (grd (decide (0 ≤ 0) && decide (0 < ni p7) && decide (p6 + p7 ≤ List.length p10)) (oget p10 (p6 + Int.toNat (0)) fun x66 =>
    asAgg x66 fun l67 => oget l67 0 fun x68 =>
      asI .i64 x68 fun n69 => br (n69 == p5)
        (grd (decide (0 ≤ 0) && decide (0 < ni p7) && decide (p6 + p7 ≤ List.length p10)) (oget p10 (p6 + Int.toNat (0)) fun x70 =>
         asAgg x70 fun l71 => oget l71 1 fun x72 =>
           asS x72 fun s73 => grd (decide (ni (List.length (p8 ++ [D.str s73])) ≤ LIM)) (nam (p8 ++ [D.str s73]) fun l74 =>
             grd (cutOkX p7 (List.length p10 - p6) (some (1)) none) (Limpl_LinkTake_11v1 p0 p1 p2 p3 p4 (IntKind.wrap IntKind.i64 (p5 + 1)) (p6 + Int.toNat (1)) (p7 - Int.toNat (1)) l74 p9 p10))))
        (ocall V 33 [(.rs (2, 0) (part p10 (some (p6, p7))))] fun x75 l76 =>
         asOs (2, 0) x75 fun l77 => unn l76 (some ((.tup [(.agg [(.int .i64 p3), (.int .i64 p4), (.os (1, 0) p9), (.int .i64 p5), (.os (2, 0) l77)]), (.os (1, 0) p8)]), [])))))
   (ocall V 33 [(.rs (2, 0) (part p10 (some (p6, p7))))] fun x78 l79 =>
    asOs (2, 0) x78 fun l80 => unn l79 (some ((.tup [(.agg [(.int .i64 p3), (.int .i64 p4), (.os (1, 0) p9), (.int .i64 p5), (.os (2, 0) l80)]), (.os (1, 0) p8)]), []))) := by
  exact (Rn_eq _ _ _).trans (by kernel_rfl)
theorem Lspec_LinkTake_12_eq (p0 : Int) (p1 : Int) (p2 : Int) (p3 : List D) (p4 : Int) (p5 : Int) (p6 : Int) (p7 : List D) (p8 : List D) : Lspec_LinkTake_12 p0 p1 p2 p3 p4 p5 p6 p7 p8 =
  br (decide (ni (List.length p8) > 0))
   (grd (decide (0 ≤ 0) && decide (0 < ni (List.length p8))) (oget p8 0 fun x30 =>
    asAgg x30 fun l31 => oget l31 0 fun x32 =>
      asI .i64 x32 fun n33 => br (n33 == p6)
        (grd (decide (0 ≤ 0) && decide (0 < ni (List.length p8))) (oget p8 0 fun x34 =>
         asAgg x34 fun l35 => oget l35 1 fun x36 =>
           asS x36 fun s37 => grd (decide (ni (List.length (p3 ++ [D.str s37])) ≤ LIM)) (nam (p3 ++ [D.str s37]) fun l38 =>
             grd (cutOk (List.length p8) (some (1)) none) (Lspec_LinkTake_12v1 p0 p1 p2 l38 p4 p5 (IntKind.wrap IntKind.i64 (p6 + 1)) (Int.toNat (1)) (List.length p8 - Int.toNat (1)) p7 p8))))
        (grd (decide (ni (List.length ([] ++ p8)) ≤ LIM)) (nam ([] ++ p8) fun l39 =>
         some ((.tup [(.agg [(.int .i64 p4), (.int .i64 p5), (.os (1, 0) p7), (.int .i64 p6), (.os (2, 0) l39)]), (.os (1, 0) p3)]), [])))))
   (grd (decide (ni (List.length ([] ++ p8)) ≤ LIM)) (nam ([] ++ p8) fun l40 =>
    some ((.tup [(.agg [(.int .i64 p4), (.int .i64 p5), (.os (1, 0) p7), (.int .i64 p6), (.os (2, 0) l40)]), (.os (1, 0) p3)]), []))) := by
  exact (Rn_eq _ _ _).trans (by kernel_rfl)
theorem espec_LinkOk (a0_0 : Int) (a0_1 : Int) (a0_2 : List D) (a0_3 : Int) (a0_4 : List D) : V 16 [.agg [.int .i64 a0_0, .int .i64 a0_1, .rs (1, 0) a0_2, .int .i64 a0_3, .rs (2, 0) a0_4]] =
  ocall V 40 [(.int .i64 a0_0), (.int .i64 (0)), (.int .i64 (100000))] fun x0 l1 =>
   asB x0 fun b2 => unn l1 (br (!b2)
     (some ((.bool false), []))
     (ocall V 40 [(.int .i64 a0_3), (.int .i64 (0)), (.int .i64 a0_0)] fun x3 l4 =>
      asB x3 fun b5 => unn l4 (br (!b5)
        (some ((.bool false), []))
        (ocall V 40 [(.int .i64 a0_1), (.int .i64 (0)), (.int .i64 a0_3)] fun x6 l7 =>
         asB x6 fun b8 => unn l7 (br (!b8)
           (some ((.bool false), []))
           (br (ni (List.length a0_2) != IntKind.wrap IntKind.i64 (a0_0 - a0_1))
            (some ((.bool false), []))
            (br (decide (ni (List.length a0_2) > 30))
             (some ((.bool false), []))
             (Lspec_LinkOk_4 (0) a0_0 a0_1 a0_2 a0_3 a0_4)))))))) := by
  exact (Vn_eq Try.func16 rfl _).trans (by kernel_rfl)
theorem elaws_markLink (a0_0 : Int) (a0_1 : Int) (a0_2 : List D) (a0_3 : Int) (a0_4 : List D) (a1_ : Int) : V 24 [.agg [.int .i64 a0_0, .int .i64 a0_1, .os (1, 0) a0_2, .int .i64 a0_3, .os (2, 0) a0_4], .int .i64 a1_] =
  ocall V 25 [(.os (1, 0) a0_2), (.int .i64 a1_)] fun x0 l1 =>
   asI .i64 x0 fun n2 => unc l1 fun x3 l4 => asOs (1, 0) x3 fun l5 => unn l4 (ocall V 48 [(.os (2, 0) a0_4), (.int .i64 n2)] fun x6 l7 =>
       asI .i64 x6 fun n8 => unc l7 fun x9 l10 => asOs (2, 0) x9 fun l11 => unn l10 (some ((.int .i64 n8), [(.agg [(.int .i64 a0_0), (.int .i64 a0_1), (.os (1, 0) l5), (.int .i64 a0_3), (.os (2, 0) l11)])]))) := by
  exact (Vn_eq Try.func24 rfl _).trans (by kernel_rfl)
theorem Llaws_szStringS_5_eq (p0 : List D) (p1 : Int) (p2 : Int) : Llaws_szStringS_5 p0 p1 p2 =
  br (decide (p2 < ni (List.length p0)))
   (grd (decide (0 ≤ p2) && decide (p2 < ni (List.length p0))) (oget p0 (Int.toNat p2) fun x0 =>
    asS x0 fun s1 => br (decide (IntKind.wrap IntKind.i64 (p1 - ni (ByteArray.size s1)) < 0))
      (some ((.int .i64 (-1)), []))
      (Llaws_szStringS_5 p0 (IntKind.wrap IntKind.i64 (p1 - ni (ByteArray.size s1))) (IntKind.wrap IntKind.i64 (p2 + 1)))))
   (some ((.int .i64 p1), [])) := by
  exact (Rn_eq _ _ _).trans (by kernel_rfl)
theorem elaws_eqPiece (a0_0 : Int) (a0_1 : ByteArray) (a1_0 : Int) (a1_1 : ByteArray) : V 56 [.agg [.int .i64 a0_0, .str a0_1], .agg [.int .i64 a1_0, .str a1_1]] =
  br (a0_0 != a1_0)
   (some ((.bool false), []))
   (br (!strEq a0_1 a1_1)
    (some ((.bool false), []))
    (some ((.bool true), []))) := by
  exact (Vn_eq Try.func56 rfl _).trans (by kernel_rfl)
theorem elaws_szStringS (a0_ : List D) (a1_ : Int) : V 43 [.rs (1, 0) a0_, .int .i64 a1_] =
  br (decide (IntKind.wrap IntKind.i64 (a1_ - ni (List.length a0_)) < 0))
   (some ((.int .i64 (-1)), []))
   (Llaws_szStringS_5 a0_ (IntKind.wrap IntKind.i64 (a1_ - ni (List.length a0_))) (0)) := by
  exact (Vn_eq Try.func43 rfl _).trans (by kernel_rfl)
theorem elaws_toStringS (a0_ : List D) : V 45 [.rs (1, 0) a0_] =
  grd (decide (0 ≤ ni (List.length a0_)) && decide (ni (List.length a0_) ≤ LIM)) (Llaws_toStringS_3 a0_ (0) (List.replicate (Int.toNat (ni (List.length a0_))) (D.str { data := #[] }))) := by
  exact (Vn_eq Try.func45 rfl _).trans (by kernel_rfl)
theorem elaws_eqStringS (a0_ : List D) (a1_ : List D) : V 23 [.rs (1, 0) a0_, .rs (1, 0) a1_] =
  br (ni (List.length a0_) != ni (List.length a1_))
   (some ((.bool false), []))
   (Llaws_eqStringS_4 a0_ a1_ (0)) := by
  exact (Vn_eq Try.func23 rfl _).trans (by kernel_rfl)
theorem eimpl_LinkTake_1 (a0_0 : Int) (a0_1 : ByteArray) (a1_ : Int) : V 30 [.agg [.int .i64 a0_0, .str a0_1], .int .i64 a1_] =
  some ((.int .i64 (IntKind.wrap IntKind.i64 (a0_0 - a1_))), []) := by
  exact (Vn_eq Try.func30 rfl _).trans (by kernel_rfl)
theorem espec_l1Min (a0_ : Int) (a1_ : Int) : V 41 [.int .i64 a0_, .int .i64 a1_] =
  br (decide (a0_ < a1_))
   (some ((.int .i64 a0_), []))
   (some ((.int .i64 a1_), [])) := by
  exact (Vn_eq Try.func41 rfl _).trans (by kernel_rfl)
theorem elaws_markStringS (a0_ : List D) (a1_ : Int) : V 25 [.os (1, 0) a0_, .int .i64 a1_] =
  Llaws_markStringS_2 a1_ (0) a0_ := by
  exact (Vn_eq Try.func25 rfl _).trans (by kernel_rfl)
end Go.Eng
/-! the functions as the interpreter has them -/
namespace Go.Eng
open Go.Proofs Go.Proofs.Try
set_option maxRecDepth 100000
theorem Lspec_LinkOk_4_eq (p0 : Int) (p1 : Int) (p2 : Int) (p3 : List D) (p4 : Int) (p5 : List D) : Lspec_LinkOk_4 p0 p1 p2 p3 p4 p5 =
  br (decide (p0 < ni (List.length p5)))
   (grd (decide (0 ≤ p0) && decide (p0 < ni (List.length p5))) (oget p5 (Int.toNat p0) fun x9 =>
    asAgg x9 fun l10 => oget l10 0 fun x11 =>
      asI .i64 x11 fun n12 => ocall V 41 [(.int .i64 (IntKind.wrap IntKind.i64 (p4 + 4))), (.int .i64 p1)] fun x13 l14 =>
        asI .i64 x13 fun n15 => unn l14 (ocall V 40 [(.int .i64 n12), (.int .i64 (IntKind.wrap IntKind.i64 (p4 + 1))), (.int .i64 (IntKind.wrap IntKind.i64 (n15 - 1)))] fun x16 l17 =>
          asB x16 fun b18 => unn l17 (br (!b18)
            (some ((.bool false), []))
            (br (decide (p0 > 0))
             (grd (decide (0 ≤ IntKind.wrap IntKind.i64 (p0 - 1)) && decide (IntKind.wrap IntKind.i64 (p0 - 1) < ni (List.length p5))) (oget p5 (Int.toNat (IntKind.wrap IntKind.i64 (p0 - 1))) fun x19 =>
              asAgg x19 fun l20 => oget l20 0 fun x21 =>
                asI .i64 x21 fun n22 => br (decide (n22 ≥ n12))
                  (some ((.bool false), []))
                  (Lspec_LinkOk_4 (IntKind.wrap IntKind.i64 (p0 + 1)) p1 p2 p3 p4 p5)))
             (Lspec_LinkOk_4 (IntKind.wrap IntKind.i64 (p0 + 1)) p1 p2 p3 p4 p5))))))
   (some ((.bool true), [])) := by
  exact (Rn_eq _ _ _).trans (by kernel_rfl)
theorem Llaws_markPieceS_2_eq (p0 : Int) (p1 : Int) (p2 : List D) : Llaws_markPieceS_2 p0 p1 p2 =
  br (decide (p1 < ni (List.length p2)))
   (grd (decide (0 ≤ p1) && decide (p1 < ni (List.length p2))) (oget p2 (Int.toNat p1) fun x0 =>
    asAgg x0 fun l1 => nam (List.set p2 (Int.toNat p1) (D.agg (List.take 0 l1 ++ [D.int IntKind.i64 p0] ++ List.drop 1 l1))) fun l2 =>
      ocall V 49 [(.int .i64 (IntKind.wrap IntKind.i64 (p0 + 1)))] fun x3 l4 =>
       asS x3 fun s5 => unn l4 (grd (decide (0 ≤ p1) && decide (p1 < ni (List.length l2))) (oget l2 (Int.toNat p1) fun x6 =>
         asAgg x6 fun l7 => nam (List.set l2 (Int.toNat p1) (D.agg (List.take 1 l7 ++ [D.str s5] ++ List.drop 2 l7))) fun l8 =>
           Llaws_markPieceS_2 (IntKind.wrap IntKind.i64 (IntKind.wrap IntKind.i64 (p0 + 1) + 1)) (IntKind.wrap IntKind.i64 (p1 + 1)) l8))))
   (some ((.int .i64 p0), [(.os (2, 0) p2)])) := by
  exact (Rn_eq _ _ _).trans (by kernel_rfl)
theorem Llaws_toPieceS_3_eq (p0 : List D) (p1 : Int) (p2 : List D) : Llaws_toPieceS_3 p0 p1 p2 =
  br (decide (p1 < ni (List.length p0)))
   (grd (decide (0 ≤ p1) && decide (p1 < ni (List.length p0))) (oget p0 (Int.toNat p1) fun x0 =>
    asAgg x0 fun l1 => unc l1 fun x2 l3 => asI .i64 x2 fun n4 => unc l3 fun x5 l6 => asS x5 fun s7 => unn l6 (ocall V 21 [(.agg [(.int .i64 n4), (.str s7)])] fun x8 l9 =>
          asAgg x8 fun l10 => unc l10 fun x11 l12 => asI .i64 x11 fun n13 => unc l12 fun x14 l15 => asS x14 fun s16 => unn l15 (unn l9 (grd (decide (0 ≤ p1) && decide (p1 < ni (List.length p2))) (oget p2 (Int.toNat p1) fun _ =>
                nam (List.set p2 (Int.toNat p1) (D.agg [D.int IntKind.i64 n13, D.str s16])) fun l18 =>
                 Llaws_toPieceS_3 p0 (IntKind.wrap IntKind.i64 (p1 + 1)) l18))))))
   (some ((.os (2, 0) p2), [])) := by
  exact (Rn_eq _ _ _).trans (by kernel_rfl)
theorem elaws_heldLink (a0_0 : Int) (a0_1 : Int) (a0_2 : List D) (a0_3 : Int) (a0_4 : List D) (a1_ : Int) : V 26 [.agg [.int .i64 a0_0, .int .i64 a0_1, .rs (1, 0) a0_2, .int .i64 a0_3, .rs (2, 0) a0_4], .int .i64 a1_] =
  ocall V 27 [(.rs (1, 0) a0_2), (.int .i64 a1_)] fun x0 l1 =>
   asI .i64 x0 fun n2 => unn l1 (br (decide (n2 < 0))
     (some ((.int .i64 (-1)), []))
     (ocall V 50 [(.rs (2, 0) a0_4), (.int .i64 n2)] fun x3 l4 =>
      asI .i64 x3 fun n5 => unn l4 (br (decide (n5 < 0))
        (some ((.int .i64 (-1)), []))
        (some ((.int .i64 n5), []))))) := by
  exact (Vn_eq Try.func26 rfl _).trans (by kernel_rfl)
theorem Llaws_markStringS_2_eq (p0 : Int) (p1 : Int) (p2 : List D) : Llaws_markStringS_2 p0 p1 p2 =
  br (decide (p1 < ni (List.length p2)))
   (ocall V 49 [(.int .i64 p0)] fun x0 l1 =>
    asS x0 fun s2 => unn l1 (grd (decide (0 ≤ p1) && decide (p1 < ni (List.length p2))) (oget p2 (Int.toNat p1) fun _ =>
      nam (List.set p2 (Int.toNat p1) (D.str s2)) fun l4 =>
       Llaws_markStringS_2 (IntKind.wrap IntKind.i64 (p0 + 1)) (IntKind.wrap IntKind.i64 (p1 + 1)) l4)))
   (some ((.int .i64 p0), [(.os (1, 0) p2)])) := by
  exact (Rn_eq _ _ _).trans (by kernel_rfl)
theorem espec_l10Copy (a0_0 : Int) (a0_1 : Int) (a0_2 : List D) (a0_3 : Int) (a0_4 : List D) : V 39 [.agg [.int .i64 a0_0, .int .i64 a0_1, .rs (1, 0) a0_2, .int .i64 a0_3, .rs (2, 0) a0_4]] =
  grd (decide (ni (List.length ([] ++ a0_2)) ≤ LIM)) (nam ([] ++ a0_2) fun l0 =>
   grd (decide (ni (List.length ([] ++ a0_4)) ≤ LIM)) (nam ([] ++ a0_4) fun l1 =>
    some ((.agg [(.int .i64 a0_0), (.int .i64 a0_1), (.os (1, 0) l0), (.int .i64 a0_3), (.os (2, 0) l1)]), []))) := by
  exact (Vn_eq Try.func39 rfl _).trans (by kernel_rfl)
theorem eimpl_copyLink (a0_0 : Int) (a0_1 : Int) (a0_2 : List D) (a0_3 : Int) (a0_4 : List D) : V 28 [.agg [.int .i64 a0_0, .int .i64 a0_1, .rs (1, 0) a0_2, .int .i64 a0_3, .rs (2, 0) a0_4]] =
  ocall V 34 [(.rs (1, 0) a0_2)] fun x0 l1 =>
   asOs (1, 0) x0 fun l2 => unn l1 (ocall V 33 [(.rs (2, 0) a0_4)] fun x3 l4 =>
     asOs (2, 0) x3 fun l5 => unn l4 (some ((.agg [(.int .i64 a0_0), (.int .i64 a0_1), (.os (1, 0) l2), (.int .i64 a0_3), (.os (2, 0) l5)]), []))) := by
  exact (Vn_eq Try.func28 rfl _).trans (by kernel_rfl)
theorem espec_l1In (a0_ : Int) (a1_ : Int) (a2_ : Int) : V 40 [.int .i64 a0_, .int .i64 a1_, .int .i64 a2_] =
  br (decide (a0_ ≥ a1_))
   (some ((.bool (decide (a0_ ≤ a2_))), []))
   (some ((.bool false), [])) := by
  exact (Vn_eq Try.func40 rfl _).trans (by kernel_rfl)
theorem eBinarySearchFunc_Piece (l : List D) (n : Int) : V 29 [.rs (2, 0) l, .int .i64 n, .fn 30 []] =
  LBinarySearchFunc_Piece_3 l n (ni (List.length l)) (0) (ni (List.length l)) := by
  exact (Vn_eq Try.func29 rfl _).trans (by kernel_rfl)
theorem elaws_toPiece (a0_0 : Int) (a0_1 : ByteArray) : V 21 [.agg [.int .i64 a0_0, .str a0_1]] =
  some ((.agg [(.int .i64 a0_0), (.str a0_1)]), []) := by
  exact (Vn_eq Try.func21 rfl _).trans (by kernel_rfl)
theorem elaws_markPieceS (a0_ : List D) (a1_ : Int) : V 48 [.os (2, 0) a0_, .int .i64 a1_] =
  Llaws_markPieceS_2 a1_ (0) a0_ := by
  exact (Vn_eq Try.func48 rfl _).trans (by kernel_rfl)

end Go.Eng
/-! the functions as the interpreter has them -/
/-! what the functions on links come to -/
namespace Go.Eng
open Go.Proofs Go.Proofs.Try

theorem strEq_refl (s : ByteArray) : strEq s s = true := by simp [strEq]

structure Pc where
  no : Int
  text : ByteArray
structure Lk where
  sent : Int
  acked : Int
  queue : List ByteArray
  got : Int
  held : List Pc
noncomputable def eP (p : Pc) : D := .agg [.int .i64 p.no, .str p.text]
theorem eP_mk (p : Pc) : eP p = .agg [.int .i64 p.no, .str p.text] := rfl
/-- a link, its rows lent, or owned -/
noncomputable def eK (l : Lk) : D := .agg [.int .i64 l.sent, .int .i64 l.acked, .rs (1, 0) (l.queue.map .str), .int .i64 l.got, .rs (2, 0) (l.held.map eP)]
noncomputable def oK (l : Lk) : D := .agg [.int .i64 l.sent, .int .i64 l.acked, .os (1, 0) (l.queue.map .str), .int .i64 l.got, .os (2, 0) (l.held.map eP)]

theorem v_within (n lo hi : Int) : V 31 [.int .i64 n, .int .i64 lo, .int .i64 hi] = some (.bool (wi n lo hi), []) := (eimpl_within n lo hi).trans within_eq
theorem v_l1In (n lo hi : Int) : V 40 [.int .i64 n, .int .i64 lo, .int .i64 hi] = some (.bool (wi n lo hi), []) := (espec_l1In n lo hi).trans within_eq
theorem v_l1Min (a b : Int) : V 41 [.int .i64 a, .int .i64 b] = some (.int .i64 (mnI a b), []) := by
  rw [espec_l1Min]
  unfold mnI
  by_cases h : a < b
  · rw [br_of (decide_eq_true h), if_neg (by omega)]
  · rw [br_not (decide_eq_false h)]
    by_cases h2 : b < a
    · rw [if_pos h2]
    · rw [if_neg h2, show b = a by omega]

/-! ## sizes -/
theorem szS_loop {q : List ByteArray} (hq : ∀ s ∈ q, s.size ≤ 140737488351232) (hl : q.length < 4611686018427387904) : ∀ (k i : Nat) (n : Int), i + k = q.length → 0 ≤ n → n ≤ 1048576 → ∃ m, Llaws_szStringS_5 (q.map .str) n (i : Int) = some (.int .i64 m, []) ∧ m ≤ 1048576
  | 0, i, n, hi, h0, h1 => by
    rw [Llaws_szStringS_5_eq, br_not (by rw [List.length_map]; exact ge_idx (by omega))]
    exact ⟨_, rfl, h1⟩
  | k + 1, i, n, hi, h0, h1 => by
    obtain ⟨x, hx⟩ := get_of_lt (l := q) (i := i) (by omega)
    have hs := hq x (List.mem_of_getElem? hx)
    rw [Llaws_szStringS_5_eq, br_of (by rw [List.length_map]; exact lt_idx (by omega)), grd_of (by rw [List.length_map]; exact in_idx (by omega)), Int.toNat_natCast, oget_map hx, asS_str, w64 (n := n - ni x.size) (by simp only [ni]; omega) (by simp only [ni]; omega), w64s (by omega)]
    by_cases h : n - ni x.size < 0
    · rw [br_of (decide_eq_true h)]; exact ⟨_, rfl, by omega⟩
    · rw [br_not (decide_eq_false h)]
      exact szS_loop hq hl k (i + 1) _ (by omega) (by omega) (by simp only [ni]; omega)
theorem v_szS {q : List ByteArray} (hq : ∀ s ∈ q, s.size ≤ 140737488351232) (hl : q.length < 4611686018427387904) {n : Int} (h0 : 0 ≤ n) (h1 : n ≤ 1048576) : ∃ m, V 43 [.rs (1, 0) (q.map .str), .int .i64 n] = some (.int .i64 m, []) ∧ m ≤ 1048576 ∧ (0 ≤ m → q.length ≤ 1048576) := by
  rw [elaws_szStringS]
  simp only [ni, List.length_map]
  rw [w64 (by omega) (by omega)]
  by_cases h : n - q.length < 0
  · rw [br_of (decide_eq_true h)]; exact ⟨_, rfl, by omega, by omega⟩
  · rw [br_not (decide_eq_false h)]
    obtain ⟨m, h2, h3⟩ := szS_loop hq hl q.length 0 (n - q.length) (by omega) (by omega) (by omega)
    exact ⟨m, h2, h3, by omega⟩

theorem v_szP (p : Pc) (hp : p.text.size ≤ 140737488351232) {n : Int} (h0 : 0 ≤ n) (h1 : n ≤ 1048576) : ∃ m, V 19 [.agg [.int .i64 p.no, .str p.text], .int .i64 n] = some (.int .i64 m, []) ∧ m ≤ 1048576 := by
  rw [elaws_szPiece, w64 (by simp only [ni]; omega) (by simp only [ni]; omega)]
  by_cases h : n - ni p.text.size < 0
  · rw [br_of (decide_eq_true h)]; exact ⟨_, rfl, by omega⟩
  · rw [br_not (decide_eq_false h)]; exact ⟨_, rfl, by simp only [ni]; omega⟩

theorem szPS_loop {q : List Pc} (hq : ∀ s ∈ q, s.text.size ≤ 140737488351232) (hl : q.length < 4611686018427387904) : ∀ (k i : Nat) (n : Int), i + k = q.length → 0 ≤ n → n ≤ 1048576 → ∃ m, Llaws_szPieceS_5 (q.map eP) n (i : Int) = some (.int .i64 m, []) ∧ m ≤ 1048576
  | 0, i, n, hi, h0, h1 => by
    rw [Llaws_szPieceS_5_eq, br_not (by rw [List.length_map]; exact ge_idx (by omega))]
    exact ⟨_, rfl, h1⟩
  | k + 1, i, n, hi, h0, h1 => by
    obtain ⟨x, hx⟩ := get_of_lt (l := q) (i := i) (by omega)
    obtain ⟨m, h2, h3⟩ := v_szP x (hq x (List.mem_of_getElem? hx)) h0 h1
    rw [Llaws_szPieceS_5_eq, br_of (by rw [List.length_map]; exact lt_idx (by omega)), grd_of (by rw [List.length_map]; exact in_idx (by omega)), Int.toNat_natCast, oget_map hx, eP_mk x, asAgg_agg, unc_cons, asI_int, unc_cons, asS_str, unn_nil, ocall_some h2, asI_int, unn_nil, w64s (by omega)]
    by_cases h : m < 0
    · rw [br_of (decide_eq_true h)]; exact ⟨_, rfl, by omega⟩
    · rw [br_not (decide_eq_false h)]
      exact szPS_loop hq hl k (i + 1) _ (by omega) (by omega) h3
theorem v_szPS {q : List Pc} (hq : ∀ s ∈ q, s.text.size ≤ 140737488351232) (hl : q.length < 4611686018427387904) {n : Int} (h0 : 0 ≤ n) (h1 : n ≤ 1048576) : ∃ m, V 44 [.rs (2, 0) (q.map eP), .int .i64 n] = some (.int .i64 m, []) ∧ m ≤ 1048576 ∧ (0 ≤ m → q.length ≤ 1048576) := by
  rw [elaws_szPieceS]
  simp only [ni, List.length_map]
  rw [w64 (by omega) (by omega)]
  by_cases h : n - q.length < 0
  · rw [br_of (decide_eq_true h)]; exact ⟨_, rfl, by omega, by omega⟩
  · rw [br_not (decide_eq_false h)]
    obtain ⟨m, h2, h3⟩ := szPS_loop hq hl q.length 0 (n - q.length) (by omega) (by omega) (by omega)
    exact ⟨m, h2, h3, by omega⟩

/-- what comes of the arguments -/
structure Lk.Fits (l : Lk) : Prop where
  q : ∀ s ∈ l.queue, s.size ≤ 140737488351232
  ql : l.queue.length < 4611686018427387904
  h : ∀ s ∈ l.held, s.text.size ≤ 140737488351232
  hl : l.held.length < 4611686018427387904
theorem v_sz {l : Lk} (hf : l.Fits) {n : Int} (h0 : 0 ≤ n) (h1 : n ≤ 1048576) : ∃ m, V 18 [eK l, .int .i64 n] = some (.int .i64 m, []) ∧ m ≤ 1048576 ∧ (0 ≤ m → l.queue.length ≤ 1048576 ∧ l.held.length ≤ 1048576) := by
  unfold eK
  rw [elaws_szLink]
  obtain ⟨m, h2, h3, h4⟩ := v_szS hf.q hf.ql h0 h1
  rw [ocall_some h2, asI_int, unn_nil]
  by_cases h : m < 0
  · rw [br_of (decide_eq_true h)]; exact ⟨_, rfl, by omega, by omega⟩
  · rw [br_not (decide_eq_false h)]
    obtain ⟨m2, h5, h6, h7⟩ := v_szPS hf.h hf.hl (n := m) (by omega) h3
    rw [ocall_some h5, asI_int, unn_nil]
    by_cases h' : m2 < 0
    · rw [br_of (decide_eq_true h')]; exact ⟨_, rfl, by omega, by omega⟩
    · rw [br_not (decide_eq_false h')]; exact ⟨_, rfl, h6, fun _ => ⟨h4 (by omega), h7 (by omega)⟩⟩

/-! ## copies -/
theorem toS_loop {l : List ByteArray} (hl : l.length < 4611686018427387904) : ∀ (k i : Nat), i + k = l.length → Llaws_toStringS_3 (l.map .str) (i : Int) ((l.take i ++ List.replicate k (⟨#[]⟩ : ByteArray)).map .str) = some (.os (1, 0) (l.map .str), [])
  | 0, i, hi => by
    rw [Llaws_toStringS_3_eq, br_not (by rw [List.length_map]; exact ge_idx (by omega))]
    simp [List.take_of_length_le (show l.length ≤ i by omega)]
  | k + 1, i, hi => by
    obtain ⟨x, hx⟩ := get_of_lt (l := l) (i := i) (by omega)
    have ih := toS_loop hl k (i + 1) (by omega)
    have hlen : (l.take i ++ List.replicate (k + 1) (⟨#[]⟩ : ByteArray)).length = l.length := by simp; omega
    have hgi : (l.take i ++ List.replicate (k + 1) (⟨#[]⟩ : ByteArray))[i]? = some ⟨#[]⟩ := by
      rw [List.getElem?_append_right (by rw [List.length_take]; omega), List.length_take, show i - min i l.length = 0 by omega]
      rfl
    rw [Llaws_toStringS_3_eq, br_of (by rw [List.length_map]; exact lt_idx (by omega)), grd_of (by rw [List.length_map]; exact in_idx (by omega)), Int.toNat_natCast, oget_map hx, asS_str, grd_of (by rw [List.length_map, hlen]; exact in_idx (by omega)), oget_map hgi, w64s (by omega), nam_eq, ← ih]
    congr 1
    rw [← List.map_set]
    congr 1
    rw [List.set_append_right _ _ (by rw [List.length_take]; omega), List.length_take, show i - min i l.length = 0 by omega, take_at hx, List.replicate_succ]
    simp
theorem v_toS {l : List ByteArray} (hl : l.length ≤ 4294967296) : V 45 [.rs (1, 0) (l.map .str)] = some (.os (1, 0) (l.map .str), []) := by
  rw [elaws_toStringS, grd_of (by simp [ni, LIM_eq]; omega)]
  have := toS_loop (l := l) (by omega) l.length 0 (by omega)
  simpa [ni, List.map_replicate] using this

noncomputable def zP : Pc := ⟨0, ⟨#[]⟩⟩
theorem toP_loop {l : List Pc} (hl : l.length < 4611686018427387904) : ∀ (k i : Nat), i + k = l.length → Llaws_toPieceS_3 (l.map eP) (i : Int) ((l.take i ++ List.replicate k zP).map eP) = some (.os (2, 0) (l.map eP), [])
  | 0, i, hi => by
    rw [Llaws_toPieceS_3_eq, br_not (by rw [List.length_map]; exact ge_idx (by omega))]
    simp [List.take_of_length_le (show l.length ≤ i by omega)]
  | k + 1, i, hi => by
    obtain ⟨x, hx⟩ := get_of_lt (l := l) (i := i) (by omega)
    have ih := toP_loop hl k (i + 1) (by omega)
    have hlen : (l.take i ++ List.replicate (k + 1) zP).length = l.length := by simp; omega
    have hgi : (l.take i ++ List.replicate (k + 1) zP)[i]? = some zP := by
      rw [List.getElem?_append_right (by rw [List.length_take]; omega), List.length_take, show i - min i l.length = 0 by omega]
      rfl
    rw [Llaws_toPieceS_3_eq, br_of (by rw [List.length_map]; exact lt_idx (by omega)), grd_of (by rw [List.length_map]; exact in_idx (by omega)), Int.toNat_natCast, oget_map hx, eP_mk x]
    rw [asAgg_agg, unc_cons, asI_int, unc_cons, asS_str, unn_nil, ocall_some (elaws_toPiece _ _), asAgg_agg, unc_cons, asI_int, unc_cons, asS_str, unn_nil, unn_nil]
    rw [grd_of (by rw [List.length_map, hlen]; exact in_idx (by omega)), oget_map hgi, w64s (by omega), nam_eq, ← ih]
    congr 1
    rw [← eP_mk x, ← List.map_set]
    congr 1
    rw [List.set_append_right _ _ (by rw [List.length_take]; omega), List.length_take, show i - min i l.length = 0 by omega, take_at hx, List.replicate_succ]
    simp
theorem v_toP {l : List Pc} (hl : l.length ≤ 4294967296) : V 46 [.rs (2, 0) (l.map eP)] = some (.os (2, 0) (l.map eP), []) := by
  rw [elaws_toPieceS, grd_of (by simp [ni, LIM_eq]; omega)]
  have := toP_loop (l := l) (by omega) l.length 0 (by omega)
  simpa [ni, List.map_replicate, zP, eP] using this
theorem v_toK {l : Lk} (h1 : l.queue.length ≤ 4294967296) (h2 : l.held.length ≤ 4294967296) : V 20 [eK l] = some (oK l, []) := by
  unfold eK oK
  rw [elaws_toLink, ocall_some (v_toS h1), asOs_os, unn_nil, ocall_some (v_toP h2), asOs_os, unn_nil]

/-! ## the same -/
theorem eqS_loop {l : List ByteArray} (hl : l.length < 4611686018427387904) : ∀ (k i : Nat), i + k = l.length → Llaws_eqStringS_4 (l.map .str) (l.map .str) (i : Int) = some (.bool true, [])
  | 0, i, hi => by rw [Llaws_eqStringS_4_eq, br_not (by rw [List.length_map]; exact ge_idx (by omega))]
  | k + 1, i, hi => by
    obtain ⟨x, hx⟩ := get_of_lt (l := l) (i := i) (by omega)
    rw [Llaws_eqStringS_4_eq, br_of (by rw [List.length_map]; exact lt_idx (by omega)), grd_of (by rw [List.length_map]; exact in_idx (by omega)), Int.toNat_natCast, oget_map hx, asS_str, grd_of (by rw [List.length_map]; exact in_idx (by omega)), oget_map hx, asS_str, br_not (by rw [strEq_refl]; rfl), w64s (by omega)]
    exact eqS_loop hl k (i + 1) (by omega)
theorem v_eqS {l : List ByteArray} (hl : l.length < 4611686018427387904) : V 23 [.rs (1, 0) (l.map .str), .rs (1, 0) (l.map .str)] = some (.bool true, []) := by
  rw [elaws_eqStringS, br_not (by simp)]
  exact eqS_loop hl l.length 0 (by omega)
theorem v_eqPc (p : Pc) : V 56 [.agg [.int .i64 p.no, .str p.text], .agg [.int .i64 p.no, .str p.text]] = some (.bool true, []) := by
  rw [elaws_eqPiece, br_not (by simp), br_not (by rw [strEq_refl]; rfl)]
theorem eqP_loop {l : List Pc} (hl : l.length < 4611686018427387904) : ∀ (k i : Nat), i + k = l.length → Llaws_eqPieceS_4 (l.map eP) (l.map eP) (i : Int) = some (.bool true, [])
  | 0, i, hi => by rw [Llaws_eqPieceS_4_eq, br_not (by rw [List.length_map]; exact ge_idx (by omega))]
  | k + 1, i, hi => by
    obtain ⟨x, hx⟩ := get_of_lt (l := l) (i := i) (by omega)
    rw [Llaws_eqPieceS_4_eq, br_of (by rw [List.length_map]; exact lt_idx (by omega)), grd_of (by rw [List.length_map]; exact in_idx (by omega)), Int.toNat_natCast, oget_map hx, eP_mk x, asAgg_agg, unc_cons, asI_int, unc_cons, asS_str, unn_nil, grd_of (by rw [List.length_map]; exact in_idx (by omega)), oget_map hx, eP_mk x, asAgg_agg, unc_cons, asI_int, unc_cons, asS_str, unn_nil, ocall_some (v_eqPc x), asB_bool, unn_nil, br_not (by rfl), w64s (by omega)]
    exact eqP_loop hl k (i + 1) (by omega)
theorem v_eqP {l : List Pc} (hl : l.length < 4611686018427387904) : V 47 [.rs (2, 0) (l.map eP), .rs (2, 0) (l.map eP)] = some (.bool true, []) := by
  rw [elaws_eqPieceS, br_not (by simp)]
  exact eqP_loop hl l.length 0 (by omega)
theorem v_eqK {l : Lk} (h1 : l.queue.length < 4611686018427387904) (h2 : l.held.length < 4611686018427387904) : V 22 [eK l, eK l] = some (.bool true, []) := by
  unfold eK
  rw [elaws_eqLink, br_not (by simp), br_not (by simp), ocall_some (v_eqS h1), asB_bool, unn_nil, br_not (by rfl), br_not (by simp), ocall_some (v_eqP h2), asB_bool, unn_nil, br_not (by rfl)]

/-! ## LinkOk -/
noncomputable def prevOk (h : List Pc) : Nat → Pc → Bool
  | 0, _ => true
  | j + 1, p => match h[j]? with | some q => !decide (q.no ≥ p.no) | none => true
noncomputable def heldFrom (l : Lk) : Nat → Nat → Bool
  | _, 0 => true
  | i, k + 1 => (match l.held[i]? with | some p => wi p.no (l.got + 1) (mnI (l.got + 4) l.sent - 1) && prevOk l.held i p | none => true) && heldFrom l (i + 1) k
noncomputable def okK (l : Lk) : Bool := wi l.sent 0 100000 && (wi l.got 0 l.sent && (wi l.acked 0 l.got && (((l.queue.length : Int) == l.sent - l.acked) && (!decide ((l.queue.length : Int) > 30) && heldFrom l 0 l.held.length))))

theorem mnI_le (a b : Int) : mnI a b ≤ a ∧ mnI a b ≤ b ∧ (mnI a b = a ∨ mnI a b = b) := by unfold mnI; split <;> omega

theorem spec_okK_loop {l : Lk} (hl : l.held.length < 4611686018427387904) (h1 : 0 ≤ l.got) (h2 : l.got ≤ 100000) (h3 : 0 ≤ l.sent) (h4 : l.sent ≤ 100000) : ∀ (k i : Nat), i + k = l.held.length → Lspec_LinkOk_4 (i : Int) l.sent l.acked (l.queue.map .str) l.got (l.held.map eP) = some (.bool (heldFrom l i k), [])
  | 0, i, hi => by
    rw [Lspec_LinkOk_4_eq, br_not (by rw [List.length_map]; exact ge_idx (by omega))]; rfl
  | k + 1, i, hi => by
    obtain ⟨x, hx⟩ := get_of_lt (l := l.held) (i := i) (by omega)
    have ih := spec_okK_loop hl h1 h2 h3 h4 k (i + 1) (by omega)
    have hmn := mnI_le (l.got + 4) l.sent
    rw [Lspec_LinkOk_4_eq, br_of (by rw [List.length_map]; exact lt_idx (by omega)), grd_of (by rw [List.length_map]; exact in_idx (by omega)), Int.toNat_natCast, oget_map hx, eP_mk x, asAgg_agg, oget_lit0, asI_int, w64 (n := l.got + 4) (by omega) (by omega), ocall_some (v_l1Min _ _), asI_int, unn_nil, w64 (n := l.got + 1) (by omega) (by omega), w64 (n := mnI (l.got + 4) l.sent - 1) (by omega) (by omega), ocall_some (v_l1In _ _ _), asB_bool, unn_nil, w64s (by omega)]
    simp only [heldFrom, hx]
    cases wi x.no (l.got + 1) (mnI (l.got + 4) l.sent - 1) with
    | false => rfl
    | true =>
      rw [Bool.not_true, br_false]
      cases i with
      | zero => rw [br_not (by simp)]; simp only [prevOk, Bool.true_and, Bool.and_self]; exact ih
      | succ j =>
        obtain ⟨y, hy⟩ := get_of_lt (l := l.held) (i := j) (by omega)
        rw [br_of (by simp), w64 (n := ((j + 1 : Nat) : Int) - 1) (by omega) (by omega), show ((j + 1 : Nat) : Int) - 1 = (j : Int) by omega, grd_of (by rw [List.length_map]; exact in_idx (by omega)), Int.toNat_natCast, oget_map hy, eP_mk y, asAgg_agg, oget_lit0, asI_int]
        simp only [prevOk, hy]
        cases decide (y.no ≥ x.no) with
        | true => rfl
        | false => rw [br_false]; simpa using ih
theorem v_spec_okK {l : Lk} (_ : l.queue.length < 4611686018427387904) (hl : l.held.length < 4611686018427387904) : V 16 [eK l] = some (.bool (okK l), []) := by
  unfold eK okK
  rw [espec_LinkOk, ocall_some (v_l1In _ _ _), asB_bool, unn_nil]
  cases h1 : wi l.sent 0 100000 with
  | false => rfl
  | true =>
    rw [Bool.not_true, br_false, ocall_some (v_l1In _ _ _), asB_bool, unn_nil]
    cases h2 : wi l.got 0 l.sent with
    | false => rfl
    | true =>
      rw [Bool.not_true, br_false, ocall_some (v_l1In _ _ _), asB_bool, unn_nil]
      cases h3 : wi l.acked 0 l.got with
      | false => rfl
      | true =>
        simp only [wi, Bool.and_eq_true, decide_eq_true_eq] at h1 h2 h3
        rw [Bool.not_true, br_false, w64 (n := l.sent - l.acked) (by omega) (by omega)]
        simp only [ni, List.length_map, bne]
        cases ((l.queue.length : Int) == l.sent - l.acked) with
        | false => rfl
        | true =>
          rw [Bool.not_true, br_false]
          cases decide ((l.queue.length : Int) > 30) with
          | true => rfl
          | false =>
            rw [br_false]
            simpa using spec_okK_loop hl (by omega) (by omega) (by omega) (by omega) l.held.length 0 (by omega)

theorem impl_okK_loop {l : Lk} (hl : l.held.length < 4611686018427387904) (h1 : 0 ≤ l.got) (h2 : l.got ≤ 100000) (h3 : 0 ≤ l.sent) (h4 : l.sent ≤ 100000) : ∀ (k i : Nat), i + k = l.held.length → Limpl_LinkOk_4 (l.held.map eP) (l.held.length : Int) (i : Int) l.sent l.acked (l.queue.map .str) l.got (l.held.map eP) = some (.bool (heldFrom l i k), [])
  | 0, i, hi => by
    rw [Limpl_LinkOk_4_eq, br_not (decide_eq_false (by omega))]; rfl
  | k + 1, i, hi => by
    obtain ⟨x, hx⟩ := get_of_lt (l := l.held) (i := i) (by omega)
    have ih := impl_okK_loop hl h1 h2 h3 h4 k (i + 1) (by omega)
    have hmn := mnI_le (l.got + 4) l.sent
    rw [Limpl_LinkOk_4_eq, br_of (decide_eq_true (by omega)), grd_of (by rw [List.length_map]; exact in_idx (by omega)), Int.toNat_natCast, oget_map hx, eP_mk x, asAgg_agg, unc_cons, asI_int, unc_cons, asS_str, unn_nil, w64 (n := l.got + 4) (by omega) (by omega), w64 (n := l.got + 1) (by omega) (by omega), w64 (n := mnI (l.got + 4) l.sent - 1) (by omega) (by omega), ocall_some (v_within _ _ _), asB_bool, unn_nil, w64s (by omega)]
    simp only [heldFrom, hx]
    cases wi x.no (l.got + 1) (mnI (l.got + 4) l.sent - 1) with
    | false => rfl
    | true =>
      rw [Bool.not_true, br_false]
      cases i with
      | zero => rw [br_not (by simp)]; simp only [prevOk, Bool.true_and, Bool.and_self]; exact ih
      | succ j =>
        obtain ⟨y, hy⟩ := get_of_lt (l := l.held) (i := j) (by omega)
        rw [br_of (by simp), w64 (n := ((j + 1 : Nat) : Int) - 1) (by omega) (by omega), show ((j + 1 : Nat) : Int) - 1 = (j : Int) by omega, grd_of (by rw [List.length_map]; exact in_idx (by omega)), Int.toNat_natCast, oget_map hy, eP_mk y, asAgg_agg, oget_lit0, asI_int]
        simp only [prevOk, hy]
        cases decide (y.no ≥ x.no) with
        | true => rfl
        | false => rw [br_false]; simpa using ih
theorem v_impl_okK {l : Lk} (_ : l.queue.length < 4611686018427387904) (hl : l.held.length < 4611686018427387904) : V 17 [eK l] = some (.bool (okK l), []) := by
  unfold eK okK
  rw [eimpl_LinkOk, ocall_some (v_within _ _ _), asB_bool, unn_nil]
  cases h1 : wi l.sent 0 100000 with
  | false => rfl
  | true =>
    rw [Bool.not_true, br_false, ocall_some (v_within _ _ _), asB_bool, unn_nil]
    cases h2 : wi l.got 0 l.sent with
    | false => rfl
    | true =>
      rw [Bool.not_true, br_false, ocall_some (v_within _ _ _), asB_bool, unn_nil]
      cases h3 : wi l.acked 0 l.got with
      | false => rfl
      | true =>
        simp only [wi, Bool.and_eq_true, decide_eq_true_eq] at h1 h2 h3
        rw [Bool.not_true, br_false, w64 (n := l.sent - l.acked) (by omega) (by omega)]
        simp only [ni, List.length_map, bne]
        cases ((l.queue.length : Int) == l.sent - l.acked) with
        | false => rfl
        | true =>
          rw [Bool.not_true, br_false]
          cases decide ((l.queue.length : Int) > 30) with
          | true => rfl
          | false =>
            rw [br_false]
            simpa using impl_okK_loop hl (by omega) (by omega) (by omega) (by omega) l.held.length 0 (by omega)

/-! ## the arguments -/
theorem z9 : zOf prog 9 = some (1, 0) := by rfl
theorem z59 : zOf prog 45 = some (2, 0) := by rfl
theorem listOf_forall {α : Type} {enc : α → D} {p : α → Prop} {ys : List D} (h : ∀ x ∈ ys, ∃ a, x = enc a ∧ p a) : ∃ l : List α, ys = l.map enc ∧ ∀ a ∈ l, p a := listOf_all h
theorem arg_link {x : D} (h : ShapeV prog 44 x) : ∃ l : Lk, x = eK l ∧ l.Fits := by
  obtain ⟨ys, hs, rfl⟩ := h
  obtain ⟨parts, rfl, hp⟩ := hs.struct Try.underlying44
  cases hp with | cons p1 hp =>
  cases hp with | cons p2 hp =>
  cases hp with | cons p3 hp =>
  cases hp with | cons p4 hp =>
  cases hp with | cons p5 hp =>
  cases hp
  obtain ⟨a, rfl, _⟩ := p1.int Try.underlying3
  obtain ⟨b, rfl, _⟩ := p2.int Try.underlying3
  obtain ⟨c, rfl, _⟩ := p4.int Try.underlying3
  obtain ⟨qs, rfl, hq1, hq2⟩ := p3.slice Try.underlying24 z9
  obtain ⟨hs', rfl, hh1, hh2⟩ := p5.slice Try.underlying42 z59
  have q1 : ∀ x ∈ qs, ∃ s : ByteArray, x = D.str s ∧ s.size ≤ 140737488351232 := by
    intro x hx
    obtain ⟨ps, hs, rfl⟩ := hq2 x hx
    obtain ⟨s, rfl, hsz⟩ := hs.str Try.underlying9
    exact ⟨s, elemOf_str Try.underlying9, hsz⟩
  have h1 : ∀ x ∈ hs', ∃ p : Pc, x = eP p ∧ p.text.size ≤ 140737488351232 := by
    intro x hx
    obtain ⟨ps, hs, rfl⟩ := hh2 x hx
    obtain ⟨parts, rfl, hp⟩ := hs.struct Try.underlying45
    cases hp with | cons r1 hp =>
    cases hp with | cons r2 hp =>
    cases hp
    obtain ⟨n, rfl, _⟩ := r1.int Try.underlying3
    obtain ⟨s, rfl, hsz⟩ := r2.str Try.underlying9
    rw [elemOf_struct Try.underlying45]
    exact ⟨⟨n, s⟩, rfl, hsz⟩
  obtain ⟨q, rfl, hq⟩ := listOf_forall q1
  obtain ⟨h, rfl, hh⟩ := listOf_forall h1
  have hby : prog.bytesOf 9 = 16 := by rfl
  have hby2 : prog.bytesOf 45 = 24 := by rfl
  have hr : reachBytes = 140737488351232 := rfl
  rw [hby, List.length_map] at hq1
  rw [hby2, List.length_map] at hh1
  refine ⟨⟨a, b, q, c, h⟩, ?_, ⟨hq, by simp only; omega, hh, by simp only; omega⟩⟩
  rw [elemOf_struct Try.underlying44]; rfl
end Go.Eng
/-! what the functions on links come to, second part -/
namespace Go.Eng
open Go.Proofs Go.Proofs.Try

/-! ## marks -/
theorem markText_loop : ∀ (n : Nat) (p : Int) (s : ByteArray), 0 ≤ p → p < 4611686018427387904 → p < 10 ^ n → s.size + n + 1 ≤ 1000 → ∃ t, Llaws_markText_4 p s = some (.str t, [])
  | 0, p, s, h0, hp, h1, hs => by
    rw [Llaws_markText_4_eq, br_not (decide_eq_false (by simp at h1; omega)), grd_of (decide_eq_true (by simp only [ni, LIM_eq, show ByteArray.size { data := #[109] } = 1 from rfl]; omega))]
    exact ⟨_, rfl⟩
  | n + 1, p, s, h0, hp, h1, hs => by
    by_cases h : p > 0
    · have ht : 0 ≤ Int.tmod p 10 ∧ Int.tmod p 10 < 10 := ⟨Int.tmod_nonneg _ h0, Int.tmod_lt_of_pos _ (by omega)⟩
      have hd : Int.tdiv p 10 = p / 10 := Int.tdiv_eq_ediv_of_nonneg h0
      rw [Llaws_markText_4_eq, br_of (decide_eq_true h)]
      simp only [obytes, List.mapM_cons, List.mapM_nil, Option.pure_def, Option.bind_eq_bind, Option.bind_some]
      rw [grd_of (decide_eq_true (by simp only [ni, LIM_eq, show ∀ x : UInt8, ByteArray.size { data := [x].toArray } = 1 from fun x => rfl]; omega)), hd, w64 (n := p / 10) (by omega) (by omega)]
      refine markText_loop n _ _ (by omega) (by omega) ?_ ?_
      · rw [Int.pow_succ] at h1; omega
      · rw [ByteArray.size_append, show ∀ x : UInt8, ByteArray.size { data := [x].toArray } = 1 from fun x => rfl]; omega
    · rw [Llaws_markText_4_eq, br_not (decide_eq_false h), grd_of (decide_eq_true (by simp only [ni, LIM_eq, show ByteArray.size { data := #[109] } = 1 from rfl]; omega))]
      exact ⟨_, rfl⟩
theorem markText_some {p : Int} (h1 : p < 4611686018427387904) : ∃ t, V 49 [.int .i64 p] = some (.str t, []) := by
  rw [elaws_markText]
  by_cases h : p ≤ 0
  · rw [br_of (decide_eq_true h)]; exact ⟨_, rfl⟩
  · rw [br_not (decide_eq_false h)]
    exact markText_loop 20 p _ (by omega) h1 (by omega) (by simp [show ByteArray.size { data := #[] } = 0 from rfl])
noncomputable def mt (p : Int) : ByteArray := match V 49 [.int .i64 p] with | some (.str t, []) => t | _ => ⟨#[]⟩
theorem v_mt {p : Int} (h1 : p < 4611686018427387904) : V 49 [.int .i64 p] = some (.str (mt p), []) := by
  obtain ⟨t, ht⟩ := markText_some h1
  simp only [mt, ht]

noncomputable def markedS (k n : Nat) : List ByteArray := (List.range n).map fun i => mt ((k + i : Nat) : Int)
theorem markS_loop {l : List ByteArray} (hl : l.length < 1152921504606846976) {c : Nat} (hc : c < 1152921504606846976) : ∀ (k i : Nat), i + k = l.length → Llaws_markStringS_2 ((c + i : Nat) : Int) (i : Int) ((markedS c i ++ l.drop i).map .str) = some (.int .i64 ((c + l.length : Nat) : Int), [.os (1, 0) ((markedS c l.length).map .str)])
  | 0, i, hi => by
    have hlen : (markedS c i ++ l.drop i).length = i := by simp [markedS]; omega
    rw [Llaws_markStringS_2_eq, br_not (by rw [List.length_map, hlen]; exact ge_idx (by omega))]
    have : i = l.length := by omega
    subst this
    simp
  | k + 1, i, hi => by
    obtain ⟨x, hx⟩ := get_of_lt (l := l) (i := i) (by omega)
    have ih := markS_loop hl hc k (i + 1) (by omega)
    have hml : (markedS c i).length = i := by simp [markedS]
    have hlen : (markedS c i ++ x :: l.drop (i + 1)).length = l.length := by simp [markedS]; omega
    have hget : (markedS c i ++ x :: l.drop (i + 1))[i]? = some x := by
      rw [List.getElem?_append_right (by omega), hml, Nat.sub_self]; rfl
    have hset : ((markedS c i ++ x :: l.drop (i + 1)).map D.str).set i (D.str (mt ((c + i : Nat) : Int))) = (markedS c (i + 1) ++ l.drop (i + 1)).map D.str := by
      rw [← List.map_set, List.set_append_right _ _ (by omega), hml, Nat.sub_self]
      simp [markedS, List.range_succ]
    rw [drop_at hx, Llaws_markStringS_2_eq, br_of (by rw [List.length_map, hlen]; exact lt_idx (by omega)), ocall_some (v_mt (by omega)), asS_str, unn_nil]
    rw [grd_of (by rw [List.length_map, hlen]; exact in_idx (by omega)), Int.toNat_natCast, oget_map hget, nam_eq, hset, w64s (by omega), w64s (by omega)]
    exact ih
theorem v_markS {l : List ByteArray} (hl : l.length < 1152921504606846976) {c : Nat} (hc : c < 1152921504606846976) : V 25 [.os (1, 0) (l.map .str), .int .i64 (c : Int)] = some (.int .i64 ((c + l.length : Nat) : Int), [.os (1, 0) ((markedS c l.length).map .str)]) := by
  rw [elaws_markStringS]
  have := markS_loop hl hc l.length 0 (by omega)
  simpa [markedS] using this
theorem heldS_loop {n c : Nat} (hn : n < 1152921504606846976) (hc : c < 1152921504606846976) : ∀ (k i : Nat), i + k = n → Llaws_heldStringS_2 ((markedS c n).map .str) ((c + i : Nat) : Int) (i : Int) = some (.int .i64 ((c + n : Nat) : Int), [])
  | 0, i, hi => by
    rw [Llaws_heldStringS_2_eq, br_not (by rw [List.length_map]; simp only [markedS, List.length_map, List.length_range]; exact ge_idx (by omega))]
    have : i = n := by omega
    subst this; rfl
  | k + 1, i, hi => by
    have ih := heldS_loop hn hc k (i + 1) (by omega)
    have hx : (markedS c n)[i]? = some (mt ((c + i : Nat) : Int)) := by simp [markedS, List.getElem?_map, List.getElem?_range (show i < n by omega)]
    have hlen : (markedS c n).length = n := by simp [markedS]
    rw [Llaws_heldStringS_2_eq, br_of (by rw [List.length_map, hlen]; exact lt_idx (by omega)), grd_of (by rw [List.length_map, hlen]; exact in_idx (by omega)), Int.toNat_natCast, oget_map hx, asS_str, ocall_some (v_mt (by omega)), asS_str, unn_nil, br_not (by rw [strEq_refl]; rfl), w64s (by omega), w64s (by omega)]
    exact ih
theorem v_heldS {n c : Nat} (hn : n < 1152921504606846976) (hc : c < 1152921504606846976) : V 27 [.rs (1, 0) ((markedS c n).map .str), .int .i64 (c : Int)] = some (.int .i64 ((c + n : Nat) : Int), []) := by
  rw [elaws_heldStringS]
  exact heldS_loop hn hc n 0 (by omega)

noncomputable def mkP (c i : Nat) : Pc := ⟨((c + 2 * i : Nat) : Int), mt ((c + 2 * i + 1 : Nat) : Int)⟩
noncomputable def markedP (c n : Nat) : List Pc := (List.range n).map (mkP c)
theorem markP_loop {l : List Pc} (hl : l.length < 1152921504606846976) {c : Nat} (hc : c < 1152921504606846976) : ∀ (k i : Nat), i + k = l.length → Llaws_markPieceS_2 ((c + 2 * i : Nat) : Int) (i : Int) ((markedP c i ++ l.drop i).map eP) = some (.int .i64 ((c + 2 * l.length : Nat) : Int), [.os (2, 0) ((markedP c l.length).map eP)])
  | 0, i, hi => by
    have hlen : (markedP c i ++ l.drop i).length = i := by simp [markedP]; omega
    rw [Llaws_markPieceS_2_eq, br_not (by rw [List.length_map, hlen]; exact ge_idx (by omega))]
    have : i = l.length := by omega
    subst this
    simp
  | k + 1, i, hi => by
    obtain ⟨x, hx⟩ := get_of_lt (l := l) (i := i) (by omega)
    have ih := markP_loop hl hc k (i + 1) (by omega)
    have hml : (markedP c i).length = i := by simp [markedP]
    have hlen : ∀ y, (markedP c i ++ y :: l.drop (i + 1)).length = l.length := by intro y; simp [markedP]; omega
    have hget : ∀ y, (markedP c i ++ y :: l.drop (i + 1))[i]? = some y := by
      intro y; rw [List.getElem?_append_right (by omega), hml, Nat.sub_self]; rfl
    have hset : ∀ y z, ((markedP c i ++ y :: l.drop (i + 1)).map eP).set i (eP z) = (markedP c i ++ z :: l.drop (i + 1)).map eP := by
      intro y z; rw [← List.map_set, List.set_append_right _ _ (by omega), hml, Nat.sub_self]; rfl
    have c1 : IntKind.wrap IntKind.i64 (((c + 2 * i : Nat) : Int) + 1) = ((c + 2 * i + 1 : Nat) : Int) := w64s (by omega)
    have c2 : IntKind.wrap IntKind.i64 (((c + 2 * i + 1 : Nat) : Int) + 1) = ((c + 2 * (i + 1) : Nat) : Int) := w64s (by omega)
    rw [drop_at hx, Llaws_markPieceS_2_eq, br_of (by rw [List.length_map, hlen]; exact lt_idx (by omega))]
    rw [grd_of (by rw [List.length_map, hlen]; exact in_idx (by omega)), Int.toNat_natCast, oget_map (hget x), eP_mk x]
    simp only [asAgg_agg, nam_eq, c1, c2, List.take_zero, List.nil_append, List.drop_succ_cons, List.drop_zero, List.cons_append]
    have s1 := hset x ⟨((c + 2 * i : Nat) : Int), x.text⟩
    rw [eP_mk ⟨_, _⟩] at s1
    simp only [] at s1
    rw [s1, ocall_some (v_mt (by omega)), asS_str, unn_nil, grd_of (by rw [List.length_map, hlen]; exact in_idx (by omega)), oget_map (hget _), eP_mk ⟨_, _⟩]
    simp only [asAgg_agg, List.take_succ_cons, List.take_zero, List.nil_append, List.drop_succ_cons, List.drop_zero, List.cons_append]
    have s3 := hset ⟨((c + 2 * i : Nat) : Int), x.text⟩ (mkP c i)
    rw [eP_mk (mkP c i)] at s3
    simp only [mkP] at s3
    rw [s3, w64s (by omega), ← ih]
    congr 1
    congr 1
    simp only [markedP, List.range_succ, List.map_append, List.map_cons, List.map_nil, List.append_assoc, List.cons_append, List.nil_append]
    rfl
theorem v_markP {l : List Pc} (hl : l.length < 1152921504606846976) {c : Nat} (hc : c < 1152921504606846976) : V 48 [.os (2, 0) (l.map eP), .int .i64 (c : Int)] = some (.int .i64 ((c + 2 * l.length : Nat) : Int), [.os (2, 0) ((markedP c l.length).map eP)]) := by
  rw [elaws_markPieceS]
  have := markP_loop hl hc l.length 0 (by omega)
  simpa [markedP] using this
theorem heldP_loop {n c : Nat} (hn : n < 1152921504606846976) (hc : c < 1152921504606846976) : ∀ (k i : Nat), i + k = n → Llaws_heldPieceS_2 ((markedP c n).map eP) ((c + 2 * i : Nat) : Int) (i : Int) = some (.int .i64 ((c + 2 * n : Nat) : Int), [])
  | 0, i, hi => by
    rw [Llaws_heldPieceS_2_eq, br_not (by rw [List.length_map]; simp only [markedP, List.length_map, List.length_range]; exact ge_idx (by omega))]
    have : i = n := by omega
    subst this; rfl
  | k + 1, i, hi => by
    have ih := heldP_loop hn hc k (i + 1) (by omega)
    have hx : (markedP c n)[i]? = some (mkP c i) := by simp [markedP, List.getElem?_map, List.getElem?_range (show i < n by omega)]
    have hlen : (markedP c n).length = n := by simp [markedP]
    have c1 : IntKind.wrap IntKind.i64 (((c + 2 * i : Nat) : Int) + 1) = ((c + 2 * i + 1 : Nat) : Int) := w64s (by omega)
    have c2 : IntKind.wrap IntKind.i64 (((c + 2 * i + 1 : Nat) : Int) + 1) = ((c + 2 * (i + 1) : Nat) : Int) := w64s (by omega)
    have hin : (decide (0 ≤ (i : Int)) && decide ((i : Int) < ni ((markedP c n).map eP).length)) = true := by rw [List.length_map, hlen]; exact in_idx (by omega)
    rw [Llaws_heldPieceS_2_eq, br_of (by rw [List.length_map, hlen]; exact lt_idx (by omega)), grd_of hin, Int.toNat_natCast, oget_map hx, eP_mk (mkP c i), asAgg_agg, oget_lit0, asI_int, br_not (by simp [mkP]), grd_of hin, oget_map hx, eP_mk (mkP c i), asAgg_agg, oget_lit1, asS_str, c1, c2, ocall_some (v_mt (by omega)), asS_str, unn_nil, br_not (by simp only [mkP]; rw [strEq_refl]; rfl), w64s (by omega)]
    exact ih
theorem v_heldP {n c : Nat} (hn : n < 1152921504606846976) (hc : c < 1152921504606846976) : V 50 [.rs (2, 0) ((markedP c n).map eP), .int .i64 (c : Int)] = some (.int .i64 ((c + 2 * n : Nat) : Int), []) := by
  rw [elaws_heldPieceS]
  exact heldP_loop hn hc n 0 (by omega)

/-! ## LinkShow -/
end Go.Eng
/-! what the functions on links come to, third part -/
namespace Go.Eng
open Go.Proofs Go.Proofs.Try

theorem v_markK {l : Lk} (h1 : l.queue.length < 1048577) (h2 : l.held.length < 1048577) : V 24 [oK l, .int .i64 1] = some (.int .i64 ((1 + l.queue.length + 2 * l.held.length : Nat) : Int), [oK ⟨l.sent, l.acked, markedS 1 l.queue.length, l.got, markedP (1 + l.queue.length) l.held.length⟩]) := by
  unfold oK
  have m1 := v_markS (l := l.queue) (by omega) (c := 1) (by omega)
  have m2 := v_markP (l := l.held) (by omega) (c := 1 + l.queue.length) (by omega)
  rw [elaws_markLink, show (1 : Int) = ((1 : Nat) : Int) from rfl, ocall_some m1, asI_int, unc_cons, asOs_os, unn_nil, ocall_some m2, asI_int, unc_cons, asOs_os, unn_nil]
theorem v_heldK {l : Lk} (n m : Nat) (h1 : n < 1048577) (h2 : m < 1048577) : V 26 [eK ⟨l.sent, l.acked, markedS 1 n, l.got, markedP (1 + n) m⟩, .int .i64 1] = some (.int .i64 ((1 + n + 2 * m : Nat) : Int), []) := by
  unfold eK
  have m1 := v_heldS (n := n) (by omega) (c := 1) (by omega)
  have m2 := v_heldP (n := m) (by omega) (c := 1 + n) (by omega)
  rw [elaws_heldLink, show (1 : Int) = ((1 : Nat) : Int) from rfl, ocall_some m1, asI_int, unn_nil, br_not (decide_eq_false (by omega)), ocall_some m2, asI_int, unn_nil, br_not (decide_eq_false (by omega))]

end Go.Eng
/-! what the functions on links come to, fourth part: LinkAck, LinkSend -/
namespace Go.Eng
open Go.Proofs Go.Proofs.Try

noncomputable def zK : Lk := ⟨0, 0, [], 0, []⟩
theorem v_cloneS {l : List D} (hl : l.length ≤ 4294967296) : V 34 [.rs (1, 0) l] = some (.os (1, 0) l, []) := by
  rw [eslices_Clone_string_string, grd_of (decide_eq_true (by simp only [ni, LIM_eq, List.nil_append]; omega))]
  exact nilb_clone _ _
theorem v_cloneP {l : List D} (hl : l.length ≤ 4294967296) : V 33 [.rs (2, 0) l] = some (.os (2, 0) l, []) := by
  rw [eslices_Clone_impl_Piece_impl_Piece, grd_of (decide_eq_true (by simp only [ni, LIM_eq, List.nil_append]; omega))]
  exact nilb_clone _ _
theorem v_copyK {l : Lk} (h1 : l.queue.length ≤ 4294967296) (h2 : l.held.length ≤ 4294967296) : V 28 [eK l] = some (oK l, []) := by
  unfold eK oK
  rw [eimpl_copyLink, ocall_some (v_cloneS (by rw [List.length_map]; exact h1)), asOs_os, unn_nil, ocall_some (v_cloneP (by rw [List.length_map]; exact h2)), asOs_os, unn_nil]
theorem v_copyKs {l : Lk} (h1 : l.queue.length ≤ 4294967296) (h2 : l.held.length ≤ 4294967296) : V 39 [eK l] = some (oK l, []) := by
  unfold eK oK
  rw [espec_l10Copy, grd_of (decide_eq_true (by simp only [ni, LIM_eq, List.nil_append, List.length_map]; omega)), nam_eq, grd_of (decide_eq_true (by simp only [ni, LIM_eq, List.nil_append, List.length_map]; omega)), nam_eq]
  rfl

theorem okK_facts {l : Lk} (h : okK l = true) : 0 ≤ l.acked ∧ l.acked ≤ l.got ∧ l.got ≤ l.sent ∧ l.sent ≤ 100000 ∧ (l.queue.length : Int) = l.sent - l.acked ∧ (l.queue.length : Int) ≤ 30 := by
  simp only [okK, wi, Bool.and_eq_true, decide_eq_true_eq, beq_iff_eq, Bool.not_eq_true', decide_eq_false_iff_not] at h
  omega

end Go.Eng
/-! the laws on LinkAck and LinkSend -/
namespace Go.Eng
open Go.Proofs Go.Proofs.Try

end Go.Eng
/-! the law on LinkSend -/
namespace Go.Eng
open Go.Proofs Go.Proofs.Try

end Go.Eng
/-! what LinkTake of the reference comes to -/
namespace Go.Eng
open Go.Proofs Go.Proofs.Try

noncomputable def holdF (p : Pc) : List Pc → List Pc
  | [] => [p]
  | q :: r => if q.no ≥ p.no then (if q.no > p.no then p :: q :: r else q :: r) else q :: holdF p r
theorem holdF_length (p : Pc) : ∀ l, (holdF p l).length ≤ l.length + 1
  | [] => by simp [holdF]
  | q :: r => by
    have := holdF_length p r
    simp only [holdF]
    split
    · split <;> simp
    · simp; omega
theorem hold_true {l : List Pc} (hl : l.length < 4294967296) (n : Int) (s : ByteArray) : ∀ (k i : Nat) (acc : List Pc), i + k = l.length → acc.length ≤ i + 1 → Lspec_l10Hold_4 (l.map eP) true (i : Int) n s (acc.map eP) = some (.os (2, 0) ((acc ++ l.drop i).map eP), [])
  | 0, i, acc, hi, ha => by
    rw [Lspec_l10Hold_4_eq, br_not (by rw [List.length_map]; exact ge_idx (by omega)), List.drop_of_length_le (by omega), List.append_nil]
    rfl
  | k + 1, i, acc, hi, ha => by
    obtain ⟨x, hx⟩ := get_of_lt (l := l) (i := i) (by omega)
    have ih := hold_true hl n s k (i + 1) (acc ++ [x]) (by omega) (by simp; omega)
    have hlim : decide (ni (acc.map eP ++ [D.agg [.int .i64 x.no, .str x.text]]).length ≤ LIM) = true := decide_eq_true (by simp only [ni, LIM_eq, List.length_append, List.length_map, List.length_cons, List.length_nil]; omega)
    rw [Lspec_l10Hold_4_eq, br_of (by rw [List.length_map]; exact lt_idx (by omega)), Bool.not_true, br_false, grd_of (by rw [List.length_map]; exact in_idx (by omega)), Int.toNat_natCast, oget_map hx, eP_mk x]
    simp only [asI_int, asS_str, asAgg_agg, unc_cons, unn_nil, nam_eq]
    rw [grd_of hlim, w64s (by omega), drop_at hx]
    simpa [eP] using ih
theorem hold_false {l : List Pc} (hl : l.length < 4294967295) (p : Pc) : ∀ (k i : Nat) (acc : List Pc), i + k = l.length → acc.length ≤ i → Lspec_l10Hold_4 (l.map eP) false (i : Int) p.no p.text (acc.map eP) = some (.os (2, 0) ((acc ++ holdF p (l.drop i)).map eP), [])
  | 0, i, acc, hi, ha => by
    have hlim : decide (ni (acc.map eP ++ [D.agg [.int .i64 p.no, .str p.text]]).length ≤ LIM) = true := decide_eq_true (by simp only [ni, LIM_eq, List.length_append, List.length_map, List.length_cons, List.length_nil]; omega)
    rw [Lspec_l10Hold_4_eq, br_not (by rw [List.length_map]; exact ge_idx (by omega)), List.drop_of_length_le (by omega), Bool.not_false, br_true, grd_of hlim]
    simp [nam_eq, holdF, eP]
  | k + 1, i, acc, hi, ha => by
    obtain ⟨x, hx⟩ := get_of_lt (l := l) (i := i) (by omega)
    have hlim : decide (ni (acc.map eP ++ [D.agg [.int .i64 x.no, .str x.text]]).length ≤ LIM) = true := decide_eq_true (by simp only [ni, LIM_eq, List.length_append, List.length_map, List.length_cons, List.length_nil]; omega)
    have hlim2 : decide (ni (acc.map eP ++ [D.agg [.int .i64 p.no, .str p.text]]).length ≤ LIM) = true := decide_eq_true (by simp only [ni, LIM_eq, List.length_append, List.length_map, List.length_cons, List.length_nil]; omega)
    have hlim3 : decide (ni ((acc.map eP ++ [D.agg [.int .i64 p.no, .str p.text]]) ++ [D.agg [.int .i64 x.no, .str x.text]]).length ≤ LIM) = true := decide_eq_true (by simp only [ni, LIM_eq, List.length_append, List.length_map, List.length_cons, List.length_nil]; omega)
    have hidx : (decide (0 ≤ (i : Int)) && decide ((i : Int) < ni (l.map eP).length)) = true := by rw [List.length_map]; exact in_idx (by omega)
    rw [Lspec_l10Hold_4_eq, br_of (by rw [List.length_map]; exact lt_idx (by omega)), Bool.not_false, br_true]
    simp only [grd_of hidx, Int.toNat_natCast, oget_map hx, eP_mk x, asI_int, asS_str, asAgg_agg, unc_cons, unn_nil, nam_eq, oget_lit0, grd_of hlim, grd_of hlim2, grd_of hlim3]
    rw [w64s (by omega), drop_at hx]
    unfold holdF
    by_cases h1 : x.no ≥ p.no
    · rw [br_of (decide_eq_true h1), if_pos h1]
      by_cases h2 : x.no > p.no
      · rw [br_of (decide_eq_true h2), if_pos h2]
        have := hold_true (l := l) (by omega) p.no p.text k (i + 1) (acc ++ [p] ++ [x]) (by omega) (by simp; omega)
        simpa [eP] using this
      · rw [br_not (decide_eq_false h2), if_neg h2]
        have := hold_true (l := l) (by omega) p.no p.text k (i + 1) (acc ++ [x]) (by omega) (by simp; omega)
        simpa [eP] using this
    · rw [br_not (decide_eq_false h1), if_neg h1]
      have := hold_false hl p k (i + 1) (acc ++ [x]) (by omega) (by simp; omega)
      simpa [eP] using this
theorem v_hold {l : List Pc} (hl : l.length < 4294967295) (p : Pc) : V 42 [.rs (2, 0) (l.map eP), .agg [.int .i64 p.no, .str p.text]] = some (.os (2, 0) ((holdF p l).map eP), []) := by
  rw [espec_l10Hold]
  exact hold_false hl p l.length 0 [] (by omega) (by simp)

noncomputable def popF : Int → List Pc → List ByteArray × Int × List Pc
  | g, [] => ([], g, [])
  | g, q :: r => if q.no = g then (q.text :: (popF (g + 1) r).1, (popF (g + 1) r).2.1, (popF (g + 1) r).2.2) else ([], g, q :: r)
theorem popF_facts : ∀ (l : List Pc) (g : Int), g ≤ (popF g l).2.1 ∧ (popF g l).2.1 ≤ g + l.length ∧ (popF g l).2.2.length ≤ l.length ∧ ((popF g l).1.length : Int) = (popF g l).2.1 - g
  | [], g => by simp [popF]
  | q :: r, g => by
    have := popF_facts r (g + 1)
    simp only [popF]
    split
    · simp; omega
    · simp; omega
theorem pop_loop {l : List Pc} {q : List D} (hl : l.length < 4294967295) (z0 z1 z2 sent acked : Int) : ∀ (k i : Nat) (up : List ByteArray) (g : Int), i + k = l.length → up.length ≤ i + 1 → 0 ≤ g → g ≤ 100001 + i →
    Lspec_LinkTake_12v1 z0 z1 z2 (up.map .str) sent acked g i k q (l.map eP) = some (.tup [.agg [.int .i64 sent, .int .i64 acked, .os (1, 0) q, .int .i64 (popF g (l.drop i)).2.1, .os (2, 0) ((popF g (l.drop i)).2.2.map eP)], .os (1, 0) ((up ++ (popF g (l.drop i)).1).map .str)], [])
  | 0, i, up, g, hi, hu, hg, hg2 => by
    rw [Lspec_LinkTake_12v1_eq, br_not (by simp [ni]), grd_of (by simp [ni, LIM_eq, part]), nam_eq, List.drop_of_length_le (by omega)]
    simp [popF, part]
  | k + 1, i, up, g, hi, hu, hg, hg2 => by
    obtain ⟨x, hx⟩ := get_of_lt (l := l) (i := i) (by omega)
    have hb : (decide (0 ≤ 0) && decide ((0 : Int) < ni (k + 1)) && decide (i + (k + 1) ≤ (l.map eP).length)) = true := by simp [ni]; omega
    have hlim : decide (ni (up.map D.str ++ [D.str x.text]).length ≤ LIM) = true := decide_eq_true (by simp only [ni, LIM_eq, List.length_append, List.length_map, List.length_cons, List.length_nil]; omega)
    have hcut : cutOkX (k + 1) ((l.map eP).length - i) (some 1) none = true := by simp [cutOkX]; omega
    have hpart : part (l.map eP) (some (i, k + 1)) = (l.drop i).map eP := by
      simp only [part, ← List.map_drop, ← List.map_take]
      rw [List.take_of_length_le (by rw [List.length_drop]; omega)]
    have hlim2 : decide (ni ([] ++ part (l.map eP) (some (i, k + 1))).length ≤ LIM) = true := by rw [hpart]; exact decide_eq_true (by simp only [ni, LIM_eq, List.nil_append, List.length_map, List.length_drop]; omega)
    have hb0 : decide (ni (k + 1) > 0) = true := decide_eq_true (by simp only [ni]; omega)
    have e0 : i + Int.toNat 0 = i := rfl
    rw [Lspec_LinkTake_12v1_eq, br_of hb0, grd_of hb, e0, oget_map hx, eP_mk x, asAgg_agg, oget_lit0, asI_int, drop_at hx]
    unfold popF
    by_cases h : x.no = g
    · rw [br_of (by simp [h]), if_pos h, grd_of hb, oget_map hx, eP_mk x, asAgg_agg, oget_lit1, asS_str, grd_of hlim, nam_eq, grd_of hcut, w64 (by omega) (by omega)]
      have := pop_loop (q := q) hl z0 z1 z2 sent acked k (i + 1) (up ++ [x.text]) (g + 1) (by omega) (by simp; omega) (by omega) (by omega)
      simp only [List.map_append, List.map_cons, List.map_nil] at this
      refine this.trans ?_
      simp
    · rw [br_not (by simp [h]), if_neg h, grd_of hlim2, nam_eq, hpart, drop_at hx]
      simp
theorem pop_first {l : List Pc} {q : List D} (hl : l.length < 4294967295) (z0 z1 z2 sent acked : Int) (s : ByteArray) (g : Int) (hg : 0 ≤ g) (hg2 : g ≤ 100001) :
    Lspec_LinkTake_12 z0 z1 z2 [D.str s] sent acked g q (l.map eP) = some (.tup [.agg [.int .i64 sent, .int .i64 acked, .os (1, 0) q, .int .i64 (popF g l).2.1, .os (2, 0) ((popF g l).2.2.map eP)], .os (1, 0) ((s :: (popF g l).1).map .str)], []) := by
  cases l with
  | nil => rw [Lspec_LinkTake_12_eq, br_not (by rfl), grd_of (by simp [ni, LIM_eq]), nam_eq]; rfl
  | cons x r =>
    have hlen : r.length + 1 < 4294967295 := by simpa using hl
    have hb0 : decide (ni (List.map eP (x :: r)).length > 0) = true := decide_eq_true (by simp only [ni, List.map_cons, List.length_cons]; omega)
    have hb : (decide (0 ≤ 0) && decide ((0 : Int) < ni (List.map eP (x :: r)).length)) = true := by simp only [ni, List.map_cons, List.length_cons, Bool.and_eq_true, decide_eq_true_eq]; omega
    have hlim : decide (ni ([D.str s] ++ [D.str x.text]).length ≤ LIM) = true := decide_eq_true (by simp [ni, LIM_eq])
    have hcut : cutOk (List.map eP (x :: r)).length (some 1) none = true := by simp [cutOk]; omega
    have hlim2 : decide (ni ([] ++ List.map eP (x :: r)).length ≤ LIM) = true := decide_eq_true (by simp only [ni, LIM_eq, List.nil_append, List.length_map, List.length_cons]; omega)
    have hx : (x :: r)[0]? = some x := rfl
    rw [Lspec_LinkTake_12_eq, br_of hb0, grd_of hb, oget_map hx, eP_mk x, asAgg_agg, oget_lit0, asI_int]
    unfold popF
    by_cases h : x.no = g
    · rw [br_of (by simp [h]), if_pos h, grd_of hb, oget_map hx, eP_mk x, asAgg_agg, oget_lit1, asS_str, grd_of hlim, nam_eq, grd_of hcut, w64 (by omega) (by omega)]
      have := pop_loop (q := q) hl z0 z1 z2 sent acked r.length 1 [s, x.text] (g + 1) (by simp; omega) (by simp) (by omega) (by omega)
      have e1 : (List.map eP (x :: r)).length - Int.toNat 1 = r.length := by simp
      rw [e1]
      exact this
    · rw [br_not (by simp [h]), if_neg h, grd_of hlim2, nam_eq]
      rfl

noncomputable def upL (l : Lk) (p : Pc) : Lk × List ByteArray := ({ l with got := (popF (l.got + 1) l.held).2.1, held := (popF (l.got + 1) l.held).2.2 }, p.text :: (popF (l.got + 1) l.held).1)
noncomputable def takeF (l : Lk) (p : Pc) : Lk × List ByteArray :=
  if okK l then (if wi p.no l.got (mnI (l.got + 4) l.sent - 1) then (if p.no > l.got then ({ l with held := holdF p l.held }, []) else upL l p) else (l, [])) else (zK, [])
theorem takeF_length (l : Lk) (p : Pc) : (takeF l p).1.queue.length ≤ l.queue.length ∧ (takeF l p).1.held.length ≤ l.held.length + 1 ∧ (takeF l p).2.length ≤ l.held.length + 1 := by
  have h1 := holdF_length p l.held
  have h2 := popF_facts l.held (l.got + 1)
  unfold takeF
  split
  · split
    · split
      · simp; omega
      · simp [upL]; omega
    · simp
  · simp [zK]
theorem v_spec_take {l : Lk} (h1 : l.queue.length < 4294967295) (h2 : l.held.length < 4294967295) (p : Pc) : V 15 [eK l, .agg [.int .i64 p.no, .str p.text]] = some (.tup [oK (takeF l p).1, .os (1, 0) ((takeF l p).2.map .str)], []) := by
  have hs := v_spec_okK (l := l) (by omega) (by omega)
  have hc := v_copyKs (l := l) (by omega) (by omega)
  have e : V 15 [eK l, .agg [.int .i64 p.no, .str p.text]] = _ := espec_LinkTake l.sent l.acked (l.queue.map .str) l.got (l.held.map eP) p.no p.text
  rw [e]
  unfold eK at hs hc
  unfold oK at hc
  unfold takeF
  rw [ocall_some hs, asB_bool, unn_nil]
  cases hok : okK l with
  | false => rfl
  | true =>
    have hf := okK_facts hok
    have hm := mnI_le (l.got + 4) l.sent
    rw [Bool.not_true, br_false, ocall_some hc]
    simp only [asI_int, asOs_os, asAgg_agg, unc_cons, unn_nil]
    rw [w64 (n := l.got + 4) (by omega) (by omega), ocall_some (v_l1Min _ _)]
    simp only [asI_int, unn_nil]
    rw [w64 (n := mnI (l.got + 4) l.sent - 1) (by omega) (by omega), ocall_some (v_l1In _ _ _)]
    simp only [asB_bool, unn_nil, if_true]
    cases wi p.no l.got (mnI (l.got + 4) l.sent - 1) with
    | false => rfl
    | true =>
      rw [Bool.not_true, br_false, if_pos rfl]
      by_cases hp : p.no > l.got
      · rw [br_of (decide_eq_true hp), if_pos hp, ocall_some (v_hold (by omega) p)]
        simp only [asOs_os, unn_nil]
        rfl
      · rw [br_not (decide_eq_false hp), if_neg hp, w64 (by omega) (by omega)]
        rw [pop_first (l := l.held) (q := l.queue.map .str) (by omega) 0 0 0 l.sent l.acked p.text (l.got + 1) (by omega) (by omega), grd_of (by simp [ni, LIM_eq])]
        rfl
end Go.Eng
/-! slices.Insert at a row of pieces: the library's own text, walked: four roads -/
namespace Go.Eng
open Go.Proofs Go.Proofs.Try Go.Lib

theorem insInfo : ∃ i, Try.prog.info? 36 = some i ∧ i.size = 2 ∧ i.bytes = 24 ∧ i.zero = some (.agg #[.int .i64 0, .string ⟨#[]⟩]) := ⟨_, rfl, rfl, rfl, rfl⟩
theorem oneCell_of {v : Value} (h : notAgg v) : v.oneCell' = true := by cases v <;> first | rfl | exact h.elim
/-- copy over elements of so many cells -/
theorem run_copyN {P : Program} (w : World) (dT sT ty elem : TypeId) {sz : Nat} (b o dLen dCap : Nat) (a : Addr) (sLen sCap : Nat) (cs : List Value)
    (hu : P.underlying dT = some (.slice elem)) (hs : (P.info? elem).map (·.size) = some sz) {n : Nat} (hn : n = Nat.min sLen dLen) (hl : cs.length = n * sz)
    (hsrc : ∀ j v, cs[j]? = some v → w.cell? (a.add j) = some v) (hc : ∀ j, j < cs.length → (w.cell? ⟨b, o + j, none⟩).isSome = true) (hf : ∀ j, j < cs.length → w.frozen? ⟨b, o + j, none⟩ = false) (h1 : ∀ v ∈ cs, v.oneCell' = true) :
    (Builtin.copy_ #[dT, sT] ty #[.slice (some ⟨b, o, none⟩) dLen dCap, .slice (some a) sLen sCap]).run P w = .ok (goInt n) (w.setCells b o cs) := by
  have hld := run_loadCells_list (P := P) w a cs hsrc
  have hst := run_storeCells_cells (P := P) b o cs 0 w (by simpa using hc) (by simpa using hf) h1
  rw [hl] at hld
  cases hq : P.info? elem with
  | none => simp [hq] at hs
  | some i =>
    have hi : i.size = sz := by simpa [hq] using hs
    simp [Builtin.copy_, run_underlying hu, Builtin.lenOf, Builtin.firstCells, sizeOf, typeInfo, hq, hi, ← hn, hld, hst]
set_option maxHeartbeats 4000000 in
set_option maxRecDepth 100000 in
/-- at the end, no room -/
theorem ins_end_new (base : Option Addr) (n c : Nat) (va : Addr) (vc : Nat) (w : World) (v' : Value) (w1 : World)
    (hr : (Builtin.append_ #[25, 25] 25 #[.slice base n c, .slice (some va) 1 vc]).run Try.prog w = .ok v' w1) :
    Calls Try.prog 32 #[.slice base n c, .int .i64 n, .slice (some va) 1 vc] w fun e w' => e = .returned v' ∧ w' = w1 := by
  go_enter Try.func32, Try.ntmps32
  go_wp2_with (at_builtin; refine Lib.wpList_append_run _ rfl _ _ _ _ rfl _ _ rfl rfl _ _ hr ?_)
  all_goals (go_ret; exact ⟨rfl, rfl⟩)
set_option maxHeartbeats 4000000 in
set_option maxRecDepth 100000 in
/-- there is room, not at the end -/
theorem ins_shift (b off n c i : Nat) (va : Addr) (vc : Nat) (cs vs : List Value) (w : World) (hi : i < n) (hroom : n + 1 ≤ c) (hc63 : n ≤ 1000)
    (hov : ∀ lb cb, (callFunc 51 #[.slice (some va) 1 vc, .slice (some ⟨b, off + (i + 1) * 2, none⟩) lb cb]).run Try.prog w = .ok (.value (.bool false)) w)
    {k1 : Nat} (hcp1 : ∀ ty dc sc, (Builtin.copy_ #[25, 25] ty #[.slice (some ⟨b, off + (i + 1) * 2, none⟩) (n - i) dc, .slice (some ⟨b, off + i * 2, none⟩) (n + 1 - i) sc]).run Try.prog w.drew = .ok (goInt k1) (w.drew.setCells b (off + (i + 1) * 2) cs))
    {k2 : Nat} (hcp2 : ∀ W : World, (∀ x, W.cell? x = (w.drew.setCells b (off + (i + 1) * 2) cs).cell? x) → (∀ x, W.frozen? x = (w.drew.setCells b (off + (i + 1) * 2) cs).frozen? x) → ∀ ty dc, (Builtin.copy_ #[25, 25] ty #[.slice (some ⟨b, off + i * 2, none⟩) (n + 1 - i) dc, .slice (some va) 1 vc]).run Try.prog W = .ok (goInt k2) (W.setCells b (off + i * 2) vs)) :
    Calls Try.prog 32 #[.slice (some ⟨b, off, none⟩) n c, .int .i64 i, .slice (some va) 1 vc] w fun e w' => e = .returned (.slice (some ⟨b, off, none⟩) (n + 1) c) ∧ w' = (w.drew.setCells b (off + (i + 1) * 2) cs).setCells b (off + i * 2) vs := by
  have mixed : Try.prog.follows .mixedOrders = true := by kernel_rfl
  have hz2 : ¬ ((i : Int) = (n : Int)) := by omega
  have hw1 : IntKind.i64.wrap ((i : Int) + 1) = (i : Int) + 1 := by rw [IntKind.wrap_i64]; omega
  have hwn : IntKind.i64.wrap ((n : Int) + 1) = (n : Int) + 1 := by rw [IntKind.wrap_i64]; omega
  have hb1 : (0 : Int) ≤ (i : Int) + 1 := by omega
  have hin : i ≤ n := by omega
  have htn : ((i : Int) + 1).toNat = i + 1 := by omega
  have htn2 : ((n : Int) + 1).toNat = n + 1 := by omega
  have hb2 : ¬ (c = i + 1) := by omega
  have hb3 : (i : Int) ≤ (n : Int) + 1 := by omega
  have hb4 : ¬ (c = i) := by omega
  have hb5 : ¬ ((c : Int) < (n : Int) + 1) := by omega
  obtain ⟨W1, hW1⟩ : ∃ W1, W1 = w.drew.setCells b (off + (i + 1) * 2) cs := ⟨_, rfl⟩
  rw [← hW1] at hcp1 hcp2 ⊢
  go_enter Try.func32, Try.ntmps32
  go_wp2_with (first
    | (simp only [hov])
    | (at_builtin; refine wpList_copy_runI _ rfl _ _ 25 25 rfl _ _ rfl rfl (hcp2 _ (fun _ => rfl) (fun _ => rfl) _ _) ?_))
  go_region_law_o (refine step_copy_runI rfl _ _ 25 25 rfl _ _ (by simp [Act.eval, Act.put]) (by simp [Act.eval, Act.put]) (hcp1 _ _ _) ?_)
  go_wp2_with (at_builtin; refine wpList_copy_runI _ rfl _ _ 25 25 rfl _ _ rfl rfl (hcp2 _ (fun _ => rfl) (fun _ => rfl) _ _) ?_)
  go_ret
  first | exact ⟨rfl, rfl⟩ | exact ⟨rfl, by rw [hW1]⟩
set_option maxHeartbeats 4000000 in
set_option maxRecDepth 100000 in
/-- no room, not at the end -/
theorem ins_grow (b off n c i N G : Nat) (va : Addr) (vc : Nat) (cs vs : List Value) (w W1 : World) (hi : i < n) (hnc : n ≤ c) (hroom : c < n + 1) (hG : n + 1 ≤ G) (hc63 : G ≤ 9223372036854775807) (hn63 : n ≤ 1000)
    (hrz : ∀ ty, (Builtin.append_ #[25, 3] ty #[.slice (some ⟨b, off, none⟩) i c, .int .i64 ((n : Int) + 1 - (i : Int))]).run Try.prog w = .ok (.slice (some ⟨N, 0, none⟩) (n + 1) G) W1)
    {k1 : Nat} (hcpA : ∀ W : World, (∀ x, W.cell? x = W1.cell? x) → (∀ x, W.frozen? x = W1.frozen? x) → ∀ ty dc, (Builtin.copy_ #[25, 25] ty #[.slice (some ⟨N, i * 2, none⟩) (n + 1 - i) dc, .slice (some va) 1 vc]).run Try.prog W = .ok (goInt k1) (W.setCells N (i * 2) vs))
    {k2 : Nat} (hcpB : ∀ W : World, (∀ x, W.cell? x = (W1.setCells N (i * 2) vs).cell? x) → (∀ x, W.frozen? x = (W1.setCells N (i * 2) vs).frozen? x) → ∀ ty dc sc, (Builtin.copy_ #[25, 25] ty #[.slice (some ⟨N, (i + 1) * 2, none⟩) (n - i) dc, .slice (some ⟨b, off + i * 2, none⟩) (n - i) sc]).run Try.prog W = .ok (goInt k2) (W.setCells N ((i + 1) * 2) cs)) :
    Calls Try.prog 32 #[.slice (some ⟨b, off, none⟩) n c, .int .i64 i, .slice (some va) 1 vc] w fun e w' => e = .returned (.slice (some ⟨N, 0, none⟩) (n + 1) G) ∧ w' = ((W1.setCells N (i * 2) vs).drew.setCells N ((i + 1) * 2) cs) := by
  have mixed : Try.prog.follows .mixedOrders = true := by kernel_rfl
  have hz2 : ¬ ((i : Int) = (n : Int)) := by omega
  have hw1 : IntKind.i64.wrap ((i : Int) + 1) = (i : Int) + 1 := by rw [IntKind.wrap_i64]; omega
  have hwn : IntKind.i64.wrap ((n : Int) + 1) = (n : Int) + 1 := by rw [IntKind.wrap_i64]; omega
  have hwni : IntKind.i64.wrap ((n : Int) + 1 - (i : Int)) = (n : Int) + 1 - (i : Int) := by rw [IntKind.wrap_i64]; omega
  have hb1 : (0 : Int) ≤ (i : Int) + 1 := by omega
  have hin : i ≤ n := by omega
  have hic : i ≤ c := by omega
  have htn : ((i : Int) + 1).toNat = i + 1 := by omega
  have hb2 : ¬ (G = i + 1) := by omega
  have hb6 : ¬ (G = i) := by omega
  have hb3 : (i : Int) ≤ (n : Int) + 1 := by omega
  have hb3' : (i : Int) ≤ (n : Int) := by omega
  have hb4 : ¬ (c = i) := by omega
  have hb5 : (c : Int) < (n : Int) + 1 := by omega
  have hcpB' := fun ty dc sc => hcpB ((W1.setCells N (i * 2) vs).drew) (fun _ => rfl) (fun _ => rfl) ty dc sc
  go_enter Try.func32, Try.ntmps32
  go_wp2_with (first
    | (at_builtin; refine Lib.wpList_append_run _ rfl _ _ _ _ rfl _ _ rfl rfl _ _ (hrz _) ?_)
    | (at_builtin; refine wpList_copy_runI _ rfl _ _ 25 25 rfl _ _ rfl rfl (hcpA _ (fun _ => rfl) (fun _ => rfl) _ _) ?_))
  go_region_law_o (refine step_copy_runI rfl _ _ 25 25 rfl _ _ (by simp [Act.eval, Act.put]) (by simp [Act.eval, Act.put]) (hcpB _ (fun _ => rfl) (fun _ => rfl) _ _ _) ?_)
  go_wp2
  go_ret
  exact ⟨rfl, rfl⟩
end Go.Eng
/-! slices.Insert of one piece: what it comes to, told -/
namespace Go.Eng
open Go.Proofs Go.Proofs.Try Go.Lib
set_option maxHeartbeats 4000000

theorem cell_of {w : World} {b j : Nat} {c : Array Value} {ty : TypeId} {fr : Nat × Nat} (h : w.heap[b]? = some (.cells c ty fr)) (hj : j < c.size) : (w.cell? ⟨b, j, none⟩).isSome = true := by
  simp [World.cell?, h, hj]
theorem frz_of {w : World} {b j n : Nat} {c : Array Value} {ty : TypeId} {fr : Nat × Nat} (h : w.heap[b]? = some (.cells c ty fr)) (hu : unfr n fr) (hj : j < n) : w.frozen? ⟨b, j, none⟩ = false := by
  have := hu j hj
  simp only [World.frozen?, h]
  rw [Bool.and_eq_false_iff]
  by_cases h1 : fr.1 ≤ j
  · right; simp; omega
  · left; simpa using h1
theorem setCells_wr {w : World} {b lo : Nat} {vs : List Value} {c : Array Value} {ty : TypeId} {fr : Nat × Nat} (h : w.heap[b]? = some (.cells c ty fr)) (hu : unfr c.size fr) (hl : lo + vs.length ≤ c.size) (hv : ∀ v ∈ vs, notAgg v) : Wr b lo vs w (w.setCells b lo vs) := by
  obtain ⟨w', hr, hw⟩ := storeCells_run (P := Try.prog) (o := lo) vs 0 c w h hu (by omega) hv
  have := run_storeCells_cells (P := Try.prog) b lo vs 0 w (fun j hj => cell_of h (by omega)) (fun j hj => frz_of h hu (by omega)) (fun v hm => oneCell_of (hv v hm))
  rw [hr] at this
  injection this with _ e
  rw [Nat.add_zero] at e hw
  rw [← e]; exact hw
theorem els_split {w : World} {B : Nat → Prop} {z : Z} {fs : List D} : ∀ {es : List D} {fl : List Value} {o : List Res}, elsRep w B z (es ++ fs) fl o → ∃ f1 f2 o1 o2, fl = f1 ++ f2 ∧ o = o1 ++ o2 ∧ elsRep w B z es f1 o1 ∧ elsRep w B z fs f2 o2
  | [], fl, o, h => ⟨[], fl, [], o, rfl, rfl, ⟨rfl, rfl⟩, h⟩
  | e :: es, fl, o, h => by
    obtain ⟨vs, fr, o1, o2, rfl, rfl, h1, h2⟩ := h
    obtain ⟨f1, f2, p1, p2, rfl, rfl, h3, h4⟩ := els_split h2
    exact ⟨vs ++ f1, f2, o1 ++ p1, p2, by simp, by simp, ⟨vs, f1, o1, p1, rfl, rfl, h1, h3⟩, h4⟩
theorem os_rep {w : World} {B : Nat → Prop} {b off n cap : Nat} {c : Array Value} {ty : TypeId} {fr : Nat × Nat} {z : Z} {xs : List D} {fl : List Value} (hh : w.heap[b]? = some (.cells c ty fr)) (hu : unfz z c.size fr) (hc : off + cap * z.1 ≤ c.size) (hn : xs.length = n) (hcap : n ≤ cap) (he : elsRep w B z xs fl []) (hcell : cellsAt w b off fl) :
    repD w B (.os z xs) (.slice (some ⟨b, off, none⟩) n cap) [.arr b] := by
  simp only [repD]
  exact .inr ⟨b, off, cap, c, ty, fr, [], by rw [hn], by omega, hh, hu, fun _ => hc, repEs_of_els he hcell, rfl⟩
theorem wr_heap {b lo : Nat} {vs : List Value} {w w' : World} {c : Array Value} {ty : TypeId} {fr : Nat × Nat} (h : Wr b lo vs w w') (hh : w.heap[b]? = some (.cells c ty fr)) : ∃ c', w'.heap[b]? = some (.cells c' ty fr) ∧ c'.size = c.size := by
  obtain ⟨h1, h2, h3, h4, c0, ty0, fr0, c', h5, h6, h7, h8, h9⟩ := h
  rw [hh] at h5; cases h5
  exact ⟨c', h6, h7⟩
theorem wr_drew {b lo : Nat} {vs : List Value} {w w' : World} (h : Wr b lo vs w.drew w') : Wr b lo vs w w' := ⟨h.os, h.out, h.size, h.other, h.cells⟩
theorem wr_step {o : List Res} {w0 w w' : World} {b lo : Nat} {vs : List Value} (h : Chg o w0 w) (hw : Wr b lo vs w w') (hb : w0.heap.size ≤ b ∨ .arr b ∈ o) : Chg o w0 w' := by
  refine h.step hw.chg fun r hr => ?_
  rw [List.mem_singleton] at hr
  subst hr
  rcases hb with hb | hb
  · exact .inl hb
  · refine .inr ⟨List.mem_map.2 ⟨_, hb, rfl⟩, fun j hj => ⟨_, hb, rfl⟩⟩
/-- what slices.Insert has done -/
noncomputable def InsDone (w : World) (B : Nat → Prop) (o : List Res) (xs : List D) (v : Value) (w' : World) : Prop := ∃ b, repD w' B (.os (2, 0) xs) v [.arr b] ∧ Chg o w w' ∧ ¬ B b ∧ b < w'.heap.size ∧ okR w o (.arr b)
theorem ins_hov {w : World} {vb voff vc b off lb cb : Nat} {cv c : Array Value} {tyv ty : TypeId} {frv fr : Nat × Nat} (hne : vb ≠ b) (hv : w.heap[vb]? = some (.cells cv tyv frv)) (huv : unfr (cv.size + 1) frv) (hvs : voff < cv.size) (hb : w.heap[b]? = some (.cells c ty fr)) (hc : c.size ≠ 0) :
    (callFunc 51 #[.slice (some ⟨vb, voff, none⟩) 1 vc, .slice (some ⟨b, off, none⟩) lb cb]).run Try.prog w = .ok (.value (.bool false)) w := by
  rw [run_callFunc_extern Try.func51 (by kernel_rfl) (by kernel_rfl) (by kernel_rfl) (e := Extern.SlicesOverlaps.overlaps #[25, 25] #[4]) (by kernel_rfl),
    Lib.run_overlaps_apart w 25 4 36 Try.underlying25 2 Try.sizeOf36 ⟨vb, voff, none⟩ ⟨b, off, none⟩ 1 vc lb cb hne tyv ty cv.size c.size (by simp [World.shape?, hv]) (by simp [World.shape?, hb]) hc (frz_of hv huv (by omega)) (frz_of hv huv (by omega))]
  rfl
section
variable {w : World} {B : Nat → Prop} {o : List Res} {vb voff vc : Nat} {cv : Array Value} {tyv : TypeId} {frv : Nat × Nat} {vs : List Value} {y : D}
theorem same_B {w' : World} (hch : Chg o w w') (hB : ∀ b, B b → b < w.heap.size) (hoB : ∀ q ∈ o, ¬ B q.blk) : Same w w' B [] := by
  intro b hb
  rcases hb with hb | hb
  · refine hch.same b (hB b hb) ?_
    intro hm
    obtain ⟨q, hq, e⟩ := List.mem_map.1 hm
    exact hoB q hq (e ▸ hb)
  · simp [blks] at hb
theorem ins_len {w : World} {B : Nat → Prop} {xs : List D} {fl : List Value} {o : List Res} (h : elsRep w B (2, 0) xs fl o) : fl.length = xs.length * 2 := elsRep_length h
/-- a new row -/
theorem done_new {w' : World} {c : Array Value} {ty : TypeId} {xs : List D} {fl : List Value} {n cap : Nat} (hW : Chg o w w') (hh : w'.heap[w.heap.size]? = some (.cells c ty (0, 0))) (hsz : w.heap.size < w'.heap.size) (hc : cap * 2 ≤ c.size) (hn : xs.length = n) (hcap : n ≤ cap) (he : elsRep w B (2, 0) xs fl []) (hcell : cellsAt w' w.heap.size 0 fl)
    (hB : ∀ b, B b → b < w.heap.size) (hoB : ∀ q ∈ o, ¬ B q.blk) : InsDone w B o xs (.slice (some ⟨w.heap.size, 0, none⟩) n cap) w' := by
  refine ⟨w.heap.size, os_rep hh (unfz_zero _ _) (by omega) hn hcap (elsRep_frame (fun _ h => h) (same_B hW hB hoB) he) hcell, hW, fun hb => ?_, hsz, .inl (Nat.le_refl _)⟩
  have := hB _ hb
  omega
/-- behind all, where there is no room -/
theorem ins_new_end {base : Option Addr} {n cap : Nat} {xs : List D} {cs : List Value} (hB : ∀ b, B b → b < w.heap.size) (hoB : ∀ q ∈ o, ¬ B q.blk)
    (hv : cellsAt w vb voff vs) (hev : elsRep w B (2, 0) [y] vs []) (hes : elsRep w B (2, 0) xs cs []) (hn : xs.length = n) (hcs : n ≠ 0 → ∃ b off, base = some ⟨b, off, none⟩ ∧ cellsAt w b off cs) (hroom : cap < n + 1) (hlim : n ≤ 1000) :
    Calls Try.prog 32 #[.slice base n cap, .int .i64 n, .slice (some ⟨vb, voff, none⟩) 1 vc] w fun e w' => ∃ v, e = .returned v ∧ InsDone w B o (xs ++ [y]) v w' := by
  obtain ⟨i, hi, hs, hb, hz⟩ := insInfo
  have lv := ins_len hev
  have lc := ins_len hes
  have same : ∀ {w' : World} {b off : Nat} {l : List Value}, (∀ b o, w'.cell? ⟨b, o, none⟩ = w.cell? ⟨b, o, none⟩) → cellsAt w b off l → cellsAt w' b off l := fun h hc j v hj => (h _ _).trans (hc j v hj)
  obtain ⟨c0, cap0, hrun, hle, ⟨rest, hrest⟩, hsize⟩ := append_new (P := Try.prog) (w := w) (t := 25) (u := 25) (ty := 25) (x := .slice (some ⟨vb, voff, none⟩) 1 vc) (m := 1) (olds := cs) (news := vs) (base := base) (sLen := n) (sCap := cap) Try.underlying25 hi hz Try.underlying25 (fun k => by simp) rfl
    (fun w' h => firstCells_run (by rw [hs]; simpa using lv) (fun _ => ⟨vb, voff, rfl, same h hv⟩)) (fun w' h => firstCells_run (by rw [hs, lc, hn]) (fun h0 => by obtain ⟨b, off, e, hc⟩ := hcs h0; exact ⟨b, off, e, same h hc⟩)) hroom (by omega) (by omega)
  refine Calls.mono (ins_end_new base n cap ⟨vb, voff, none⟩ vc w _ _ hrun) fun e w' he => ?_
  obtain ⟨rfl, rfl⟩ := he
  have hN := New.drewAlloc w c0 36 (0, 0)
  have hz2 : (Value.agg #[.int .i64 0, .string ⟨#[]⟩]).cells.size = 2 := rfl
  rw [hz2, lv, lc, hn] at hsize
  refine ⟨_, rfl, done_new (c := c0) (ty := 36) (fl := cs ++ vs) (hN.chg o) hN.new (by rw [hN.size]; omega) ?_ (by simp [hn]) hle (elsRep_append hes hev) ?_ hB hoB⟩
  · simp only [List.length_cons, List.length_nil] at hsize
    omega
  · have := cellsAt_new hN.new
    rw [hrest] at this
    exact (cellsAt_append.1 this).1
/-- behind all, where there is room -/
theorem ins_room_end {b off n cap : Nat} {c : Array Value} {ty : TypeId} {fr : Nat × Nat} {xs : List D} {cs : List Value} (hB : ∀ b, B b → b < w.heap.size) (hoB : ∀ q ∈ o, ¬ B q.blk) (hbo : .arr b ∈ o)
    (hh : w.heap[b]? = some (.cells c ty fr)) (hu : unfz (2, 0) c.size fr) (hc : off + cap * 2 ≤ c.size) (hcell : cellsAt w b off cs)
    (hv : cellsAt w vb voff vs) (hev : elsRep w B (2, 0) [y] vs []) (hes : elsRep w B (2, 0) xs cs []) (hn : xs.length = n) (hroom : n + 1 ≤ cap) :
    Calls Try.prog 32 #[.slice (some ⟨b, off, none⟩) n cap, .int .i64 n, .slice (some ⟨vb, voff, none⟩) 1 vc] w fun e w' => ∃ v, e = .returned v ∧ InsDone w B o (xs ++ [y]) v w' := by
  obtain ⟨i, hi, hs, hb, hz⟩ := insInfo
  have lv := ins_len hev
  have lc := ins_len hes
  rw [List.length_cons, List.length_nil] at lv
  have hst := run_storeCells_cells (P := Try.prog) b (off + n * 2) vs 0 w (fun j hj => cell_of hh (by omega)) (fun j hj => frz_of hh hu.1 (by omega)) (fun v hm => oneCell_of (els_notAgg hev v hm))
  rw [Nat.add_zero] at hst
  have hrun : (Builtin.append_ #[25, 25] 25 #[.slice (some ⟨b, off, none⟩) n cap, .slice (some ⟨vb, voff, none⟩) 1 vc]).run Try.prog w = .ok (.slice (some ⟨b, off, none⟩) (n + 1) cap) (w.setCells b (off + n * 2) vs) := by
    rw [append_room (P := Try.prog) (w := w) (news := vs) Try.underlying25 hi Try.underlying25 (fun k => by simp) rfl (firstCells_run (by rw [hs]; omega) (fun _ => ⟨vb, voff, rfl, hv⟩)) hroom]
    simp only [hs, add_at, hst, Result.andThen_ok]
  refine Calls.mono (ins_end_new _ n cap ⟨vb, voff, none⟩ vc w _ _ hrun) fun e w' he => ?_
  obtain ⟨rfl, rfl⟩ := he
  have hw := setCells_wr (lo := off + n * 2) (vs := vs) hh hu.1 (by omega) (els_notAgg hev)
  obtain ⟨c', hh', hsz⟩ := wr_heap hw hh
  have hch := wr_step (Chg.refl o w) hw (.inr hbo)
  have hbs : ∀ q ∈ o, True := fun _ _ => trivial
  refine ⟨_, rfl, b, os_rep hh' (by rw [hsz]; exact hu) (by rw [hsz]; exact hc) (by simp [hn]) hroom (elsRep_append (elsRep_frame (fun _ h => h) (same_B hch hB hoB) hes) (elsRep_frame (fun _ h => h) (same_B hch hB hoB) hev)) (cellsAt_append.2 ⟨hw.keep hcell (.inl (by omega)), ?_⟩), hch, hoB _ hbo, ?_, .inr ⟨List.mem_map.2 ⟨_, hbo, rfl⟩, fun j hj => ⟨_, hbo, hj⟩⟩⟩
  · rw [lc, hn]; exact hw.cellsAt
  · exact lt_size_of hh'
/-- not behind all, where there is room -/
theorem ins_room_mid {b off n cap i : Nat} {c : Array Value} {ty : TypeId} {fr : Nat × Nat} {xs1 xs2 : List D} {f1 f2 : List Value} (hB : ∀ b, B b → b < w.heap.size) (hoB : ∀ q ∈ o, ¬ B q.blk) (hbo : .arr b ∈ o) (hne : vb ≠ b)
    (hh : w.heap[b]? = some (.cells c ty fr)) (hu : unfz (2, 0) c.size fr) (hc : off + cap * 2 ≤ c.size) (hcell : cellsAt w b off (f1 ++ f2))
    (hvh : w.heap[vb]? = some (.cells cv tyv frv)) (huv : unfz (2, 0) cv.size frv) (hvl : voff + 2 ≤ cv.size)
    (hv : cellsAt w vb voff vs) (hev : elsRep w B (2, 0) [y] vs []) (he1 : elsRep w B (2, 0) xs1 f1 []) (he2 : elsRep w B (2, 0) xs2 f2 []) (hn1 : xs1.length = i) (hn2 : i + xs2.length = n) (hi : i < n) (hroom : n + 1 ≤ cap) (hlim : n ≤ 1000) :
    Calls Try.prog 32 #[.slice (some ⟨b, off, none⟩) n cap, .int .i64 i, .slice (some ⟨vb, voff, none⟩) 1 vc] w fun e w' => ∃ v, e = .returned v ∧ InsDone w B o (xs1 ++ y :: xs2) v w' := by
  have hs2 : (Try.prog.info? 36).map (·.size) = some 2 := by obtain ⟨i, hi, hs, _⟩ := insInfo; rw [hi]; simp [hs]
  have lv := ins_len hev
  have l1 := ins_len he1
  have l2 := ins_len he2
  rw [List.length_cons, List.length_nil] at lv
  obtain ⟨hc1, hc2⟩ := cellsAt_append.1 hcell
  rw [l1, hn1] at hc2
  have nv := els_notAgg hev
  have n2 := els_notAgg he2
  have hk : ((n - i : Nat) : Int) = (n : Int) - i := by omega
  have hw1 : Wr b (off + (i + 1) * 2) f2 w (w.drew.setCells b (off + (i + 1) * 2) f2) := wr_drew (setCells_wr (w := w.drew) hh hu.1 (by omega) n2)
  obtain ⟨c1, hh1, hsz1⟩ := wr_heap hw1 hh
  have hu1 : unfr c1.size fr := by rw [hsz1]; exact hu.1
  have hw2 : Wr b (off + i * 2) vs (w.drew.setCells b (off + (i + 1) * 2) f2) ((w.drew.setCells b (off + (i + 1) * 2) f2).setCells b (off + i * 2) vs) := setCells_wr hh1 (by rw [hsz1]; exact hu.1) (by omega) nv
  obtain ⟨c2, hh2, hsz2⟩ := wr_heap hw2 hh1
  have hch := wr_step (wr_step (Chg.refl o w) hw1 (.inr hbo)) hw2 (.inr hbo)
  have hcp1 : ∀ ty dc sc, (Builtin.copy_ #[25, 25] ty #[.slice (some ⟨b, off + (i + 1) * 2, none⟩) (n - i) dc, .slice (some ⟨b, off + i * 2, none⟩) (n + 1 - i) sc]).run Try.prog w.drew = .ok (goInt ((n - i : Nat) : Int)) (w.drew.setCells b (off + (i + 1) * 2) f2) := fun ty dc sc =>
    run_copyN w.drew _ _ ty 36 b _ _ dc _ _ sc f2 Try.underlying25 hs2 (Nat.min_eq_right (by omega)).symm (by omega) (fun j v hj => by rw [add_at]; exact hc2 j v hj) (fun j hj => cell_of (w := w.drew) hh (by omega)) (fun j hj => frz_of (w := w.drew) hh hu.1 (by omega)) (fun v hm => oneCell_of (n2 v hm))
  have hcp2 : ∀ W : World, (∀ x, W.cell? x = (w.drew.setCells b (off + (i + 1) * 2) f2).cell? x) → (∀ x, W.frozen? x = (w.drew.setCells b (off + (i + 1) * 2) f2).frozen? x) → ∀ ty dc, (Builtin.copy_ #[25, 25] ty #[.slice (some ⟨b, off + i * 2, none⟩) (n + 1 - i) dc, .slice (some ⟨vb, voff, none⟩) 1 vc]).run Try.prog W = .ok (goInt ((1 : Nat) : Int)) (W.setCells b (off + i * 2) vs) := fun W hWc hWf ty dc =>
    run_copyN W _ _ ty 36 b _ _ dc _ _ vc vs Try.underlying25 hs2 (Nat.min_eq_left (by omega)).symm (by omega)
      (fun j v hj => by
        rw [add_at, hWc]
        have := hv j v hj
        rw [← this]
        exact cell_same (hw1.other vb hne))
      (fun j hj => by rw [hWc]; exact cell_of hh1 (by rw [hsz1]; rw [lv] at hj; omega)) (fun j hj => by rw [hWf]; exact frz_of hh1 hu1 (by rw [hsz1]; rw [lv] at hj; omega)) (fun v hm => oneCell_of (nv v hm))
  refine Calls.mono (ins_shift b off n cap i ⟨vb, voff, none⟩ vc f2 vs w hi hroom hlim (fun lb cb => ins_hov hne hvh (huv.2 (by decide)) (by omega) hh (by omega)) hcp1 hcp2) fun e w' he => ?_
  obtain ⟨rfl, rfl⟩ := he
  have fr := fun {xs fl} (h : elsRep w B (2, 0) xs fl []) => elsRep_frame (fun _ h => h) (same_B hch hB hoB) h
  refine ⟨_, rfl, b, os_rep (fl := f1 ++ (vs ++ f2)) hh2 (by rw [hsz2, hsz1]; exact hu) (by rw [hsz2, hsz1]; exact hc) (by simp; omega) hroom (elsRep_append (fr he1) (elsRep_append (es := [y]) (fr hev) (fr he2))) (cellsAt_append.2 ⟨hw2.keep (hw1.keep hc1 (.inl (by omega))) (.inl (by omega)), cellsAt_append.2 ⟨?_, ?_⟩⟩), hch, hoB _ hbo, lt_size_of hh2, .inr ⟨List.mem_map.2 ⟨_, hbo, rfl⟩, fun j hj => ⟨_, hbo, hj⟩⟩⟩
  · rw [l1, hn1]; exact hw2.cellsAt
  · rw [l1, hn1, lv, show off + i * 2 + (0 + 1) * 2 = off + (i + 1) * 2 by omega]
    exact hw2.keep hw1.cellsAt (.inr (by omega))
/-- not behind all, where there is no room -/
theorem ins_new_mid {b off n cap i : Nat} {xs1 xs2 : List D} {f1 f2 : List Value} (hB : ∀ b, B b → b < w.heap.size) (hoB : ∀ q ∈ o, ¬ B q.blk) (hbl : b < w.heap.size) (hvbl : vb < w.heap.size)
    (hcell : cellsAt w b off (f1 ++ f2))
    (hv : cellsAt w vb voff vs) (hev : elsRep w B (2, 0) [y] vs []) (he1 : elsRep w B (2, 0) xs1 f1 []) (he2 : elsRep w B (2, 0) xs2 f2 []) (hn1 : xs1.length = i) (hn2 : i + xs2.length = n) (hi : i < n) (hnc : n ≤ cap) (hroom : cap < n + 1) (hlim : n ≤ 1000) :
    Calls Try.prog 32 #[.slice (some ⟨b, off, none⟩) n cap, .int .i64 i, .slice (some ⟨vb, voff, none⟩) 1 vc] w fun e w' => ∃ v, e = .returned v ∧ InsDone w B o (xs1 ++ y :: xs2) v w' := by
  obtain ⟨i0, hi0, hs, hby, hz⟩ := insInfo
  have hs2 : (Try.prog.info? 36).map (·.size) = some 2 := by rw [hi0]; simp [hs]
  have lv := ins_len hev
  have l1 := ins_len he1
  have l2 := ins_len he2
  rw [List.length_cons, List.length_nil] at lv
  obtain ⟨hc1, hc2⟩ := cellsAt_append.1 hcell
  rw [l1, hn1] at hc2
  have nv := els_notAgg hev
  have n2 := els_notAgg he2
  have hkk : (n : Int) + 1 - (i : Int) = ((n + 1 - i : Nat) : Int) := by omega
  have hik : i + (n + 1 - i) = n + 1 := by omega
  have hold : (Builtin.firstCells i0.size i (.slice (some ⟨b, off, none⟩) i cap)).run Try.prog w.drew = .ok f1.toArray w.drew := firstCells_run (by rw [hs, l1, hn1]) (fun _ => ⟨b, off, rfl, fun j v hj => hc1 j v hj⟩)
  have hfit : Builtin.nextslicecap (n + 1) cap * i0.bytes ≤ 281474976710656 := by
    have := nextcap_le (need := n + 1) (cap := cap) (by omega)
    rw [hby]; omega
  have hz2 : (Value.agg #[.int .i64 0, .string ⟨#[]⟩]).cells.size = 2 := rfl
  have hrz : ∀ ty, (Builtin.append_ #[25, 3] ty #[.slice (some ⟨b, off, none⟩) i cap, .int .i64 ((n : Int) + 1 - (i : Int))]).run Try.prog w =
      .ok (.slice (some ⟨w.heap.size, 0, none⟩) (n + 1) (grownCap w (n + 1) cap 36)) (w.drew.alloc (.cells (f1.toArray ++ Builtin.zeroCells (Value.agg #[.int .i64 0, .string ⟨#[]⟩]).cells (n + 1 - i) ++ Builtin.zeroCells (Value.agg #[.int .i64 0, .string ⟨#[]⟩]).cells (grownCap w (n + 1) cap 36 - (n + 1))) 36)) := fun ty => by
    have h := Lib.run_append_grow_zeros w 25 3 ty 36 i0 _ .i64 .i64 Try.underlying25 Try.underlying3 hi0 hz (some ⟨b, off, none⟩) i cap f1 hold (n + 1 - i) (by omega) (by omega) (by omega) (by omega) (by rw [hby]; omega) (by rw [hik]; exact hfit)
    rw [hik] at h
    rw [hkk]
    exact h
  obtain ⟨G, hG⟩ : ∃ G, G = grownCap w (n + 1) cap 36 := ⟨_, rfl⟩
  have hGn : n + 1 ≤ G := by rw [hG]; exact grownCap_ge w _ _ _
  have hG63 : G ≤ 9223372036854775807 := by
    have := grownCap_le_maxLen w (n + 1) cap 36 (by unfold maxLen; omega)
    rw [← hG] at this
    unfold maxLen at this
    have h63 : (2 : Nat) ^ 63 - 1 = 9223372036854775807 := by decide
    omega
  rw [← hG] at hrz
  obtain ⟨ROW, hROW⟩ : ∃ ROW : Array Value, ROW = f1.toArray ++ Builtin.zeroCells (Value.agg #[.int .i64 0, .string ⟨#[]⟩]).cells (n + 1 - i) ++ Builtin.zeroCells (Value.agg #[.int .i64 0, .string ⟨#[]⟩]).cells (G - (n + 1)) := ⟨_, rfl⟩
  rw [← hROW] at hrz
  have hRs : ROW.size = G * 2 := by
    rw [hROW, Array.size_append, Array.size_append, size_zeroCells, size_zeroCells, hz2]
    simp only [List.size_toArray, l1, hn1]
    omega
  have hN := New.drewAlloc w ROW 36 (0, 0)
  obtain ⟨W1, hW1⟩ : ∃ W1, W1 = w.drew.alloc (.cells ROW 36) := ⟨_, rfl⟩
  rw [← hW1] at hrz hN
  have hw1 : Wr w.heap.size (i * 2) vs W1 (W1.setCells w.heap.size (i * 2) vs) := setCells_wr hN.new (unfr_zero _) (by omega) nv
  obtain ⟨c1, hh1, hsz1⟩ := wr_heap hw1 hN.new
  have hw2 : Wr w.heap.size ((i + 1) * 2) f2 (W1.setCells w.heap.size (i * 2) vs) ((W1.setCells w.heap.size (i * 2) vs).drew.setCells w.heap.size ((i + 1) * 2) f2) := wr_drew (setCells_wr (w := (W1.setCells w.heap.size (i * 2) vs).drew) hh1 (unfr_zero _) (by omega) n2)
  obtain ⟨c2, hh2, hsz2⟩ := wr_heap hw2 hh1
  have hch := wr_step (wr_step (hN.chg o) hw1 (.inl (Nat.le_refl _))) hw2 (.inl (Nat.le_refl _))
  have hcpA : ∀ W : World, (∀ x, W.cell? x = W1.cell? x) → (∀ x, W.frozen? x = W1.frozen? x) → ∀ ty dc, (Builtin.copy_ #[25, 25] ty #[.slice (some ⟨w.heap.size, i * 2, none⟩) (n + 1 - i) dc, .slice (some ⟨vb, voff, none⟩) 1 vc]).run Try.prog W = .ok (goInt ((1 : Nat) : Int)) (W.setCells w.heap.size (i * 2) vs) := fun W hWc hWf ty dc =>
    run_copyN W _ _ ty 36 w.heap.size _ _ dc _ _ vc vs Try.underlying25 hs2 (Nat.min_eq_left (by omega)).symm (by omega)
      (fun j v hj => by
        rw [add_at, hWc]
        have := hv j v hj
        rw [← this]
        exact cell_same (hN.old vb hvbl))
      (fun j hj => by rw [hWc]; exact cell_of hN.new (by rw [hRs]; rw [lv] at hj; omega)) (fun j hj => by rw [hWf]; exact frz_of hN.new (unfr_zero (ROW.size)) (by rw [hRs]; rw [lv] at hj; omega)) (fun v hm => oneCell_of (nv v hm))
  have hcpB : ∀ W : World, (∀ x, W.cell? x = (W1.setCells w.heap.size (i * 2) vs).cell? x) → (∀ x, W.frozen? x = (W1.setCells w.heap.size (i * 2) vs).frozen? x) → ∀ ty dc sc, (Builtin.copy_ #[25, 25] ty #[.slice (some ⟨w.heap.size, (i + 1) * 2, none⟩) (n - i) dc, .slice (some ⟨b, off + i * 2, none⟩) (n - i) sc]).run Try.prog W = .ok (goInt ((n - i : Nat) : Int)) (W.setCells w.heap.size ((i + 1) * 2) f2) := fun W hWc hWf ty dc sc =>
    run_copyN W _ _ ty 36 w.heap.size _ _ dc _ _ sc f2 Try.underlying25 hs2 (Nat.min_eq_left (Nat.le_refl _)).symm (by omega)
      (fun j v hj => by
        rw [add_at, hWc]
        have := hc2 j v hj
        rw [← this]
        exact (cell_same (hw1.other b (by omega))).trans (cell_same (hN.old b hbl)))
      (fun j hj => by rw [hWc]; exact cell_of hh1 (by rw [hsz1, hRs]; rw [l2] at hj; omega)) (fun j hj => by rw [hWf]; exact frz_of hh1 (unfr_zero (ROW.size)) (by rw [hRs]; rw [l2] at hj; omega)) (fun v hm => oneCell_of (n2 v hm))
  refine Calls.mono (ins_grow b off n cap i w.heap.size G ⟨vb, voff, none⟩ vc f2 vs w W1 hi hnc hroom hGn hG63 hlim hrz hcpA hcpB) fun e w' he => ?_
  obtain ⟨rfl, rfl⟩ := he
  have hf1 : cellsAt W1 w.heap.size 0 f1 := by
    have := cellsAt_new hN.new
    rw [hROW, Array.toList_append, Array.toList_append, List.append_assoc] at this
    exact (cellsAt_append.1 this).1
  refine ⟨_, rfl, done_new (c := c2) (ty := 36) (fl := f1 ++ (vs ++ f2)) hch hh2 (lt_size_of hh2) (by omega) (by simp; omega) hGn (elsRep_append he1 (elsRep_append (es := [y]) hev he2)) (cellsAt_append.2 ⟨hw2.keep (hw1.keep hf1 (.inl (by omega))) (.inl (by omega)), cellsAt_append.2 ⟨?_, ?_⟩⟩) hB hoB⟩
  · rw [l1, hn1, Nat.zero_add]; exact hw2.keep hw1.cellsAt (.inl (by omega))
  · rw [l1, hn1, lv, show 0 + i * 2 + (0 + 1) * 2 = (i + 1) * 2 by omega]
    exact hw2.cellsAt
end
end Go.Eng
