/- the program and the reference on plain data, part 1 -/
import Derived.Test.YtnnedacillllmaaEngC
import Derived.Test.YtnnedacillllmaaProg
import Derived.Shelf.Spec.SlicesInsertGrow
/-! the functions as the interpreter has them: loop heads -/
namespace Go.Eng
open Go.Proofs Go.Proofs.Try
set_option maxRecDepth 100000
noncomputable def cf0 : Cfg := { ext := fun f => match f with | 32 => some insP | _ => none, own := fun f => match f with | 14 => false | 35 => false | _ => true, mode := fun f i => match f, i with | 24, 0 => .mut | 25, 0 => .mut | 48, 0 => .mut | 60, 0 => .mut | 32, 0 => .mv | 32, 2 => .mv | _, _ => .ro }
noncomputable abbrev V := Vn Try.prog cf0
noncomputable abbrev R := Rn Try.prog cf0
noncomputable def Limpl_LinkTake_11 (p0 : Int) (p1 : Int) (p2 : Int) (p3 : Int) (p4 : Int) (p5 : Int) (p6 : List D) (p7 : List D) (p8 : List D) : Option Ret := R 11 Try.f11 [] (headAt Try.f11 11) ⟨[.undef, .undef, .undef, .undef, .ref 0 0 0, .undef, .ref 1 0 0, .undef, .undef, .asl 2 none, .undef, .undef, .undef, .undef, .undef, .undef, .undef, .undef, .undef, .undef, .undef, .undef, .undef, .undef, .undef, .undef, .undef, .undef, .undef, .undef, .undef, .undef, .undef, .undef, .undef, .undef, .undef, .undef, .undef, .undef, .undef, .undef, .undef, .undef, .undef, .undef, .undef, .undef, .undef, .undef, .undef, .undef, .undef, .undef, .undef, .undef, .undef, .undef, .undef, .undef, .undef, .undef, .undef, .undef, .undef, .undef, .undef, .undef, .undef, .undef, .undef, .undef, .undef, .undef, .undef, .undef, .undef, .undef, .undef, .undef, .undef, .undef, .undef, .undef, .undef, .undef, .undef, .undef, .undef, .undef, .undef, .undef, .undef, .undef, .undef, .undef, .undef, .undef, .undef, .undef, .undef, .undef, .undef, .undef], [(0, some (.var [.d (.int .i64 p0), .d (.int .i64 p1), .d .nl, .d (.int .i64 p2), .d .nl])), (1, some (.var [.d (.int .i64 p3), .d (.int .i64 p4), .asl 3 none, .d (.int .i64 p5), .asl 4 none])), (2, some (.arr (1, 0) p6)), (3, some (.arr (1, 0) p7)), (4, some (.arr (2, 0) p8))], 5, []⟩
noncomputable def Limpl_LinkTake_11v1 (p0 : Int) (p1 : Int) (p2 : Int) (p3 : Int) (p4 : Int) (p5 : Int) (p6 : Nat) (p7 : Nat) (p8 : List D) (p9 : List D) (p10 : List D) : Option Ret := R 11 Try.f11 [] (headAt Try.f11 11) ⟨[.undef, .undef, .undef, .undef, .ref 0 0 0, .undef, .ref 1 0 0, .undef, .undef, .asl 2 none, .undef, .undef, .undef, .undef, .undef, .undef, .undef, .undef, .undef, .undef, .undef, .undef, .undef, .undef, .undef, .undef, .undef, .undef, .undef, .undef, .undef, .undef, .undef, .undef, .undef, .undef, .undef, .undef, .undef, .undef, .undef, .undef, .undef, .undef, .undef, .undef, .undef, .undef, .undef, .undef, .undef, .undef, .undef, .undef, .undef, .undef, .undef, .undef, .undef, .undef, .undef, .undef, .undef, .undef, .undef, .undef, .undef, .undef, .undef, .undef, .undef, .undef, .undef, .undef, .undef, .undef, .undef, .undef, .undef, .undef, .undef, .undef, .undef, .undef, .undef, .undef, .undef, .undef, .undef, .undef, .undef, .undef, .undef, .undef, .undef, .undef, .undef, .undef, .undef, .undef, .undef, .undef, .undef, .undef], [(0, some (.var [.d (.int .i64 p0), .d (.int .i64 p1), .d .nl, .d (.int .i64 p2), .d .nl])), (1, some (.var [.d (.int .i64 p3), .d (.int .i64 p4), .asl 3 none, .d (.int .i64 p5), .asl 4 (some (p6, p7))])), (2, some (.arr (1, 0) p8)), (3, some (.arr (1, 0) p9)), (4, some (.arr (2, 0) p10))], 5, []⟩
noncomputable def Llaws_sameTexts_4 (p0 : List D) (p1 : List D) (p2 : Int) : Option Ret := R 13 Try.f13 [] (headAt Try.f13 4) ⟨[.d (.rs (1, 0) p0), .d (.rs (1, 0) p1), .undef, .undef, .undef, .d (.int .i64 p2), .undef, .undef, .undef, .undef, .undef, .undef, .undef, .undef, .undef, .undef, .undef, .undef, .undef, .undef, .undef, .undef, .undef, .undef, .undef, .undef], [], 0, []⟩
noncomputable def Lspec_LinkTake_12 (p0 : Int) (p1 : Int) (p2 : Int) (p3 : List D) (p4 : Int) (p5 : Int) (p6 : Int) (p7 : List D) (p8 : List D) : Option Ret := R 15 Try.f15 [] (headAt Try.f15 12) ⟨[.undef, .undef, .undef, .undef, .ref 0 0 0, .undef, .asl 1 none, .ref 2 0 0, .undef, .undef, .undef, .undef, .undef, .undef, .undef, .undef, .undef, .undef, .undef, .undef, .undef, .undef, .undef, .undef, .undef, .undef, .undef, .undef, .undef, .undef, .undef, .undef, .undef, .undef, .undef, .undef, .undef, .undef, .undef, .undef, .undef, .undef, .undef, .undef, .undef, .undef, .undef, .undef, .undef, .undef, .undef, .undef, .undef, .undef, .undef, .undef, .undef, .undef, .undef, .undef, .undef, .undef, .undef, .undef, .undef, .undef, .undef, .undef, .undef, .undef, .undef, .undef, .undef, .undef, .undef, .undef, .undef, .undef, .undef, .undef, .undef, .undef, .undef, .undef, .undef, .undef, .undef, .undef, .undef], [(0, some (.var [.d (.int .i64 p0), .d (.int .i64 p1), .d .nl, .d (.int .i64 p2), .d .nl])), (1, some (.arr (1, 0) p3)), (2, some (.var [.d (.int .i64 p4), .d (.int .i64 p5), .asl 3 none, .d (.int .i64 p6), .asl 4 none])), (3, some (.arr (1, 0) p7)), (4, some (.arr (2, 0) p8))], 5, []⟩
noncomputable def Lspec_LinkTake_12v1 (p0 : Int) (p1 : Int) (p2 : Int) (p3 : List D) (p4 : Int) (p5 : Int) (p6 : Int) (p7 : Nat) (p8 : Nat) (p9 : List D) (p10 : List D) : Option Ret := R 15 Try.f15 [] (headAt Try.f15 12) ⟨[.undef, .undef, .undef, .undef, .ref 0 0 0, .undef, .asl 1 none, .ref 2 0 0, .undef, .undef, .undef, .undef, .undef, .undef, .undef, .undef, .undef, .undef, .undef, .undef, .undef, .undef, .undef, .undef, .undef, .undef, .undef, .undef, .undef, .undef, .undef, .undef, .undef, .undef, .undef, .undef, .undef, .undef, .undef, .undef, .undef, .undef, .undef, .undef, .undef, .undef, .undef, .undef, .undef, .undef, .undef, .undef, .undef, .undef, .undef, .undef, .undef, .undef, .undef, .undef, .undef, .undef, .undef, .undef, .undef, .undef, .undef, .undef, .undef, .undef, .undef, .undef, .undef, .undef, .undef, .undef, .undef, .undef, .undef, .undef, .undef, .undef, .undef, .undef, .undef, .undef, .undef, .undef, .undef], [(0, some (.var [.d (.int .i64 p0), .d (.int .i64 p1), .d .nl, .d (.int .i64 p2), .d .nl])), (1, some (.arr (1, 0) p3)), (2, some (.var [.d (.int .i64 p4), .d (.int .i64 p5), .asl 3 none, .d (.int .i64 p6), .asl 4 (some (p7, p8))])), (3, some (.arr (1, 0) p9)), (4, some (.arr (2, 0) p10))], 5, []⟩
noncomputable def Lspec_LinkOk_4 (p0 : Int) (p1 : Int) (p2 : Int) (p3 : List D) (p4 : Int) (p5 : List D) : Option Ret := R 16 Try.f16 [] (headAt Try.f16 4) ⟨[.undef, .ref 0 0 0, .undef, .d (.int .i64 p0), .undef, .undef, .undef, .undef, .undef, .undef, .undef, .undef, .undef, .undef, .undef, .undef, .undef, .undef, .undef, .undef, .undef, .undef, .undef, .undef, .undef, .undef, .undef, .undef, .undef, .undef, .undef, .undef, .undef, .undef, .undef, .undef, .undef, .undef, .undef, .undef, .undef, .undef, .undef, .undef, .undef, .undef, .undef, .undef, .undef, .undef, .undef, .undef, .undef, .undef, .undef, .undef, .undef, .undef, .undef, .undef, .undef, .undef, .undef, .undef, .undef, .undef, .undef, .undef, .undef, .undef, .undef, .undef, .undef, .undef, .undef, .undef, .undef, .undef, .undef, .undef, .undef, .undef, .undef], [(0, some (.var [.d (.int .i64 p1), .d (.int .i64 p2), .d (.rs (1, 0) p3), .d (.int .i64 p4), .d (.rs (2, 0) p5)]))], 1, []⟩
noncomputable def Limpl_LinkOk_4 (p0 : List D) (p1 : Int) (p2 : Int) (p3 : Int) (p4 : Int) (p5 : List D) (p6 : Int) (p7 : List D) : Option Ret := R 17 Try.f17 [] (headAt Try.f17 4) ⟨[.undef, .ref 0 0 0, .undef, .undef, .undef, .undef, .undef, .undef, .undef, .undef, .undef, .undef, .undef, .undef, .undef, .undef, .undef, .undef, .undef, .undef, .undef, .undef, .undef, .undef, .undef, .undef, .undef, .undef, .undef, .undef, .undef, .undef, .undef, .undef, .undef, .undef, .undef, .undef, .undef, .undef, .undef, .undef, .undef, .d (.rs (2, 0) p0), .d (.int .i64 p1), .d (.int .i64 p2), .undef, .undef, .undef, .undef, .undef, .undef, .undef, .undef, .undef, .undef, .undef, .undef, .undef, .undef, .undef, .undef, .undef, .undef, .undef, .undef, .undef, .undef, .undef, .undef, .undef, .undef, .undef, .undef, .undef, .undef, .undef, .undef, .undef, .undef, .undef], [(0, some (.var [.d (.int .i64 p3), .d (.int .i64 p4), .d (.rs (1, 0) p5), .d (.int .i64 p6), .d (.rs (2, 0) p7)]))], 1, []⟩
noncomputable def LBinarySearchFunc_Piece_3 (p0 : List D) (p1 : Int) (p2 : Int) (p3 : Int) (p4 : Int) : Option Ret := R 29 Try.f29 [] (headAt Try.f29 3) ⟨[.d (.rs (2, 0) p0), .d (.int .i64 p1), .fn 30 [], .undef, .undef, .undef, .undef, .undef, .d (.int .i64 p2), .d (.int .i64 p3), .d (.int .i64 p4), .undef, .undef, .undef, .undef, .undef, .undef, .undef, .undef, .undef, .undef, .undef, .undef, .undef, .undef, .undef, .undef, .undef, .undef, .undef, .undef, .undef, .undef, .undef, .undef, .undef, .undef, .undef, .undef, .undef, .undef, .undef, .undef, .undef, .undef, .undef, .undef, .undef, .undef], [], 0, []⟩
noncomputable def Lspec_l1New_3 (p0 : List D) (p1 : Int) (p2 : Int) : Option Ret := R 35 Try.f35 [] (headAt Try.f35 3) ⟨[.d (.rs (1, 0) p0), .undef, .undef, .d (.int .i64 p1), .d (.int .i64 p2), .undef, .undef, .undef, .undef, .undef, .undef, .undef, .undef, .undef, .undef, .undef, .undef, .undef, .undef, .undef, .undef, .undef, .undef, .undef, .undef, .undef, .undef, .undef, .undef, .undef, .undef, .undef], [], 0, []⟩
noncomputable def Lspec_l10Hold_4 (p0 : List D) (p1 : Bool) (p2 : Int) (p3 : Int) (p4 : ByteArray) (p5 : List D) : Option Ret := R 42 Try.f42 [] (headAt Try.f42 4) ⟨[.d (.rs (2, 0) p0), .undef, .undef, .ref 0 0 0, .undef, .asl 1 none, .d (.bool p1), .d (.int .i64 p2), .undef, .undef, .undef, .undef, .undef, .undef, .undef, .undef, .undef, .undef, .undef, .undef, .undef, .undef, .undef, .undef, .undef, .undef, .undef, .undef, .undef, .undef, .undef, .undef, .undef, .undef, .undef, .undef, .undef, .undef, .undef, .undef, .undef, .undef, .undef, .undef, .undef, .undef, .undef, .undef, .undef, .undef, .undef, .undef, .undef], [(0, some (.var [.d (.int .i64 p3), .d (.str p4)])), (1, some (.arr (2, 0) p5))], 2, []⟩
noncomputable def Lspec_l10DrawRight_5 (p0 : Int) (p1 : Int) (p2 : List D) (p3 : Int) (p4 : Int) (p5 : Int) (p6 : Int) (p7 : Int) (p8 : Int) (p9 : Int) (p10 : Int) (p11 : List D) : Option Ret := R 53 Try.f53 [62] (headAt Try.f53 5) ⟨[.ref 0 0 0, .undef, .ref 1 0 0, .ref 2 0 0, .asl 3 none, .d (.int .i64 p0), .d (.int .i64 p1), .undef, .undef, .undef, .undef, .undef, .undef, .undef, .undef, .undef, .undef, .undef, .undef, .undef, .undef, .undef, .undef, .undef, .undef, .undef, .undef, .undef, .undef, .undef, .undef, .undef, .undef, .undef, .undef, .undef, .undef, .undef, .undef, .undef, .undef, .undef, .undef, .undef, .undef, .undef, .undef, .undef, .undef, .undef, .undef, .undef, .undef, .undef, .undef, .undef, .undef, .undef, .undef, .undef, .undef, .undef, .undef, .undef, .undef, .undef, .undef, .undef, .undef, .undef, .undef, .undef, .undef], [(0, some (.var [.d (.rs (1, 0) p2), .d (.int .i64 p3), .d (.int .i64 p4)])), (1, some (.var [.d (.int .i64 p5), .d (.int .i64 p6), .d .nl, .d (.int .i64 p7), .d .nl])), (2, some (.var [.d (.int .i64 p8), .d (.int .i64 p9), .d .nl, .d (.int .i64 p10), .d .nl])), (3, some (.arr (1, 0) p11))], 4, [.ref 0 0 0]⟩
noncomputable def Lspec_l10DrawRight_5v1 (p0 : Int) (p1 : Int) (p2 : List D) (p3 : Int) (p4 : Int) (p5 : Int) (p6 : Int) (p7 : Int) (p8 : Int) (p9 : Int) (p10 : Int) (p11 : List D) (p12 : List D) (p13 : List D) : Option Ret := R 53 Try.f53 [62] (headAt Try.f53 5) ⟨[.ref 0 0 0, .undef, .ref 1 0 0, .ref 2 0 0, .asl 3 none, .d (.int .i64 p0), .d (.int .i64 p1), .undef, .undef, .undef, .undef, .undef, .undef, .undef, .undef, .undef, .undef, .undef, .undef, .undef, .undef, .undef, .undef, .undef, .undef, .undef, .undef, .undef, .undef, .undef, .undef, .undef, .undef, .undef, .undef, .undef, .undef, .undef, .undef, .undef, .undef, .undef, .undef, .undef, .undef, .undef, .undef, .undef, .undef, .undef, .undef, .undef, .undef, .undef, .undef, .undef, .undef, .undef, .undef, .undef, .undef, .undef, .undef, .undef, .undef, .undef, .undef, .undef, .undef, .undef, .undef, .undef, .undef], [(0, some (.var [.d (.rs (1, 0) p2), .d (.int .i64 p3), .d (.int .i64 p4)])), (1, some (.var [.d (.int .i64 p5), .d (.int .i64 p6), .d .nl, .d (.int .i64 p7), .d .nl])), (2, some (.var [.d (.int .i64 p8), .d (.int .i64 p9), .asl 4 none, .d (.int .i64 p10), .asl 5 none])), (3, some (.arr (1, 0) p11)), (4, some (.arr (1, 0) p12)), (5, some (.arr (2, 0) p13))], 6, [.ref 0 0 0]⟩
end Go.Eng
/-! the functions as the interpreter has them -/
namespace Go.Eng
open Go.Proofs Go.Proofs.Try
set_option maxRecDepth 100000
theorem LBinarySearchFunc_Piece_3_eq (p0 : List D) (p1 : Int) (p2 : Int) (p3 : Int) (p4 : Int) : LBinarySearchFunc_Piece_3 p0 p1 p2 p3 p4 =
  br (decide (p3 < p4))
   (grd (!decide (1 < 0)) (grd (decide (0 ≤ IntKind.wrap IntKind.i64 (Int.fdiv (IntKind.wrap IntKind.u64 (IntKind.wrap IntKind.i64 (p3 + p4))) (2 ^ min (Int.toNat (1)) (IntKind.bits IntKind.u64)))) && decide (IntKind.wrap IntKind.i64 (Int.fdiv (IntKind.wrap IntKind.u64 (IntKind.wrap IntKind.i64 (p3 + p4))) (2 ^ min (Int.toNat (1)) (IntKind.bits IntKind.u64))) < ni (List.length p0))) (oget p0 (Int.toNat (IntKind.wrap IntKind.i64 (Int.fdiv (IntKind.wrap IntKind.u64 (IntKind.wrap IntKind.i64 (p3 + p4))) (2 ^ min (Int.toNat (1)) (IntKind.bits IntKind.u64))))) fun x0 =>
    asAgg x0 fun l1 => unc l1 fun x2 l3 => asI .i64 x2 fun n4 => unc l3 fun x5 l6 => asS x5 fun s7 => unn l6 (ocall V 30 [(.agg [(.int .i64 n4), (.str s7)]), (.int .i64 p1)] fun x8 l9 =>
          asI .i64 x8 fun n10 => unn l9 (br (decide (n10 < 0))
            (LBinarySearchFunc_Piece_3 p0 p1 p2 (IntKind.wrap IntKind.i64 (IntKind.wrap IntKind.i64 (Int.fdiv (IntKind.wrap IntKind.u64 (IntKind.wrap IntKind.i64 (p3 + p4))) (2 ^ min (Int.toNat (1)) (IntKind.bits IntKind.u64))) + 1)) p4)
            (LBinarySearchFunc_Piece_3 p0 p1 p2 p3 (IntKind.wrap IntKind.i64 (Int.fdiv (IntKind.wrap IntKind.u64 (IntKind.wrap IntKind.i64 (p3 + p4))) (2 ^ min (Int.toNat (1)) (IntKind.bits IntKind.u64))))))))))
   (br (decide (p3 < p2))
    (grd (decide (0 ≤ p3) && decide (p3 < ni (List.length p0))) (oget p0 (Int.toNat p3) fun x11 =>
     asAgg x11 fun l12 => unc l12 fun x13 l14 => asI .i64 x13 fun n15 => unc l14 fun x16 l17 => asS x16 fun s18 => unn l17 (ocall V 30 [(.agg [(.int .i64 n15), (.str s18)]), (.int .i64 p1)] fun x19 l20 =>
           asI .i64 x19 fun n21 => unn l20 (some ((.tup [(.int .i64 p3), (.bool (n21 == 0))]), [])))))
    (some ((.tup [(.int .i64 p3), (.bool false)]), []))) := by
  exact (Rn_eq _ _ _).trans (by kernel_rfl)
theorem Lspec_LinkTake_12v1_eq (p0 : Int) (p1 : Int) (p2 : Int) (p3 : List D) (p4 : Int) (p5 : Int) (p6 : Int) (p7 : Nat) (p8 : Nat) (p9 : List D) (p10 : List D) : Lspec_LinkTake_12v1 p0 p1 p2 p3 p4 p5 p6 p7 p8 p9 p10 =
  br (decide (ni p8 > 0))
   (grd (decide (0 ≤ 0) && decide (0 < ni p8) && decide (p7 + p8 ≤ List.length p10)) (oget p10 (p7 + Int.toNat (0)) fun x41 =>
    asAgg x41 fun l42 => oget l42 0 fun x43 =>
      asI .i64 x43 fun n44 => br (n44 == p6)
        (grd (decide (0 ≤ 0) && decide (0 < ni p8) && decide (p7 + p8 ≤ List.length p10)) (oget p10 (p7 + Int.toNat (0)) fun x45 =>
         asAgg x45 fun l46 => oget l46 1 fun x47 =>
           asS x47 fun s48 => grd (decide (ni (List.length (p3 ++ [D.str s48])) ≤ LIM)) (nam (p3 ++ [D.str s48]) fun l49 =>
             grd (cutOkX p8 (List.length p10 - p7) (some (1)) none) (Lspec_LinkTake_12v1 p0 p1 p2 l49 p4 p5 (IntKind.wrap IntKind.i64 (p6 + 1)) (p7 + Int.toNat (1)) (p8 - Int.toNat (1)) p9 p10))))
        (grd (decide (ni (List.length ([] ++ part p10 (some (p7, p8)))) ≤ LIM)) (nam ([] ++ part p10 (some (p7, p8))) fun l50 =>
         some ((.tup [(.agg [(.int .i64 p4), (.int .i64 p5), (.os (1, 0) p9), (.int .i64 p6), (.os (2, 0) l50)]), (.os (1, 0) p3)]), [])))))
   (grd (decide (ni (List.length ([] ++ part p10 (some (p7, p8)))) ≤ LIM)) (nam ([] ++ part p10 (some (p7, p8))) fun l51 =>
    some ((.tup [(.agg [(.int .i64 p4), (.int .i64 p5), (.os (1, 0) p9), (.int .i64 p6), (.os (2, 0) l51)]), (.os (1, 0) p3)]), []))) := by
  exact (Rn_eq _ _ _).trans (by kernel_rfl)
theorem Limpl_LinkTake_11_eq (p0 : Int) (p1 : Int) (p2 : Int) (p3 : Int) (p4 : Int) (p5 : Int) (p6 : List D) (p7 : List D) (p8 : List D) : Limpl_LinkTake_11 p0 p1 p2 p3 p4 p5 p6 p7 p8 =
  br (decide (ni (List.length p8) > 0))
   (grd (decide (0 ≤ 0) && decide (0 < ni (List.length p8))) (oget p8 0 fun x51 =>
    asAgg x51 fun l52 => oget l52 0 fun x53 =>
      asI .i64 x53 fun n54 => br (n54 == p5)
        (grd (decide (0 ≤ 0) && decide (0 < ni (List.length p8))) (oget p8 0 fun x55 =>
         asAgg x55 fun l56 => oget l56 1 fun x57 =>
           asS x57 fun s58 => grd (decide (ni (List.length (p6 ++ [D.str s58])) ≤ LIM)) (nam (p6 ++ [D.str s58]) fun l59 =>
             grd (cutOk (List.length p8) (some (1)) none) (Limpl_LinkTake_11v1 p0 p1 p2 p3 p4 (IntKind.wrap IntKind.i64 (p5 + 1)) (Int.toNat (1)) (List.length p8 - Int.toNat (1)) l59 p7 p8))))
        (ocall V 33 [(.rs (2, 0) p8)] fun x60 l61 =>
         asOs (2, 0) x60 fun l62 => unn l61 (some ((.tup [(.agg [(.int .i64 p3), (.int .i64 p4), (.os (1, 0) p7), (.int .i64 p5), (.os (2, 0) l62)]), (.os (1, 0) p6)]), [])))))
   (ocall V 33 [(.rs (2, 0) p8)] fun x63 l64 =>
    asOs (2, 0) x63 fun l65 => unn l64 (some ((.tup [(.agg [(.int .i64 p3), (.int .i64 p4), (.os (1, 0) p7), (.int .i64 p5), (.os (2, 0) l65)]), (.os (1, 0) p6)]), []))) := by
  exact (Rn_eq _ _ _).trans (by kernel_rfl)
theorem eimpl_LinkOk (a0_0 : Int) (a0_1 : Int) (a0_2 : List D) (a0_3 : Int) (a0_4 : List D) : V 17 [.agg [.int .i64 a0_0, .int .i64 a0_1, .rs (1, 0) a0_2, .int .i64 a0_3, .rs (2, 0) a0_4]] =
  ocall V 31 [(.int .i64 a0_0), (.int .i64 (0)), (.int .i64 (100000))] fun x0 l1 =>
   asB x0 fun b2 => unn l1 (br (!b2)
     (some ((.bool false), []))
     (ocall V 31 [(.int .i64 a0_3), (.int .i64 (0)), (.int .i64 a0_0)] fun x3 l4 =>
      asB x3 fun b5 => unn l4 (br (!b5)
        (some ((.bool false), []))
        (ocall V 31 [(.int .i64 a0_1), (.int .i64 (0)), (.int .i64 a0_3)] fun x6 l7 =>
         asB x6 fun b8 => unn l7 (br (!b8)
           (some ((.bool false), []))
           (br (ni (List.length a0_2) != IntKind.wrap IntKind.i64 (a0_0 - a0_1))
            (some ((.bool false), []))
            (br (decide (ni (List.length a0_2) > 30))
             (some ((.bool false), []))
             (Limpl_LinkOk_4 a0_4 (ni (List.length a0_4)) (0) a0_0 a0_1 a0_2 a0_3 a0_4)))))))) := by
  exact (Vn_eq Try.func17 rfl _).trans (by kernel_rfl)
theorem Lspec_l1New_3_eq (p0 : List D) (p1 : Int) (p2 : Int) : Lspec_l1New_3 p0 p1 p2 =
  br (decide (p2 < ni (List.length p0)))
   (br (decide (p2 < 4000))
    (grd (decide (0 ≤ p2) && decide (p2 < ni (List.length p0))) (oget p0 (Int.toNat p2) fun x0 =>
     asI .u8 x0 fun n1 => Lspec_l1New_3 p0 (IntKind.wrap IntKind.i64 (ni (BitVec.toNat (BitVec.ofInt (IntKind.bits IntKind.i64) (IntKind.wrap IntKind.i64 (IntKind.wrap IntKind.i64 (IntKind.wrap IntKind.i64 (p1 * 131) + IntKind.wrap IntKind.i64 n1) + 7)) &&& BitVec.ofInt (IntKind.bits IntKind.i64) (1073741823))))) (IntKind.wrap IntKind.i64 (p2 + 1))))
    (some ((.op [(.rs (1, 0) p0), (.int .i64 (0)), (.int .i64 p1)]), [])))
   (some ((.op [(.rs (1, 0) p0), (.int .i64 (0)), (.int .i64 p1)]), [])) := by
  exact (Rn_eq _ _ _).trans (by kernel_rfl)
theorem eslices_Clone_string_string (a0_ : List D) : V 34 [.rs (1, 0) a0_] =
  nilb a0_
   (some ((.os (1, 0) []), []))
   (grd (decide (ni (List.length ([] ++ a0_)) ≤ LIM)) (nam ([] ++ a0_) fun l0 =>
    some ((.os (1, 0) l0), []))) := by
  exact (Vn_eq Try.func34 rfl _).trans (by kernel_rfl)
theorem espec_l1New (a0_ : List D) : V 35 [.rs (1, 0) a0_] =
  Lspec_l1New_3 a0_ (IntKind.wrap IntKind.i64 (17000 + ni (List.length a0_))) (0) := by
  exact (Vn_eq Try.func35 rfl _).trans (by kernel_rfl)
end Go.Eng
/-! the functions as the interpreter has them -/
namespace Go.Eng
open Go.Proofs Go.Proofs.Try
set_option maxRecDepth 100000
theorem Lspec_l10DrawRight_5v1_eq (p0 : Int) (p1 : Int) (p2 : List D) (p3 : Int) (p4 : Int) (p5 : Int) (p6 : Int) (p7 : Int) (p8 : Int) (p9 : Int) (p10 : Int) (p11 : List D) (p12 : List D) (p13 : List D) : Lspec_l10DrawRight_5v1 p0 p1 p2 p3 p4 p5 p6 p7 p8 p9 p10 p11 p12 p13 =
  br (decide (p1 < p0))
   (ocall V 37 [(.op [(.rs (1, 0) p2), (.int .i64 p3), (.int .i64 p4)]), (.int .i64 (4))] fun x270 l271 =>
    asI .i64 x270 fun n272 => unc l271 fun x273 l274 => asOp x273 fun l275 => unc l275 fun x276 l277 => asRs (1, 0) x276 fun l278 => unc l277 fun x279 l280 => asI .i64 x279 fun n281 => unc l280 fun x282 l283 => asI .i64 x282 fun n284 => unn l283 (unn l274 (br (n272 == 0)
              (br (n272 == 0)
               (ocall V 38 [(.op [(.rs (1, 0) l278), (.int .i64 n281), (.int .i64 n284)]), (.rs (1, 0) [(.str ({ data := #[97] })), (.str ({ data := #[98] })), (.str ({ data := #[] })), (.str ({ data := #[99, 99] }))])] fun x285 l286 =>
                asS x285 fun s287 => unc l286 fun x288 l289 => asOp x288 fun l290 => unc l290 fun x291 l292 => asRs (1, 0) x291 fun l293 => unc l292 fun x294 l295 => asI .i64 x294 fun n296 => unc l295 fun x297 l298 => asI .i64 x297 fun n299 => unn l298 (unn l289 (ocall V 58 [(.agg [(.int .i64 p8), (.int .i64 p9), (.rs (1, 0) p12), (.int .i64 p10), (.rs (2, 0) p13)]), (.str s287)] fun x300 l301 =>
                          asTup x300 fun l302 => unc l302 fun x303 l304 => asAgg x303 fun l305 => unc l305 fun x306 l307 => asI .i64 x306 fun n308 => unc l307 fun x309 l310 => asI .i64 x309 fun n311 => unc l310 fun x312 l313 => asOs (1, 0) x312 fun l314 => unc l313 fun x315 l316 => asI .i64 x315 fun n317 => unc l316 fun x318 l319 => asOs (2, 0) x318 fun l320 => unn l319 (unc l304 fun x321 l322 => asB x321 fun b323 => unn l322 (unn l301 (br b323
                                          (grd (decide (ni (List.length (p11 ++ [D.str s287])) ≤ LIM)) (nam (p11 ++ [D.str s287]) fun l324 =>
                                           Lspec_l10DrawRight_5v1 p0 (IntKind.wrap IntKind.i64 (p1 + 1)) l293 n296 n299 p5 p6 p7 n308 n311 n317 l324 l314 l320))
                                          (Lspec_l10DrawRight_5v1 p0 (IntKind.wrap IntKind.i64 (p1 + 1)) l293 n296 n299 p5 p6 p7 p8 p9 p10 p11 p12 p13)))))))
               (br (n272 == 2)
                (ocall V 37 [(.op [(.rs (1, 0) l278), (.int .i64 n281), (.int .i64 n284)]), (.int .i64 (4))] fun x325 l326 =>
                 asI .i64 x325 fun n327 => unc l326 fun x328 l329 => asOp x328 fun l330 => unc l330 fun x331 l332 => asRs (1, 0) x331 fun l333 => unc l332 fun x334 l335 => asI .i64 x334 fun n336 => unc l335 fun x337 l338 => asI .i64 x337 fun n339 => unn l338 (unn l329 (br (decide (IntKind.wrap IntKind.i64 (p10 + n327) < ni (List.length p11)))
                           (grd (decide (0 ≤ IntKind.wrap IntKind.i64 (p10 + n327)) && decide (IntKind.wrap IntKind.i64 (p10 + n327) < ni (List.length p11))) (oget p11 (Int.toNat (IntKind.wrap IntKind.i64 (p10 + n327))) fun x340 =>
                            asS x340 fun s341 => ocall V 15 [(.agg [(.int .i64 p8), (.int .i64 p9), (.rs (1, 0) p12), (.int .i64 p10), (.rs (2, 0) p13)]), (.agg [(.int .i64 (IntKind.wrap IntKind.i64 (p10 + n327))), (.str s341)])] fun x342 l343 =>
                              asTup x342 fun l344 => unc l344 fun x345 l346 => asAgg x345 fun l347 => unc l347 fun x348 l349 => asI .i64 x348 fun n350 => unc l349 fun x351 l352 => asI .i64 x351 fun n353 => unc l352 fun x354 l355 => asOs (1, 0) x354 fun l356 => unc l355 fun x357 l358 => asI .i64 x357 fun n359 => unc l358 fun x360 l361 => asOs (2, 0) x360 fun l362 => unn l361 (unc l346 fun x363 l364 => asOs (1, 0) x363 fun _ => unn l364 (unn l343 (Lspec_l10DrawRight_5v1 p0 (IntKind.wrap IntKind.i64 (p1 + 1)) l333 n336 n339 p5 p6 p7 n350 n353 n359 p11 l356 l362)))))
                           (Lspec_l10DrawRight_5v1 p0 (IntKind.wrap IntKind.i64 (p1 + 1)) l333 n336 n339 p5 p6 p7 p8 p9 p10 p11 p12 p13))))
                (ocall V 37 [(.op [(.rs (1, 0) l278), (.int .i64 n281), (.int .i64 n284)]), (.int .i64 (2))] fun x366 l367 =>
                 asI .i64 x366 fun n368 => unc l367 fun x369 l370 => asOp x369 fun l371 => unc l371 fun x372 l373 => asRs (1, 0) x372 fun l374 => unc l373 fun x375 l376 => asI .i64 x375 fun n377 => unc l376 fun x378 l379 => asI .i64 x378 fun n380 => unn l379 (unn l370 (ocall V 59 [(.agg [(.int .i64 p8), (.int .i64 p9), (.rs (1, 0) p12), (.int .i64 p10), (.rs (2, 0) p13)]), (.int .i64 (IntKind.wrap IntKind.i64 (p10 - n368)))] fun x381 l382 =>
                           asTup x381 fun l383 => unc l383 fun x384 l385 => asAgg x384 fun l386 => unc l386 fun x387 l388 => asI .i64 x387 fun n389 => unc l388 fun x390 l391 => asI .i64 x390 fun n392 => unc l391 fun x393 l394 => asOs (1, 0) x393 fun l395 => unc l394 fun x396 l397 => asI .i64 x396 fun n398 => unc l397 fun x399 l400 => asOs (2, 0) x399 fun l401 => unn l400 (unc l385 fun x402 l403 => asB x402 fun _ => unn l403 (unn l382 (Lspec_l10DrawRight_5v1 p0 (IntKind.wrap IntKind.i64 (p1 + 1)) l374 n377 n380 p5 p6 p7 n389 n392 n398 p11 l395 l401))))))))
              (br (n272 == 1)
               (ocall V 38 [(.op [(.rs (1, 0) l278), (.int .i64 n281), (.int .i64 n284)]), (.rs (1, 0) [(.str ({ data := #[97] })), (.str ({ data := #[98] })), (.str ({ data := #[] })), (.str ({ data := #[99, 99] }))])] fun x405 l406 =>
                asS x405 fun s407 => unc l406 fun x408 l409 => asOp x408 fun l410 => unc l410 fun x411 l412 => asRs (1, 0) x411 fun l413 => unc l412 fun x414 l415 => asI .i64 x414 fun n416 => unc l415 fun x417 l418 => asI .i64 x417 fun n419 => unn l418 (unn l409 (ocall V 58 [(.agg [(.int .i64 p8), (.int .i64 p9), (.rs (1, 0) p12), (.int .i64 p10), (.rs (2, 0) p13)]), (.str s407)] fun x420 l421 =>
                          asTup x420 fun l422 => unc l422 fun x423 l424 => asAgg x423 fun l425 => unc l425 fun x426 l427 => asI .i64 x426 fun n428 => unc l427 fun x429 l430 => asI .i64 x429 fun n431 => unc l430 fun x432 l433 => asOs (1, 0) x432 fun l434 => unc l433 fun x435 l436 => asI .i64 x435 fun n437 => unc l436 fun x438 l439 => asOs (2, 0) x438 fun l440 => unn l439 (unc l424 fun x441 l442 => asB x441 fun b443 => unn l442 (unn l421 (br b443
                                          (grd (decide (ni (List.length (p11 ++ [D.str s407])) ≤ LIM)) (nam (p11 ++ [D.str s407]) fun l444 =>
                                           Lspec_l10DrawRight_5v1 p0 (IntKind.wrap IntKind.i64 (p1 + 1)) l413 n416 n419 p5 p6 p7 n428 n431 n437 l444 l434 l440))
                                          (Lspec_l10DrawRight_5v1 p0 (IntKind.wrap IntKind.i64 (p1 + 1)) l413 n416 n419 p5 p6 p7 p8 p9 p10 p11 p12 p13)))))))
               (br (n272 == 2)
                (ocall V 37 [(.op [(.rs (1, 0) l278), (.int .i64 n281), (.int .i64 n284)]), (.int .i64 (4))] fun x445 l446 =>
                 asI .i64 x445 fun n447 => unc l446 fun x448 l449 => asOp x448 fun l450 => unc l450 fun x451 l452 => asRs (1, 0) x451 fun l453 => unc l452 fun x454 l455 => asI .i64 x454 fun n456 => unc l455 fun x457 l458 => asI .i64 x457 fun n459 => unn l458 (unn l449 (br (decide (IntKind.wrap IntKind.i64 (p10 + n447) < ni (List.length p11)))
                           (grd (decide (0 ≤ IntKind.wrap IntKind.i64 (p10 + n447)) && decide (IntKind.wrap IntKind.i64 (p10 + n447) < ni (List.length p11))) (oget p11 (Int.toNat (IntKind.wrap IntKind.i64 (p10 + n447))) fun x460 =>
                            asS x460 fun s461 => ocall V 15 [(.agg [(.int .i64 p8), (.int .i64 p9), (.rs (1, 0) p12), (.int .i64 p10), (.rs (2, 0) p13)]), (.agg [(.int .i64 (IntKind.wrap IntKind.i64 (p10 + n447))), (.str s461)])] fun x462 l463 =>
                              asTup x462 fun l464 => unc l464 fun x465 l466 => asAgg x465 fun l467 => unc l467 fun x468 l469 => asI .i64 x468 fun n470 => unc l469 fun x471 l472 => asI .i64 x471 fun n473 => unc l472 fun x474 l475 => asOs (1, 0) x474 fun l476 => unc l475 fun x477 l478 => asI .i64 x477 fun n479 => unc l478 fun x480 l481 => asOs (2, 0) x480 fun l482 => unn l481 (unc l466 fun x483 l484 => asOs (1, 0) x483 fun _ => unn l484 (unn l463 (Lspec_l10DrawRight_5v1 p0 (IntKind.wrap IntKind.i64 (p1 + 1)) l453 n456 n459 p5 p6 p7 n470 n473 n479 p11 l476 l482)))))
                           (Lspec_l10DrawRight_5v1 p0 (IntKind.wrap IntKind.i64 (p1 + 1)) l453 n456 n459 p5 p6 p7 p8 p9 p10 p11 p12 p13))))
                (ocall V 37 [(.op [(.rs (1, 0) l278), (.int .i64 n281), (.int .i64 n284)]), (.int .i64 (2))] fun x486 l487 =>
                 asI .i64 x486 fun n488 => unc l487 fun x489 l490 => asOp x489 fun l491 => unc l491 fun x492 l493 => asRs (1, 0) x492 fun l494 => unc l493 fun x495 l496 => asI .i64 x495 fun n497 => unc l496 fun x498 l499 => asI .i64 x498 fun n500 => unn l499 (unn l490 (ocall V 59 [(.agg [(.int .i64 p8), (.int .i64 p9), (.rs (1, 0) p12), (.int .i64 p10), (.rs (2, 0) p13)]), (.int .i64 (IntKind.wrap IntKind.i64 (p10 - n488)))] fun x501 l502 =>
                           asTup x501 fun l503 => unc l503 fun x504 l505 => asAgg x504 fun l506 => unc l506 fun x507 l508 => asI .i64 x507 fun n509 => unc l508 fun x510 l511 => asI .i64 x510 fun n512 => unc l511 fun x513 l514 => asOs (1, 0) x513 fun l515 => unc l514 fun x516 l517 => asI .i64 x516 fun n518 => unc l517 fun x519 l520 => asOs (2, 0) x519 fun l521 => unn l520 (unc l505 fun x522 l523 => asB x522 fun _ => unn l523 (unn l502 (Lspec_l10DrawRight_5v1 p0 (IntKind.wrap IntKind.i64 (p1 + 1)) l494 n497 n500 p5 p6 p7 n509 n512 n518 p11 l515 l521)))))))))))
   (some ((.agg [(.int .i64 p8), (.int .i64 p9), (.os (1, 0) p12), (.int .i64 p10), (.os (2, 0) p13)]), [(.op [(.rs (1, 0) p2), (.int .i64 p3), (.int .i64 p4)])])) := by
  exact (Rn_eq _ _ _).trans (by kernel_rfl)
theorem Lspec_l10Hold_4_eq (p0 : List D) (p1 : Bool) (p2 : Int) (p3 : Int) (p4 : ByteArray) (p5 : List D) : Lspec_l10Hold_4 p0 p1 p2 p3 p4 p5 =
  br (decide (p2 < ni (List.length p0)))
   (br (!p1)
    (grd (decide (0 ≤ p2) && decide (p2 < ni (List.length p0))) (oget p0 (Int.toNat p2) fun x0 =>
     asAgg x0 fun l1 => oget l1 0 fun x2 =>
       asI .i64 x2 fun n3 => br (decide (n3 ≥ p3))
         (grd (decide (0 ≤ p2) && decide (p2 < ni (List.length p0))) (oget p0 (Int.toNat p2) fun x4 =>
          asAgg x4 fun l5 => oget l5 0 fun x6 =>
            asI .i64 x6 fun n7 => br (decide (n7 > p3))
              (grd (decide (ni (List.length (p5 ++ [D.agg [D.int IntKind.i64 p3, D.str p4]])) ≤ LIM)) (nam (p5 ++ [D.agg [D.int IntKind.i64 p3, D.str p4]]) fun l8 =>
               grd (decide (0 ≤ p2) && decide (p2 < ni (List.length p0))) (oget p0 (Int.toNat p2) fun x9 =>
                asAgg x9 fun l10 => unc l10 fun x11 l12 => asI .i64 x11 fun n13 => unc l12 fun x14 l15 => asS x14 fun s16 => unn l15 (grd (decide (ni (List.length (l8 ++ [D.agg [D.int IntKind.i64 n13, D.str s16]])) ≤ LIM)) (nam (l8 ++ [D.agg [D.int IntKind.i64 n13, D.str s16]]) fun l17 =>
                      Lspec_l10Hold_4 p0 true (IntKind.wrap IntKind.i64 (p2 + 1)) p3 p4 l17)))))
              (grd (decide (0 ≤ p2) && decide (p2 < ni (List.length p0))) (oget p0 (Int.toNat p2) fun x18 =>
               asAgg x18 fun l19 => unc l19 fun x20 l21 => asI .i64 x20 fun n22 => unc l21 fun x23 l24 => asS x23 fun s25 => unn l24 (grd (decide (ni (List.length (p5 ++ [D.agg [D.int IntKind.i64 n22, D.str s25]])) ≤ LIM)) (nam (p5 ++ [D.agg [D.int IntKind.i64 n22, D.str s25]]) fun l26 =>
                     Lspec_l10Hold_4 p0 true (IntKind.wrap IntKind.i64 (p2 + 1)) p3 p4 l26))))))
         (grd (decide (0 ≤ p2) && decide (p2 < ni (List.length p0))) (oget p0 (Int.toNat p2) fun x27 =>
          asAgg x27 fun l28 => unc l28 fun x29 l30 => asI .i64 x29 fun n31 => unc l30 fun x32 l33 => asS x32 fun s34 => unn l33 (grd (decide (ni (List.length (p5 ++ [D.agg [D.int IntKind.i64 n31, D.str s34]])) ≤ LIM)) (nam (p5 ++ [D.agg [D.int IntKind.i64 n31, D.str s34]]) fun l35 =>
                Lspec_l10Hold_4 p0 p1 (IntKind.wrap IntKind.i64 (p2 + 1)) p3 p4 l35))))))
    (grd (decide (0 ≤ p2) && decide (p2 < ni (List.length p0))) (oget p0 (Int.toNat p2) fun x36 =>
     asAgg x36 fun l37 => unc l37 fun x38 l39 => asI .i64 x38 fun n40 => unc l39 fun x41 l42 => asS x41 fun s43 => unn l42 (grd (decide (ni (List.length (p5 ++ [D.agg [D.int IntKind.i64 n40, D.str s43]])) ≤ LIM)) (nam (p5 ++ [D.agg [D.int IntKind.i64 n40, D.str s43]]) fun l44 =>
           Lspec_l10Hold_4 p0 p1 (IntKind.wrap IntKind.i64 (p2 + 1)) p3 p4 l44)))))
   (br (!p1)
    (grd (decide (ni (List.length (p5 ++ [D.agg [D.int IntKind.i64 p3, D.str p4]])) ≤ LIM)) (nam (p5 ++ [D.agg [D.int IntKind.i64 p3, D.str p4]]) fun l45 =>
     some ((.os (2, 0) l45), [])))
    (some ((.os (2, 0) p5), []))) := by
  exact (Rn_eq _ _ _).trans (by kernel_rfl)
theorem espec_l1Byte (a0_0 : List D) (a0_1 : Int) (a0_2 : Int) : V 55 [.op [.rs (1, 0) a0_0, .int .i64 a0_1, .int .i64 a0_2]] =
  grd (!decide (33 < 0)) (grd (!decide (45 < 0)) (br (decide (a0_1 < ni (List.length a0_0)))
   (grd (decide (0 ≤ a0_1) && decide (a0_1 < ni (List.length a0_0))) (oget a0_0 (Int.toNat a0_1) fun x0 =>
    asI .u8 x0 fun n1 => some ((.int .i64 (IntKind.wrap IntKind.i64 (ni (BitVec.toNat (BitVec.ofInt (IntKind.bits IntKind.i64) (IntKind.wrap IntKind.i64 (IntKind.wrap IntKind.i64 (ni (BitVec.toNat (BitVec.ofInt (IntKind.bits IntKind.i64) (IntKind.wrap IntKind.i64 (ni (BitVec.toNat (BitVec.ofInt (IntKind.bits IntKind.i64) (Int.fdiv (IntKind.wrap IntKind.i64 (IntKind.wrap IntKind.i64 (a0_2 * 6364136223846793005) + 1442695040888963407)) (2 ^ min (Int.toNat (33)) (IntKind.bits IntKind.i64))) ^^^ BitVec.ofInt (IntKind.bits IntKind.i64) (Int.fdiv (IntKind.wrap IntKind.i64 (IntKind.wrap IntKind.i64 (a0_2 * 6364136223846793005) + 1442695040888963407)) (2 ^ min (Int.toNat (45)) (IntKind.bits IntKind.i64))))))) &&& BitVec.ofInt (IntKind.bits IntKind.i64) (255)))) + IntKind.wrap IntKind.i64 n1)) &&& BitVec.ofInt (IntKind.bits IntKind.i64) (255)))))), [(.op [(.rs (1, 0) a0_0), (.int .i64 (IntKind.wrap IntKind.i64 (a0_1 + 1))), (.int .i64 (IntKind.wrap IntKind.i64 (IntKind.wrap IntKind.i64 (a0_2 * 6364136223846793005) + 1442695040888963407)))])])))
   (some ((.int .i64 (IntKind.wrap IntKind.i64 (ni (BitVec.toNat (BitVec.ofInt (IntKind.bits IntKind.i64) (IntKind.wrap IntKind.i64 (ni (BitVec.toNat (BitVec.ofInt (IntKind.bits IntKind.i64) (Int.fdiv (IntKind.wrap IntKind.i64 (IntKind.wrap IntKind.i64 (a0_2 * 6364136223846793005) + 1442695040888963407)) (2 ^ min (Int.toNat (33)) (IntKind.bits IntKind.i64))) ^^^ BitVec.ofInt (IntKind.bits IntKind.i64) (Int.fdiv (IntKind.wrap IntKind.i64 (IntKind.wrap IntKind.i64 (a0_2 * 6364136223846793005) + 1442695040888963407)) (2 ^ min (Int.toNat (45)) (IntKind.bits IntKind.i64))))))) &&& BitVec.ofInt (IntKind.bits IntKind.i64) (255)))))), [(.op [(.rs (1, 0) a0_0), (.int .i64 a0_1), (.int .i64 (IntKind.wrap IntKind.i64 (IntKind.wrap IntKind.i64 (a0_2 * 6364136223846793005) + 1442695040888963407)))])])))) := by
  exact (Vn_eq Try.func55 rfl _).trans (by kernel_rfl)
theorem espec_LinkTake (a0_0 : Int) (a0_1 : Int) (a0_2 : List D) (a0_3 : Int) (a0_4 : List D) (a1_0 : Int) (a1_1 : ByteArray) : V 15 [.agg [.int .i64 a0_0, .int .i64 a0_1, .rs (1, 0) a0_2, .int .i64 a0_3, .rs (2, 0) a0_4], .agg [.int .i64 a1_0, .str a1_1]] =
  ocall V 16 [(.agg [(.int .i64 a0_0), (.int .i64 a0_1), (.rs (1, 0) a0_2), (.int .i64 a0_3), (.rs (2, 0) a0_4)])] fun x0 l1 =>
   asB x0 fun b2 => unn l1 (br (!b2)
     (some ((.tup [(.agg [(.int .i64 (0)), (.int .i64 (0)), (.os (1, 0) []), (.int .i64 (0)), (.os (2, 0) [])]), (.os (1, 0) [])]), []))
     (ocall V 39 [(.agg [(.int .i64 a0_0), (.int .i64 a0_1), (.rs (1, 0) a0_2), (.int .i64 a0_3), (.rs (2, 0) a0_4)])] fun x3 l4 =>
      asAgg x3 fun l5 => unc l5 fun x6 l7 => asI .i64 x6 fun n8 => unc l7 fun x9 l10 => asI .i64 x9 fun n11 => unc l10 fun x12 l13 => asOs (1, 0) x12 fun l14 => unc l13 fun x15 l16 => asI .i64 x15 fun n17 => unc l16 fun x18 l19 => asOs (2, 0) x18 fun l20 => unn l19 (unn l4 (ocall V 41 [(.int .i64 (IntKind.wrap IntKind.i64 (a0_3 + 4))), (.int .i64 a0_0)] fun x21 l22 =>
                  asI .i64 x21 fun n23 => unn l22 (ocall V 40 [(.int .i64 a1_0), (.int .i64 a0_3), (.int .i64 (IntKind.wrap IntKind.i64 (n23 - 1)))] fun x24 l25 =>
                    asB x24 fun b26 => unn l25 (br (!b26)
                      (some ((.tup [(.agg [(.int .i64 n8), (.int .i64 n11), (.os (1, 0) l14), (.int .i64 n17), (.os (2, 0) l20)]), (.os (1, 0) [])]), []))
                      (br (decide (a1_0 > a0_3))
                       (ocall V 42 [(.rs (2, 0) l20), (.agg [(.int .i64 a1_0), (.str a1_1)])] fun x27 l28 =>
                        asOs (2, 0) x27 fun l29 => unn l28 (some ((.tup [(.agg [(.int .i64 n8), (.int .i64 n11), (.os (1, 0) l14), (.int .i64 n17), (.os (2, 0) l29)]), (.os (1, 0) [])]), [])))
                       (grd (decide (ni 1 ≤ LIM)) (Lspec_LinkTake_12 (0) (0) (0) ([D.str a1_1]) n8 n11 (IntKind.wrap IntKind.i64 (a0_3 + 1)) l14 l20))))))))) := by
  exact (Vn_eq Try.func15 rfl _).trans (by kernel_rfl)
theorem espec_LinkAck (a0_0 : Int) (a0_1 : Int) (a0_2 : List D) (a0_3 : Int) (a0_4 : List D) (a1_ : Int) : V 59 [.agg [.int .i64 a0_0, .int .i64 a0_1, .rs (1, 0) a0_2, .int .i64 a0_3, .rs (2, 0) a0_4], .int .i64 a1_] =
  ocall V 16 [(.agg [(.int .i64 a0_0), (.int .i64 a0_1), (.rs (1, 0) a0_2), (.int .i64 a0_3), (.rs (2, 0) a0_4)])] fun x0 l1 =>
   asB x0 fun b2 => unn l1 (br (!b2)
     (some ((.tup [(.agg [(.int .i64 (0)), (.int .i64 (0)), (.os (1, 0) []), (.int .i64 (0)), (.os (2, 0) [])]), (.bool false)]), []))
     (ocall V 39 [(.agg [(.int .i64 a0_0), (.int .i64 a0_1), (.rs (1, 0) a0_2), (.int .i64 a0_3), (.rs (2, 0) a0_4)])] fun x3 l4 =>
      asAgg x3 fun l5 => unc l5 fun x6 l7 => asI .i64 x6 fun n8 => unc l7 fun x9 l10 => asI .i64 x9 fun n11 => unc l10 fun x12 l13 => asOs (1, 0) x12 fun l14 => unc l13 fun x15 l16 => asI .i64 x15 fun n17 => unc l16 fun x18 l19 => asOs (2, 0) x18 fun l20 => unn l19 (unn l4 (ocall V 40 [(.int .i64 a1_), (.int .i64 (IntKind.wrap IntKind.i64 (a0_1 + 1))), (.int .i64 a0_3)] fun x21 l22 =>
                  asB x21 fun b23 => unn l22 (br (!b23)
                    (some ((.tup [(.agg [(.int .i64 n8), (.int .i64 n11), (.os (1, 0) l14), (.int .i64 n17), (.os (2, 0) l20)]), (.bool false)]), []))
                    (grd (cutOk (List.length a0_2) (some (IntKind.wrap IntKind.i64 (a1_ - a0_1))) none) (grd (decide (ni (List.length ([] ++ cutL a0_2 (IntKind.wrap IntKind.i64 (a1_ - a0_1)))) ≤ LIM)) (nam ([] ++ cutL a0_2 (IntKind.wrap IntKind.i64 (a1_ - a0_1))) fun l24 =>
                     some ((.tup [(.agg [(.int .i64 n8), (.int .i64 a1_), (.os (1, 0) l24), (.int .i64 n17), (.os (2, 0) l20)]), (.bool true)]), []))))))))) := by
  exact (Vn_eq Try.func59 rfl _).trans (by kernel_rfl)
theorem Limpl_LinkOk_4_eq (p0 : List D) (p1 : Int) (p2 : Int) (p3 : Int) (p4 : Int) (p5 : List D) (p6 : Int) (p7 : List D) : Limpl_LinkOk_4 p0 p1 p2 p3 p4 p5 p6 p7 =
  br (decide (p2 < p1))
   (grd (decide (0 ≤ p2) && decide (p2 < ni (List.length p0))) (oget p0 (Int.toNat p2) fun x9 =>
    asAgg x9 fun l10 => unc l10 fun x11 l12 => asI .i64 x11 fun n13 => unc l12 fun x14 l15 => asS x14 fun _ => unn l15 (ocall V 31 [(.int .i64 n13), (.int .i64 (IntKind.wrap IntKind.i64 (p6 + 1))), (.int .i64 (IntKind.wrap IntKind.i64 (mnI (IntKind.wrap IntKind.i64 (p6 + 4)) p3 - 1)))] fun x17 l18 =>
          asB x17 fun b19 => unn l18 (br (!b19)
            (some ((.bool false), []))
            (br (decide (p2 > 0))
             (grd (decide (0 ≤ IntKind.wrap IntKind.i64 (p2 - 1)) && decide (IntKind.wrap IntKind.i64 (p2 - 1) < ni (List.length p7))) (oget p7 (Int.toNat (IntKind.wrap IntKind.i64 (p2 - 1))) fun x20 =>
              asAgg x20 fun l21 => oget l21 0 fun x22 =>
                asI .i64 x22 fun n23 => br (decide (n23 ≥ n13))
                  (some ((.bool false), []))
                  (Limpl_LinkOk_4 p0 p1 (IntKind.wrap IntKind.i64 (p2 + 1)) p3 p4 p5 p6 p7)))
             (Limpl_LinkOk_4 p0 p1 (IntKind.wrap IntKind.i64 (p2 + 1)) p3 p4 p5 p6 p7))))))
   (some ((.bool true), [])) := by
  exact (Rn_eq _ _ _).trans (by kernel_rfl)
theorem espec_l1Pick (a0_0 : List D) (a0_1 : Int) (a0_2 : Int) (a1_ : List D) : V 38 [.op [.rs (1, 0) a0_0, .int .i64 a0_1, .int .i64 a0_2], .rs (1, 0) a1_] =
  ocall V 37 [(.op [(.rs (1, 0) a0_0), (.int .i64 a0_1), (.int .i64 a0_2)]), (.int .i64 (ni (List.length a1_)))] fun x0 l1 =>
   asI .i64 x0 fun n2 => unc l1 fun x3 l4 => asOp x3 fun l5 => unc l5 fun x6 l7 => asRs (1, 0) x6 fun l8 => unc l7 fun x9 l10 => asI .i64 x9 fun n11 => unc l10 fun x12 l13 => asI .i64 x12 fun n14 => unn l13 (unn l4 (grd (decide (0 ≤ n2) && decide (n2 < ni (List.length a1_))) (oget a1_ (Int.toNat n2) fun x15 =>
             asS x15 fun s16 => some ((.str s16), [(.op [(.rs (1, 0) l8), (.int .i64 n11), (.int .i64 n14)])])))) := by
  exact (Vn_eq Try.func38 rfl _).trans (by kernel_rfl)
theorem eslices_Clone_impl_Piece_impl_Piece (a0_ : List D) : V 33 [.rs (2, 0) a0_] =
  nilb a0_
   (some ((.os (2, 0) []), []))
   (grd (decide (ni (List.length ([] ++ a0_)) ≤ LIM)) (nam ([] ++ a0_) fun l0 =>
    some ((.os (2, 0) l0), []))) := by
  exact (Vn_eq Try.func33 rfl _).trans (by kernel_rfl)
theorem eimpl_within (a0_ : Int) (a1_ : Int) (a2_ : Int) : V 31 [.int .i64 a0_, .int .i64 a1_, .int .i64 a2_] =
  br (decide (a0_ ≥ a1_))
   (some ((.bool (decide (a0_ ≤ a2_))), []))
   (some ((.bool false), [])) := by
  exact (Vn_eq Try.func31 rfl _).trans (by kernel_rfl)
theorem espec_l10Hold (a0_ : List D) (a1_0 : Int) (a1_1 : ByteArray) : V 42 [.rs (2, 0) a0_, .agg [.int .i64 a1_0, .str a1_1]] =
  Lspec_l10Hold_4 a0_ false (0) a1_0 a1_1 [] := by
  exact (Vn_eq Try.func42 rfl _).trans (by kernel_rfl)
end Go.Eng
/-! the functions as the interpreter has them -/
namespace Go.Eng
open Go.Proofs Go.Proofs.Try
set_option maxRecDepth 100000
theorem Lspec_l10DrawRight_5_eq (p0 : Int) (p1 : Int) (p2 : List D) (p3 : Int) (p4 : Int) (p5 : Int) (p6 : Int) (p7 : Int) (p8 : Int) (p9 : Int) (p10 : Int) (p11 : List D) : Lspec_l10DrawRight_5 p0 p1 p2 p3 p4 p5 p6 p7 p8 p9 p10 p11 =
  br (decide (p1 < p0))
   (ocall V 37 [(.op [(.rs (1, 0) p2), (.int .i64 p3), (.int .i64 p4)]), (.int .i64 (4))] fun x15 l16 =>
    asI .i64 x15 fun n17 => unc l16 fun x18 l19 => asOp x18 fun l20 => unc l20 fun x21 l22 => asRs (1, 0) x21 fun l23 => unc l22 fun x24 l25 => asI .i64 x24 fun n26 => unc l25 fun x27 l28 => asI .i64 x27 fun n29 => unn l28 (unn l19 (br (n17 == 0)
              (br (n17 == 0)
               (ocall V 38 [(.op [(.rs (1, 0) l23), (.int .i64 n26), (.int .i64 n29)]), (.rs (1, 0) [(.str ({ data := #[97] })), (.str ({ data := #[98] })), (.str ({ data := #[] })), (.str ({ data := #[99, 99] }))])] fun x30 l31 =>
                asS x30 fun s32 => unc l31 fun x33 l34 => asOp x33 fun l35 => unc l35 fun x36 l37 => asRs (1, 0) x36 fun l38 => unc l37 fun x39 l40 => asI .i64 x39 fun n41 => unc l40 fun x42 l43 => asI .i64 x42 fun n44 => unn l43 (unn l34 (ocall V 58 [(.agg [(.int .i64 p8), (.int .i64 p9), (.rs (1, 0) []), (.int .i64 p10), (.rs (2, 0) [])]), (.str s32)] fun x45 l46 =>
                          asTup x45 fun l47 => unc l47 fun x48 l49 => asAgg x48 fun l50 => unc l50 fun x51 l52 => asI .i64 x51 fun n53 => unc l52 fun x54 l55 => asI .i64 x54 fun n56 => unc l55 fun x57 l58 => asOs (1, 0) x57 fun l59 => unc l58 fun x60 l61 => asI .i64 x60 fun n62 => unc l61 fun x63 l64 => asOs (2, 0) x63 fun l65 => unn l64 (unc l49 fun x66 l67 => asB x66 fun b68 => unn l67 (unn l46 (br b68
                                          (grd (decide (ni (List.length (p11 ++ [D.str s32])) ≤ LIM)) (nam (p11 ++ [D.str s32]) fun l69 =>
                                           Lspec_l10DrawRight_5v1 p0 (IntKind.wrap IntKind.i64 (p1 + 1)) l38 n41 n44 p5 p6 p7 n53 n56 n62 l69 l59 l65))
                                          (Lspec_l10DrawRight_5 p0 (IntKind.wrap IntKind.i64 (p1 + 1)) l38 n41 n44 p5 p6 p7 p8 p9 p10 p11)))))))
               (br (n17 == 2)
                (ocall V 37 [(.op [(.rs (1, 0) l23), (.int .i64 n26), (.int .i64 n29)]), (.int .i64 (4))] fun x70 l71 =>
                 asI .i64 x70 fun n72 => unc l71 fun x73 l74 => asOp x73 fun l75 => unc l75 fun x76 l77 => asRs (1, 0) x76 fun l78 => unc l77 fun x79 l80 => asI .i64 x79 fun n81 => unc l80 fun x82 l83 => asI .i64 x82 fun n84 => unn l83 (unn l74 (br (decide (IntKind.wrap IntKind.i64 (p10 + n72) < ni (List.length p11)))
                           (grd (decide (0 ≤ IntKind.wrap IntKind.i64 (p10 + n72)) && decide (IntKind.wrap IntKind.i64 (p10 + n72) < ni (List.length p11))) (oget p11 (Int.toNat (IntKind.wrap IntKind.i64 (p10 + n72))) fun x85 =>
                            asS x85 fun s86 => ocall V 15 [(.agg [(.int .i64 p8), (.int .i64 p9), (.rs (1, 0) []), (.int .i64 p10), (.rs (2, 0) [])]), (.agg [(.int .i64 (IntKind.wrap IntKind.i64 (p10 + n72))), (.str s86)])] fun x87 l88 =>
                              asTup x87 fun l89 => unc l89 fun x90 l91 => asAgg x90 fun l92 => unc l92 fun x93 l94 => asI .i64 x93 fun n95 => unc l94 fun x96 l97 => asI .i64 x96 fun n98 => unc l97 fun x99 l100 => asOs (1, 0) x99 fun l101 => unc l100 fun x102 l103 => asI .i64 x102 fun n104 => unc l103 fun x105 l106 => asOs (2, 0) x105 fun l107 => unn l106 (unc l91 fun x108 l109 => asOs (1, 0) x108 fun _ => unn l109 (unn l88 (Lspec_l10DrawRight_5v1 p0 (IntKind.wrap IntKind.i64 (p1 + 1)) l78 n81 n84 p5 p6 p7 n95 n98 n104 p11 l101 l107)))))
                           (Lspec_l10DrawRight_5 p0 (IntKind.wrap IntKind.i64 (p1 + 1)) l78 n81 n84 p5 p6 p7 p8 p9 p10 p11))))
                (ocall V 37 [(.op [(.rs (1, 0) l23), (.int .i64 n26), (.int .i64 n29)]), (.int .i64 (2))] fun x111 l112 =>
                 asI .i64 x111 fun n113 => unc l112 fun x114 l115 => asOp x114 fun l116 => unc l116 fun x117 l118 => asRs (1, 0) x117 fun l119 => unc l118 fun x120 l121 => asI .i64 x120 fun n122 => unc l121 fun x123 l124 => asI .i64 x123 fun n125 => unn l124 (unn l115 (ocall V 59 [(.agg [(.int .i64 p8), (.int .i64 p9), (.rs (1, 0) []), (.int .i64 p10), (.rs (2, 0) [])]), (.int .i64 (IntKind.wrap IntKind.i64 (p10 - n113)))] fun x126 l127 =>
                           asTup x126 fun l128 => unc l128 fun x129 l130 => asAgg x129 fun l131 => unc l131 fun x132 l133 => asI .i64 x132 fun n134 => unc l133 fun x135 l136 => asI .i64 x135 fun n137 => unc l136 fun x138 l139 => asOs (1, 0) x138 fun l140 => unc l139 fun x141 l142 => asI .i64 x141 fun n143 => unc l142 fun x144 l145 => asOs (2, 0) x144 fun l146 => unn l145 (unc l130 fun x147 l148 => asB x147 fun _ => unn l148 (unn l127 (Lspec_l10DrawRight_5v1 p0 (IntKind.wrap IntKind.i64 (p1 + 1)) l119 n122 n125 p5 p6 p7 n134 n137 n143 p11 l140 l146))))))))
              (br (n17 == 1)
               (ocall V 38 [(.op [(.rs (1, 0) l23), (.int .i64 n26), (.int .i64 n29)]), (.rs (1, 0) [(.str ({ data := #[97] })), (.str ({ data := #[98] })), (.str ({ data := #[] })), (.str ({ data := #[99, 99] }))])] fun x150 l151 =>
                asS x150 fun s152 => unc l151 fun x153 l154 => asOp x153 fun l155 => unc l155 fun x156 l157 => asRs (1, 0) x156 fun l158 => unc l157 fun x159 l160 => asI .i64 x159 fun n161 => unc l160 fun x162 l163 => asI .i64 x162 fun n164 => unn l163 (unn l154 (ocall V 58 [(.agg [(.int .i64 p8), (.int .i64 p9), (.rs (1, 0) []), (.int .i64 p10), (.rs (2, 0) [])]), (.str s152)] fun x165 l166 =>
                          asTup x165 fun l167 => unc l167 fun x168 l169 => asAgg x168 fun l170 => unc l170 fun x171 l172 => asI .i64 x171 fun n173 => unc l172 fun x174 l175 => asI .i64 x174 fun n176 => unc l175 fun x177 l178 => asOs (1, 0) x177 fun l179 => unc l178 fun x180 l181 => asI .i64 x180 fun n182 => unc l181 fun x183 l184 => asOs (2, 0) x183 fun l185 => unn l184 (unc l169 fun x186 l187 => asB x186 fun b188 => unn l187 (unn l166 (br b188
                                          (grd (decide (ni (List.length (p11 ++ [D.str s152])) ≤ LIM)) (nam (p11 ++ [D.str s152]) fun l189 =>
                                           Lspec_l10DrawRight_5v1 p0 (IntKind.wrap IntKind.i64 (p1 + 1)) l158 n161 n164 p5 p6 p7 n173 n176 n182 l189 l179 l185))
                                          (Lspec_l10DrawRight_5 p0 (IntKind.wrap IntKind.i64 (p1 + 1)) l158 n161 n164 p5 p6 p7 p8 p9 p10 p11)))))))
               (br (n17 == 2)
                (ocall V 37 [(.op [(.rs (1, 0) l23), (.int .i64 n26), (.int .i64 n29)]), (.int .i64 (4))] fun x190 l191 =>
                 asI .i64 x190 fun n192 => unc l191 fun x193 l194 => asOp x193 fun l195 => unc l195 fun x196 l197 => asRs (1, 0) x196 fun l198 => unc l197 fun x199 l200 => asI .i64 x199 fun n201 => unc l200 fun x202 l203 => asI .i64 x202 fun n204 => unn l203 (unn l194 (br (decide (IntKind.wrap IntKind.i64 (p10 + n192) < ni (List.length p11)))
                           (grd (decide (0 ≤ IntKind.wrap IntKind.i64 (p10 + n192)) && decide (IntKind.wrap IntKind.i64 (p10 + n192) < ni (List.length p11))) (oget p11 (Int.toNat (IntKind.wrap IntKind.i64 (p10 + n192))) fun x205 =>
                            asS x205 fun s206 => ocall V 15 [(.agg [(.int .i64 p8), (.int .i64 p9), (.rs (1, 0) []), (.int .i64 p10), (.rs (2, 0) [])]), (.agg [(.int .i64 (IntKind.wrap IntKind.i64 (p10 + n192))), (.str s206)])] fun x207 l208 =>
                              asTup x207 fun l209 => unc l209 fun x210 l211 => asAgg x210 fun l212 => unc l212 fun x213 l214 => asI .i64 x213 fun n215 => unc l214 fun x216 l217 => asI .i64 x216 fun n218 => unc l217 fun x219 l220 => asOs (1, 0) x219 fun l221 => unc l220 fun x222 l223 => asI .i64 x222 fun n224 => unc l223 fun x225 l226 => asOs (2, 0) x225 fun l227 => unn l226 (unc l211 fun x228 l229 => asOs (1, 0) x228 fun _ => unn l229 (unn l208 (Lspec_l10DrawRight_5v1 p0 (IntKind.wrap IntKind.i64 (p1 + 1)) l198 n201 n204 p5 p6 p7 n215 n218 n224 p11 l221 l227)))))
                           (Lspec_l10DrawRight_5 p0 (IntKind.wrap IntKind.i64 (p1 + 1)) l198 n201 n204 p5 p6 p7 p8 p9 p10 p11))))
                (ocall V 37 [(.op [(.rs (1, 0) l23), (.int .i64 n26), (.int .i64 n29)]), (.int .i64 (2))] fun x231 l232 =>
                 asI .i64 x231 fun n233 => unc l232 fun x234 l235 => asOp x234 fun l236 => unc l236 fun x237 l238 => asRs (1, 0) x237 fun l239 => unc l238 fun x240 l241 => asI .i64 x240 fun n242 => unc l241 fun x243 l244 => asI .i64 x243 fun n245 => unn l244 (unn l235 (ocall V 59 [(.agg [(.int .i64 p8), (.int .i64 p9), (.rs (1, 0) []), (.int .i64 p10), (.rs (2, 0) [])]), (.int .i64 (IntKind.wrap IntKind.i64 (p10 - n233)))] fun x246 l247 =>
                           asTup x246 fun l248 => unc l248 fun x249 l250 => asAgg x249 fun l251 => unc l251 fun x252 l253 => asI .i64 x252 fun n254 => unc l253 fun x255 l256 => asI .i64 x255 fun n257 => unc l256 fun x258 l259 => asOs (1, 0) x258 fun l260 => unc l259 fun x261 l262 => asI .i64 x261 fun n263 => unc l262 fun x264 l265 => asOs (2, 0) x264 fun l266 => unn l265 (unc l250 fun x267 l268 => asB x267 fun _ => unn l268 (unn l247 (Lspec_l10DrawRight_5v1 p0 (IntKind.wrap IntKind.i64 (p1 + 1)) l239 n242 n245 p5 p6 p7 n254 n257 n263 p11 l260 l266)))))))))))
   (some ((.agg [(.int .i64 p8), (.int .i64 p9), (.os (1, 0) []), (.int .i64 p10), (.os (2, 0) [])]), [(.op [(.rs (1, 0) p2), (.int .i64 p3), (.int .i64 p4)])])) := by
  exact (Rn_eq _ _ _).trans (by kernel_rfl)
theorem eimpl_LinkTake (a0_0 : Int) (a0_1 : Int) (a0_2 : List D) (a0_3 : Int) (a0_4 : List D) (a1_0 : Int) (a1_1 : ByteArray) : V 11 [.agg [.int .i64 a0_0, .int .i64 a0_1, .rs (1, 0) a0_2, .int .i64 a0_3, .rs (2, 0) a0_4], .agg [.int .i64 a1_0, .str a1_1]] =
  ocall V 17 [(.agg [(.int .i64 a0_0), (.int .i64 a0_1), (.rs (1, 0) a0_2), (.int .i64 a0_3), (.rs (2, 0) a0_4)])] fun x0 l1 =>
   asB x0 fun b2 => unn l1 (br (!b2)
     (some ((.tup [(.agg [(.int .i64 (0)), (.int .i64 (0)), (.os (1, 0) []), (.int .i64 (0)), (.os (2, 0) [])]), (.os (1, 0) [])]), []))
     (ocall V 28 [(.agg [(.int .i64 a0_0), (.int .i64 a0_1), (.rs (1, 0) a0_2), (.int .i64 a0_3), (.rs (2, 0) a0_4)])] fun x3 l4 =>
      asAgg x3 fun l5 => unc l5 fun x6 l7 => asI .i64 x6 fun n8 => unc l7 fun x9 l10 => asI .i64 x9 fun n11 => unc l10 fun x12 l13 => asOs (1, 0) x12 fun l14 => unc l13 fun x15 l16 => asI .i64 x15 fun n17 => unc l16 fun x18 l19 => asOs (2, 0) x18 fun l20 => unn l19 (unn l4 (br (a1_0 != a0_3)
                  (ocall V 29 [(.rs (2, 0) l20), (.int .i64 a1_0), (.fn 30 [])] fun x21 l22 =>
                   asTup x21 fun l23 => unc l23 fun x24 l25 => asI .i64 x24 fun n26 => unc l25 fun x27 l28 => asB x27 fun b29 => unn l28 (unn l22 (ocall V 31 [(.int .i64 a1_0), (.int .i64 (IntKind.wrap IntKind.i64 (a0_3 + 1))), (.int .i64 (IntKind.wrap IntKind.i64 (mnI (IntKind.wrap IntKind.i64 (a0_3 + 4)) a0_0 - 1)))] fun x30 l31 =>
                         asB x30 fun b32 => unn l31 (br b32
                           (br (!b29)
                            (ocall V 32 [(.os (2, 0) l20), (.int .i64 n26), (.os (2, 0) [(.agg [(.int .i64 a1_0), (.str a1_1)])])] fun x33 l34 =>
                             asOs (2, 0) x33 fun l35 => unn l34 (some ((.tup [(.agg [(.int .i64 n8), (.int .i64 n11), (.os (1, 0) l14), (.int .i64 n17), (.os (2, 0) l35)]), (.os (1, 0) [])]), [])))
                            (some ((.tup [(.agg [(.int .i64 n8), (.int .i64 n11), (.os (1, 0) l14), (.int .i64 n17), (.os (2, 0) l20)]), (.os (1, 0) [])]), [])))
                           (some ((.tup [(.agg [(.int .i64 n8), (.int .i64 n11), (.os (1, 0) l14), (.int .i64 n17), (.os (2, 0) l20)]), (.os (1, 0) [])]), []))))))
                  (br (decide (a0_3 ≥ a0_0))
                   (ocall V 29 [(.rs (2, 0) l20), (.int .i64 a1_0), (.fn 30 [])] fun x36 l37 =>
                    asTup x36 fun l38 => unc l38 fun x39 l40 => asI .i64 x39 fun n41 => unc l40 fun x42 l43 => asB x42 fun b44 => unn l43 (unn l37 (ocall V 31 [(.int .i64 a1_0), (.int .i64 (IntKind.wrap IntKind.i64 (a0_3 + 1))), (.int .i64 (IntKind.wrap IntKind.i64 (mnI (IntKind.wrap IntKind.i64 (a0_3 + 4)) a0_0 - 1)))] fun x45 l46 =>
                          asB x45 fun b47 => unn l46 (br b47
                            (br (!b44)
                             (ocall V 32 [(.os (2, 0) l20), (.int .i64 n41), (.os (2, 0) [(.agg [(.int .i64 a1_0), (.str a1_1)])])] fun x48 l49 =>
                              asOs (2, 0) x48 fun l50 => unn l49 (some ((.tup [(.agg [(.int .i64 n8), (.int .i64 n11), (.os (1, 0) l14), (.int .i64 n17), (.os (2, 0) l50)]), (.os (1, 0) [])]), [])))
                             (some ((.tup [(.agg [(.int .i64 n8), (.int .i64 n11), (.os (1, 0) l14), (.int .i64 n17), (.os (2, 0) l20)]), (.os (1, 0) [])]), [])))
                            (some ((.tup [(.agg [(.int .i64 n8), (.int .i64 n11), (.os (1, 0) l14), (.int .i64 n17), (.os (2, 0) l20)]), (.os (1, 0) [])]), []))))))
                   (Limpl_LinkTake_11 (0) (0) (0) n8 n11 (IntKind.wrap IntKind.i64 (n17 + 1)) ([D.str a1_1]) l14 l20)))))) := by
  exact (Vn_eq Try.func11 rfl _).trans (by kernel_rfl)
theorem espec_LinkSend (a0_0 : Int) (a0_1 : Int) (a0_2 : List D) (a0_3 : Int) (a0_4 : List D) (a1_ : ByteArray) : V 58 [.agg [.int .i64 a0_0, .int .i64 a0_1, .rs (1, 0) a0_2, .int .i64 a0_3, .rs (2, 0) a0_4], .str a1_] =
  ocall V 16 [(.agg [(.int .i64 a0_0), (.int .i64 a0_1), (.rs (1, 0) a0_2), (.int .i64 a0_3), (.rs (2, 0) a0_4)])] fun x0 l1 =>
   asB x0 fun b2 => unn l1 (br (!b2)
     (some ((.tup [(.agg [(.int .i64 (0)), (.int .i64 (0)), (.os (1, 0) []), (.int .i64 (0)), (.os (2, 0) [])]), (.bool false)]), []))
     (ocall V 39 [(.agg [(.int .i64 a0_0), (.int .i64 a0_1), (.rs (1, 0) a0_2), (.int .i64 a0_3), (.rs (2, 0) a0_4)])] fun x3 l4 =>
      asAgg x3 fun l5 => unc l5 fun x6 l7 => asI .i64 x6 fun _ => unc l7 fun x9 l10 => asI .i64 x9 fun n11 => unc l10 fun x12 l13 => asOs (1, 0) x12 fun l14 => unc l13 fun x15 l16 => asI .i64 x15 fun n17 => unc l16 fun x18 l19 => asOs (2, 0) x18 fun l20 => unn l19 (unn l4 (grd (decide (ni (List.length (l14 ++ [D.str a1_])) ≤ LIM)) (nam (l14 ++ [D.str a1_]) fun l21 =>
                  ocall V 16 [(.agg [(.int .i64 (IntKind.wrap IntKind.i64 (a0_0 + 1))), (.int .i64 n11), (.rs (1, 0) l21), (.int .i64 n17), (.rs (2, 0) l20)])] fun x22 l23 =>
                   asB x22 fun b24 => unn l23 (br (!b24)
                     (ocall V 39 [(.agg [(.int .i64 a0_0), (.int .i64 a0_1), (.rs (1, 0) a0_2), (.int .i64 a0_3), (.rs (2, 0) a0_4)])] fun x25 l26 =>
                      asAgg x25 fun l27 => unc l27 fun x28 l29 => asI .i64 x28 fun n30 => unc l29 fun x31 l32 => asI .i64 x31 fun n33 => unc l32 fun x34 l35 => asOs (1, 0) x34 fun l36 => unc l35 fun x37 l38 => asI .i64 x37 fun n39 => unc l38 fun x40 l41 => asOs (2, 0) x40 fun l42 => unn l41 (unn l26 (some ((.tup [(.agg [(.int .i64 n30), (.int .i64 n33), (.os (1, 0) l36), (.int .i64 n39), (.os (2, 0) l42)]), (.bool false)]), []))))
                     (some ((.tup [(.agg [(.int .i64 (IntKind.wrap IntKind.i64 (a0_0 + 1))), (.int .i64 n11), (.os (1, 0) l21), (.int .i64 n17), (.os (2, 0) l20)]), (.bool true)]), [])))))))) := by
  exact (Vn_eq Try.func58 rfl _).trans (by kernel_rfl)
theorem espec_DrawLinkTake (a0_ : List D) : V 14 [.rs (1, 0) a0_] =
  ocall V 35 [(.rs (1, 0) a0_)] fun x0 l1 =>
   asOp x0 fun l2 => unc l2 fun x3 l4 => asRs (1, 0) x3 fun l5 => unc l4 fun x6 l7 => asI .i64 x6 fun n8 => unc l7 fun x9 l10 => asI .i64 x9 fun n11 => unn l10 (unn l1 (ocall V 36 [(.op [(.rs (1, 0) l5), (.int .i64 n8), (.int .i64 n11)])] fun x12 l13 =>
           asAgg x12 fun l14 => unc l14 fun x15 l16 => asI .i64 x15 fun n17 => unc l16 fun x18 l19 => asI .i64 x18 fun n20 => unc l19 fun x21 l22 => asOs (1, 0) x21 fun l23 => unc l22 fun x24 l25 => asI .i64 x24 fun n26 => unc l25 fun x27 l28 => asOs (2, 0) x27 fun l29 => unn l28 (unc l13 fun x30 l31 => asOp x30 fun l32 => unc l32 fun x33 l34 => asRs (1, 0) x33 fun l35 => unc l34 fun x36 l37 => asI .i64 x36 fun n38 => unc l37 fun x39 l40 => asI .i64 x39 fun n41 => unn l40 (unn l31 (ocall V 37 [(.op [(.rs (1, 0) l35), (.int .i64 n38), (.int .i64 n41)]), (.int .i64 (7))] fun x42 l43 =>
                               asI .i64 x42 fun n44 => unc l43 fun x45 l46 => asOp x45 fun l47 => unc l47 fun x48 l49 => asRs (1, 0) x48 fun l50 => unc l49 fun x51 l52 => asI .i64 x51 fun n53 => unc l52 fun x54 l55 => asI .i64 x54 fun n56 => unn l55 (unn l46 (ocall V 38 [(.op [(.rs (1, 0) l50), (.int .i64 n53), (.int .i64 n56)]), (.rs (1, 0) [(.str ({ data := #[] })), (.str ({ data := #[97] })), (.str ({ data := #[98, 98] }))])] fun x57 l58 =>
                                         asS x57 fun s59 => unc l58 fun x60 l61 => asOp x60 fun l62 => unc l62 fun x63 l64 => asRs (1, 0) x63 fun _ => unc l64 fun x66 l67 => asI .i64 x66 fun _ => unc l67 fun x69 l70 => asI .i64 x69 fun _ => unn l70 (unn l61 (some ((.tup [(.agg [(.int .i64 n17), (.int .i64 n20), (.os (1, 0) l23), (.int .i64 n26), (.os (2, 0) l29)]), (.agg [(.int .i64 (IntKind.wrap IntKind.i64 (IntKind.wrap IntKind.i64 (n26 + n44) - 1))), (.str s59)])]), [])))))))))) := by
  exact (Vn_eq Try.func14 rfl _).trans (by kernel_rfl)
theorem Limpl_LinkTake_11v1_eq (p0 : Int) (p1 : Int) (p2 : Int) (p3 : Int) (p4 : Int) (p5 : Int) (p6 : Nat) (p7 : Nat) (p8 : List D) (p9 : List D) (p10 : List D) : Limpl_LinkTake_11v1 p0 p1 p2 p3 p4 p5 p6 p7 p8 p9 p10 =
  br (decide (ni p7 > 0))
   (grd (decide (0 ≤ 0) && decide (0 < ni p7) && decide (p6 + p7 ≤ List.length p10)) (oget p10 (p6 + Int.toNat (0)) fun x66 =>
    asAgg x66 fun l67 => oget l67 0 fun x68 =>
      asI .i64 x68 fun n69 => br (n69 == p5)
        (grd (decide (0 ≤ 0) && decide (0 < ni p7) && decide (p6 + p7 ≤ List.length p10)) (oget p10 (p6 + Int.toNat (0)) fun x70 =>
         asAgg x70 fun l71 => oget l71 1 fun x72 =>
           asS x72 fun s73 => grd (decide (ni (List.length (p8 ++ [D.str s73])) ≤ LIM)) (nam (p8 ++ [D.str s73]) fun l74 =>
             grd (cutOkX p7 (List.length p10 - p6) (some (1)) none) (Limpl_LinkTake_11v1 p0 p1 p2 p3 p4 (IntKind.wrap IntKind.i64 (p5 + 1)) (p6 + Int.toNat (1)) (p7 - Int.toNat (1)) l74 p9 p10))))
        (ocall V 33 [(.rs (2, 0) (part p10 (some (p6, p7))))] fun x75 l76 =>
         asOs (2, 0) x75 fun l77 => unn l76 (some ((.tup [(.agg [(.int .i64 p3), (.int .i64 p4), (.os (1, 0) p9), (.int .i64 p5), (.os (2, 0) l77)]), (.os (1, 0) p8)]), [])))))
   (ocall V 33 [(.rs (2, 0) (part p10 (some (p6, p7))))] fun x78 l79 =>
    asOs (2, 0) x78 fun l80 => unn l79 (some ((.tup [(.agg [(.int .i64 p3), (.int .i64 p4), (.os (1, 0) p9), (.int .i64 p5), (.os (2, 0) l80)]), (.os (1, 0) p8)]), []))) := by
  exact (Rn_eq _ _ _).trans (by kernel_rfl)
theorem Lspec_LinkTake_12_eq (p0 : Int) (p1 : Int) (p2 : Int) (p3 : List D) (p4 : Int) (p5 : Int) (p6 : Int) (p7 : List D) (p8 : List D) : Lspec_LinkTake_12 p0 p1 p2 p3 p4 p5 p6 p7 p8 =
  br (decide (ni (List.length p8) > 0))
   (grd (decide (0 ≤ 0) && decide (0 < ni (List.length p8))) (oget p8 0 fun x30 =>
    asAgg x30 fun l31 => oget l31 0 fun x32 =>
      asI .i64 x32 fun n33 => br (n33 == p6)
        (grd (decide (0 ≤ 0) && decide (0 < ni (List.length p8))) (oget p8 0 fun x34 =>
         asAgg x34 fun l35 => oget l35 1 fun x36 =>
           asS x36 fun s37 => grd (decide (ni (List.length (p3 ++ [D.str s37])) ≤ LIM)) (nam (p3 ++ [D.str s37]) fun l38 =>
             grd (cutOk (List.length p8) (some (1)) none) (Lspec_LinkTake_12v1 p0 p1 p2 l38 p4 p5 (IntKind.wrap IntKind.i64 (p6 + 1)) (Int.toNat (1)) (List.length p8 - Int.toNat (1)) p7 p8))))
        (grd (decide (ni (List.length ([] ++ p8)) ≤ LIM)) (nam ([] ++ p8) fun l39 =>
         some ((.tup [(.agg [(.int .i64 p4), (.int .i64 p5), (.os (1, 0) p7), (.int .i64 p6), (.os (2, 0) l39)]), (.os (1, 0) p3)]), [])))))
   (grd (decide (ni (List.length ([] ++ p8)) ≤ LIM)) (nam ([] ++ p8) fun l40 =>
    some ((.tup [(.agg [(.int .i64 p4), (.int .i64 p5), (.os (1, 0) p7), (.int .i64 p6), (.os (2, 0) l40)]), (.os (1, 0) p3)]), []))) := by
  exact (Rn_eq _ _ _).trans (by kernel_rfl)
theorem espec_LinkOk (a0_0 : Int) (a0_1 : Int) (a0_2 : List D) (a0_3 : Int) (a0_4 : List D) : V 16 [.agg [.int .i64 a0_0, .int .i64 a0_1, .rs (1, 0) a0_2, .int .i64 a0_3, .rs (2, 0) a0_4]] =
  ocall V 40 [(.int .i64 a0_0), (.int .i64 (0)), (.int .i64 (100000))] fun x0 l1 =>
   asB x0 fun b2 => unn l1 (br (!b2)
     (some ((.bool false), []))
     (ocall V 40 [(.int .i64 a0_3), (.int .i64 (0)), (.int .i64 a0_0)] fun x3 l4 =>
      asB x3 fun b5 => unn l4 (br (!b5)
        (some ((.bool false), []))
        (ocall V 40 [(.int .i64 a0_1), (.int .i64 (0)), (.int .i64 a0_3)] fun x6 l7 =>
         asB x6 fun b8 => unn l7 (br (!b8)
           (some ((.bool false), []))
           (br (ni (List.length a0_2) != IntKind.wrap IntKind.i64 (a0_0 - a0_1))
            (some ((.bool false), []))
            (br (decide (ni (List.length a0_2) > 30))
             (some ((.bool false), []))
             (Lspec_LinkOk_4 (0) a0_0 a0_1 a0_2 a0_3 a0_4)))))))) := by
  exact (Vn_eq Try.func16 rfl _).trans (by kernel_rfl)
theorem espec_l1PickInt (a0_0 : List D) (a0_1 : Int) (a0_2 : Int) (a1_ : List D) : V 54 [.op [.rs (1, 0) a0_0, .int .i64 a0_1, .int .i64 a0_2], .rs (1, 0) a1_] =
  ocall V 37 [(.op [(.rs (1, 0) a0_0), (.int .i64 a0_1), (.int .i64 a0_2)]), (.int .i64 (ni (List.length a1_)))] fun x0 l1 =>
   asI .i64 x0 fun n2 => unc l1 fun x3 l4 => asOp x3 fun l5 => unc l5 fun x6 l7 => asRs (1, 0) x6 fun l8 => unc l7 fun x9 l10 => asI .i64 x9 fun n11 => unc l10 fun x12 l13 => asI .i64 x12 fun n14 => unn l13 (unn l4 (grd (decide (0 ≤ n2) && decide (n2 < ni (List.length a1_))) (oget a1_ (Int.toNat n2) fun x15 =>
             asI .i64 x15 fun n16 => some ((.int .i64 n16), [(.op [(.rs (1, 0) l8), (.int .i64 n11), (.int .i64 n14)])])))) := by
  exact (Vn_eq Try.func54 rfl _).trans (by kernel_rfl)
theorem espec_l10DrawRight (a0_0 : List D) (a0_1 : Int) (a0_2 : Int) : V 53 [.op [.rs (1, 0) a0_0, .int .i64 a0_1, .int .i64 a0_2]] =
  ocall V 37 [(.op [(.rs (1, 0) a0_0), (.int .i64 a0_1), (.int .i64 a0_2)]), (.int .i64 (22))] fun x0 l1 =>
   asI .i64 x0 fun n2 => unc l1 fun x3 l4 => asOp x3 fun l5 => unc l5 fun x6 l7 => asRs (1, 0) x6 fun l8 => unc l7 fun x9 l10 => asI .i64 x9 fun n11 => unc l10 fun x12 l13 => asI .i64 x12 fun n14 => unn l13 (unn l4 (Lspec_l10DrawRight_5 n2 (0) l8 n11 n14 (0) (0) (0) (0) (0) (0) [])) := by
  exact (Vn_eq Try.func53 rfl _).trans (by kernel_rfl)
theorem Llaws_sameTexts_4_eq (p0 : List D) (p1 : List D) (p2 : Int) : Llaws_sameTexts_4 p0 p1 p2 =
  br (decide (p2 < ni (List.length p0)))
   (grd (decide (0 ≤ p2) && decide (p2 < ni (List.length p0))) (oget p0 (Int.toNat p2) fun x0 =>
    asS x0 fun s1 => grd (decide (0 ≤ p2) && decide (p2 < ni (List.length p1))) (oget p1 (Int.toNat p2) fun x2 =>
      asS x2 fun s3 => br (!strEq s1 s3)
        (some ((.bool false), []))
        (Llaws_sameTexts_4 p0 p1 (IntKind.wrap IntKind.i64 (p2 + 1))))))
   (some ((.bool true), [])) := by
  exact (Rn_eq _ _ _).trans (by kernel_rfl)
theorem eimpl_LinkTake_1 (a0_0 : Int) (a0_1 : ByteArray) (a1_ : Int) : V 30 [.agg [.int .i64 a0_0, .str a0_1], .int .i64 a1_] =
  some ((.int .i64 (IntKind.wrap IntKind.i64 (a0_0 - a1_))), []) := by
  exact (Vn_eq Try.func30 rfl _).trans (by kernel_rfl)
theorem espec_l1Min (a0_ : Int) (a1_ : Int) : V 41 [.int .i64 a0_, .int .i64 a1_] =
  br (decide (a0_ < a1_))
   (some ((.int .i64 a0_), []))
   (some ((.int .i64 a1_), [])) := by
  exact (Vn_eq Try.func41 rfl _).trans (by kernel_rfl)
theorem elaws_big (a0_ : List D) : V 6 [.rs (1, 0) a0_] =
  some ((.bool (decide (ni (List.length a0_) > 1048576))), []) := by
  exact (Vn_eq Try.func6 rfl _).trans (by kernel_rfl)

end Go.Eng
/-! the functions as the interpreter has them -/
namespace Go.Eng
open Go.Proofs Go.Proofs.Try
set_option maxRecDepth 100000
theorem elaws_FnTaken (a0_ : List D) : V 4 [.rs (1, 0) a0_] =
  ocall V 6 [(.rs (1, 0) a0_)] fun x0 l1 =>
   asB x0 fun b2 => unn l1 (br b2
     (some ((.bool true), []))
     (ocall V 14 [(.rs (1, 0) a0_)] fun x3 l4 =>
      asTup x3 fun l5 => unc l5 fun x6 l7 => asAgg x6 fun l8 => unc l8 fun x9 l10 => asI .i64 x9 fun n11 => unc l10 fun x12 l13 => asI .i64 x12 fun n14 => unc l13 fun x15 l16 => asAs (1, 0) x15 fun l17 => unc l16 fun x18 l19 => asI .i64 x18 fun n20 => unc l19 fun x21 l22 => asAs (2, 0) x21 fun l23 => unn l22 (unc l7 fun x24 l25 => asAgg x24 fun l26 => unc l26 fun x27 l28 => asI .i64 x27 fun n29 => unc l28 fun x30 l31 => asS x30 fun s32 => unn l31 (unn l25 (unn l4 (ocall V 11 [(.agg [(.int .i64 n11), (.int .i64 n14), (.rs (1, 0) l17), (.int .i64 n20), (.rs (2, 0) l23)]), (.agg [(.int .i64 n29), (.str s32)])] fun x33 l34 =>
                          asTup x33 fun l35 => unc l35 fun x36 l37 => asAgg x36 fun l38 => unc l38 fun x39 l40 => asI .i64 x39 fun n41 => unc l40 fun x42 l43 => asI .i64 x42 fun n44 => unc l43 fun x45 l46 => asOs (1, 0) x45 fun l47 => unc l46 fun x48 l49 => asI .i64 x48 fun n50 => unc l49 fun x51 l52 => asOs (2, 0) x51 fun l53 => unn l52 (unc l37 fun x54 l55 => asOs (1, 0) x54 fun l56 => unn l55 (unn l34 (ocall V 15 [(.agg [(.int .i64 n11), (.int .i64 n14), (.rs (1, 0) l17), (.int .i64 n20), (.rs (2, 0) l23)]), (.agg [(.int .i64 n29), (.str s32)])] fun x57 l58 =>
                                          asTup x57 fun l59 => unc l59 fun x60 l61 => asAgg x60 fun l62 => unc l62 fun x63 l64 => asI .i64 x63 fun _ => unc l64 fun x66 l67 => asI .i64 x66 fun _ => unc l67 fun x69 l70 => asOs (1, 0) x69 fun _ => unc l70 fun x72 l73 => asI .i64 x72 fun _ => unc l73 fun x75 l76 => asOs (2, 0) x75 fun _ => unn l76 (unc l61 fun x78 l79 => asOs (1, 0) x78 fun l80 => unn l79 (unn l58 (ocall V 13 [(.rs (1, 0) l56), (.rs (1, 0) l80)] fun x81 l82 =>
                                                          asB x81 fun b83 => unn l82 (br (!b83)
                                                            (some ((.bool false), []))
                                                            (ocall V 16 [(.agg [(.int .i64 n11), (.int .i64 n14), (.rs (1, 0) l17), (.int .i64 n20), (.rs (2, 0) l23)])] fun x84 l85 =>
                                                             asB x84 fun b86 => unn l85 (br (!b86)
                                                               (br (ni (List.length l56) == 0)
                                                                (some ((.bool (n41 == 0)), []))
                                                                (some ((.bool false), [])))
                                                               (br (n50 != IntKind.wrap IntKind.i64 (n20 + ni (List.length l56)))
                                                                (some ((.bool false), []))
                                                                (ocall V 17 [(.agg [(.int .i64 n41), (.int .i64 n44), (.rs (1, 0) l47), (.int .i64 n50), (.rs (2, 0) l53)])] fun x87 l88 =>
                                                                 asB x87 fun b89 => unn l88 (br (!b89)
                                                                   (some ((.bool false), []))
                                                                   (br (decide (ni (List.length l56) > 0))
                                                                    (grd (decide (0 ≤ 0) && decide (0 < ni (List.length l56))) (oget l56 0 fun x90 =>
                                                                     asS x90 fun s91 => br (!strEq s91 s32)
                                                                       (some ((.bool false), []))
                                                                       (br (n29 != n20)
                                                                        (some ((.bool false), []))
                                                                        (ocall V 11 [(.agg [(.int .i64 n41), (.int .i64 n44), (.rs (1, 0) l47), (.int .i64 n50), (.rs (2, 0) l53)]), (.agg [(.int .i64 n29), (.str s32)])] fun x92 l93 =>
                                                                         asTup x92 fun l94 => unc l94 fun x95 l96 => asAgg x95 fun l97 => unc l97 fun x98 l99 => asI .i64 x98 fun _ => unc l99 fun x101 l102 => asI .i64 x101 fun _ => unc l102 fun x104 l105 => asOs (1, 0) x104 fun _ => unc l105 fun x107 l108 => asI .i64 x107 fun _ => unc l108 fun x110 l111 => asOs (2, 0) x110 fun _ => unn l111 (unc l96 fun x113 l114 => asOs (1, 0) x113 fun l115 => unn l114 (unn l93 (br (ni (List.length l56) == 0)
                                                                                         (some ((.bool true), []))
                                                                                         (some ((.bool (ni (List.length l115) == 0)), [])))))))))
                                                                    (ocall V 11 [(.agg [(.int .i64 n41), (.int .i64 n44), (.rs (1, 0) l47), (.int .i64 n50), (.rs (2, 0) l53)]), (.agg [(.int .i64 n29), (.str s32)])] fun x116 l117 =>
                                                                     asTup x116 fun l118 => unc l118 fun x119 l120 => asAgg x119 fun l121 => unc l121 fun x122 l123 => asI .i64 x122 fun _ => unc l123 fun x125 l126 => asI .i64 x125 fun _ => unc l126 fun x128 l129 => asOs (1, 0) x128 fun _ => unc l129 fun x131 l132 => asI .i64 x131 fun _ => unc l132 fun x134 l135 => asOs (2, 0) x134 fun _ => unn l135 (unc l120 fun x137 l138 => asOs (1, 0) x137 fun l139 => unn l138 (unn l117 (br (ni (List.length l56) == 0)
                                                                                     (some ((.bool true), []))
                                                                                     (some ((.bool (ni (List.length l139) == 0)), []))))))))))))))))))))))))) := by
  exact (Vn_eq Try.func4 rfl _).trans (by kernel_rfl)
theorem espec_l10Draw (a0_0 : List D) (a0_1 : Int) (a0_2 : Int) : V 36 [.op [.rs (1, 0) a0_0, .int .i64 a0_1, .int .i64 a0_2]] =
  ocall V 53 [(.op [(.rs (1, 0) a0_0), (.int .i64 a0_1), (.int .i64 a0_2)])] fun x0 l1 =>
   asAgg x0 fun l2 => unc l2 fun x3 l4 => asI .i64 x3 fun n5 => unc l4 fun x6 l7 => asI .i64 x6 fun n8 => unc l7 fun x9 l10 => asOs (1, 0) x9 fun l11 => unc l10 fun x12 l13 => asI .i64 x12 fun n14 => unc l13 fun x15 l16 => asOs (2, 0) x15 fun l17 => unn l16 (unc l1 fun x18 l19 => asOp x18 fun l20 => unc l20 fun x21 l22 => asRs (1, 0) x21 fun l23 => unc l22 fun x24 l25 => asI .i64 x24 fun n26 => unc l25 fun x27 l28 => asI .i64 x27 fun n29 => unn l28 (unn l19 (ocall V 37 [(.op [(.rs (1, 0) l23), (.int .i64 n26), (.int .i64 n29)]), (.int .i64 (20))] fun x30 l31 =>
                       asI .i64 x30 fun n32 => unc l31 fun x33 l34 => asOp x33 fun l35 => unc l35 fun x36 l37 => asRs (1, 0) x36 fun l38 => unc l37 fun x39 l40 => asI .i64 x39 fun n41 => unc l40 fun x42 l43 => asI .i64 x42 fun n44 => unn l43 (unn l34 (br (n32 == 0)
                                 (ocall V 54 [(.op [(.rs (1, 0) l38), (.int .i64 n41), (.int .i64 n44)]), (.rs (1, 0) [(.int .i64 (-1)), (.int .i64 (IntKind.wrap IntKind.i64 (n5 + 1))), (.int .i64 (100001))])] fun x45 l46 =>
                                  asI .i64 x45 fun n47 => unc l46 fun x48 l49 => asOp x48 fun l50 => unc l50 fun x51 l52 => asRs (1, 0) x51 fun l53 => unc l52 fun x54 l55 => asI .i64 x54 fun n56 => unc l55 fun x57 l58 => asI .i64 x57 fun n59 => unn l58 (unn l49 (some ((.agg [(.int .i64 n47), (.int .i64 n8), (.os (1, 0) l11), (.int .i64 n14), (.os (2, 0) l17)]), [(.op [(.rs (1, 0) l53), (.int .i64 n56), (.int .i64 n59)])]))))
                                 (br (n32 == 1)
                                  (ocall V 37 [(.op [(.rs (1, 0) l38), (.int .i64 n41), (.int .i64 n44)]), (.int .i64 (9))] fun x60 l61 =>
                                   asI .i64 x60 fun n62 => unc l61 fun x63 l64 => asOp x63 fun l65 => unc l65 fun x66 l67 => asRs (1, 0) x66 fun l68 => unc l67 fun x69 l70 => asI .i64 x69 fun n71 => unc l70 fun x72 l73 => asI .i64 x72 fun n74 => unn l73 (unn l64 (some ((.agg [(.int .i64 n5), (.int .i64 n8), (.os (1, 0) l11), (.int .i64 (IntKind.wrap IntKind.i64 (n62 - 1))), (.os (2, 0) l17)]), [(.op [(.rs (1, 0) l68), (.int .i64 n71), (.int .i64 n74)])]))))
                                  (br (n32 == 2)
                                   (ocall V 37 [(.op [(.rs (1, 0) l38), (.int .i64 n41), (.int .i64 n44)]), (.int .i64 (9))] fun x75 l76 =>
                                    asI .i64 x75 fun n77 => unc l76 fun x78 l79 => asOp x78 fun l80 => unc l80 fun x81 l82 => asRs (1, 0) x81 fun l83 => unc l82 fun x84 l85 => asI .i64 x84 fun n86 => unc l85 fun x87 l88 => asI .i64 x87 fun n89 => unn l88 (unn l79 (some ((.agg [(.int .i64 n5), (.int .i64 (IntKind.wrap IntKind.i64 (n77 - 1))), (.os (1, 0) l11), (.int .i64 n14), (.os (2, 0) l17)]), [(.op [(.rs (1, 0) l83), (.int .i64 n86), (.int .i64 n89)])]))))
                                   (br (n32 == 3)
                                    (ocall V 37 [(.op [(.rs (1, 0) l38), (.int .i64 n41), (.int .i64 n44)]), (.int .i64 (12))] fun x90 l91 =>
                                     asI .i64 x90 fun n92 => unc l91 fun x93 l94 => asOp x93 fun l95 => unc l95 fun x96 l97 => asRs (1, 0) x96 fun l98 => unc l97 fun x99 l100 => asI .i64 x99 fun n101 => unc l100 fun x102 l103 => asI .i64 x102 fun n104 => unn l103 (unn l94 (grd (decide (ni (List.length (l17 ++ [D.agg [D.int IntKind.i64 n92, D.str { data := #[] }]])) ≤ LIM)) (nam (l17 ++ [D.agg [D.int IntKind.i64 n92, D.str { data := #[] }]]) fun l105 =>
                                               some ((.agg [(.int .i64 n5), (.int .i64 n8), (.os (1, 0) l11), (.int .i64 n14), (.os (2, 0) l105)]), [(.op [(.rs (1, 0) l98), (.int .i64 n101), (.int .i64 n104)])])))))
                                    (br (n32 == 4)
                                     (ocall V 37 [(.op [(.rs (1, 0) l38), (.int .i64 n41), (.int .i64 n44)]), (.int .i64 (2))] fun x106 l107 =>
                                      asI .i64 x106 fun n108 => unc l107 fun x109 l110 => asOp x109 fun l111 => unc l111 fun x112 l113 => asRs (1, 0) x112 fun l114 => unc l113 fun x115 l116 => asI .i64 x115 fun n117 => unc l116 fun x118 l119 => asI .i64 x118 fun n120 => unn l119 (unn l110 (grd (decide (0 ≤ IntKind.wrap IntKind.i64 (30 + n108)) && decide (IntKind.wrap IntKind.i64 (30 + n108) ≤ LIM)) (some ((.agg [(.int .i64 (IntKind.wrap IntKind.i64 (30 + n108))), (.int .i64 (0)), (.os (1, 0) (List.replicate (Int.toNat (IntKind.wrap IntKind.i64 (30 + n108))) (D.str { data := #[] }))), (.int .i64 (0)), (.os (2, 0) [])]), [(.op [(.rs (1, 0) l114), (.int .i64 n117), (.int .i64 n120)])])))))
                                     (some ((.agg [(.int .i64 n5), (.int .i64 n8), (.os (1, 0) l11), (.int .i64 n14), (.os (2, 0) l17)]), [(.op [(.rs (1, 0) l38), (.int .i64 n41), (.int .i64 n44)])]))))))))))) := by
  exact (Vn_eq Try.func36 rfl _).trans (by kernel_rfl)
theorem espec_l1Below (a0_0 : List D) (a0_1 : Int) (a0_2 : Int) (a1_ : Int) : V 37 [.op [.rs (1, 0) a0_0, .int .i64 a0_1, .int .i64 a0_2], .int .i64 a1_] =
  br (decide (a1_ ≤ 0))
   (some ((.int .i64 (0)), [(.op [(.rs (1, 0) a0_0), (.int .i64 a0_1), (.int .i64 a0_2)])]))
   (br (decide (a1_ ≤ 256))
    (ocall V 55 [(.op [(.rs (1, 0) a0_0), (.int .i64 a0_1), (.int .i64 a0_2)])] fun x0 l1 =>
     asI .i64 x0 fun n2 => unc l1 fun x3 l4 => asOp x3 fun l5 => unc l5 fun x6 l7 => asRs (1, 0) x6 fun l8 => unc l7 fun x9 l10 => asI .i64 x9 fun n11 => unc l10 fun x12 l13 => asI .i64 x12 fun n14 => unn l13 (unn l4 (grd (!decide (a1_ = 0)) (some ((.int .i64 (Int.tmod n2 a1_)), [(.op [(.rs (1, 0) l8), (.int .i64 n11), (.int .i64 n14)])])))))
    (ocall V 55 [(.op [(.rs (1, 0) a0_0), (.int .i64 a0_1), (.int .i64 a0_2)])] fun x15 l16 =>
     asI .i64 x15 fun n17 => unc l16 fun x18 l19 => asOp x18 fun l20 => unc l20 fun x21 l22 => asRs (1, 0) x21 fun l23 => unc l22 fun x24 l25 => asI .i64 x24 fun n26 => unc l25 fun x27 l28 => asI .i64 x27 fun n29 => unn l28 (unn l19 (ocall V 55 [(.op [(.rs (1, 0) l23), (.int .i64 n26), (.int .i64 n29)])] fun x30 l31 =>
               asI .i64 x30 fun n32 => unc l31 fun x33 l34 => asOp x33 fun l35 => unc l35 fun x36 l37 => asRs (1, 0) x36 fun l38 => unc l37 fun x39 l40 => asI .i64 x39 fun n41 => unc l40 fun x42 l43 => asI .i64 x42 fun n44 => unn l43 (unn l34 (ocall V 55 [(.op [(.rs (1, 0) l38), (.int .i64 n41), (.int .i64 n44)])] fun x45 l46 =>
                         asI .i64 x45 fun n47 => unc l46 fun x48 l49 => asOp x48 fun l50 => unc l50 fun x51 l52 => asRs (1, 0) x51 fun l53 => unc l52 fun x54 l55 => asI .i64 x54 fun n56 => unc l55 fun x57 l58 => asI .i64 x57 fun n59 => unn l58 (unn l49 (ocall V 55 [(.op [(.rs (1, 0) l53), (.int .i64 n56), (.int .i64 n59)])] fun x60 l61 =>
                                   asI .i64 x60 fun n62 => unc l61 fun x63 l64 => asOp x63 fun l65 => unc l65 fun x66 l67 => asRs (1, 0) x66 fun l68 => unc l67 fun x69 l70 => asI .i64 x69 fun n71 => unc l70 fun x72 l73 => asI .i64 x72 fun n74 => unn l73 (unn l64 (grd (!decide (a1_ = 0)) (some ((.int .i64 (Int.tmod (IntKind.wrap IntKind.i64 (IntKind.wrap IntKind.i64 (IntKind.wrap IntKind.i64 (IntKind.wrap IntKind.i64 (n17 * 16777216) + IntKind.wrap IntKind.i64 (n32 * 65536)) + IntKind.wrap IntKind.i64 (n47 * 256)) + n62)) a1_)), [(.op [(.rs (1, 0) l68), (.int .i64 n71), (.int .i64 n74)])])))))))))))) := by
  exact (Vn_eq Try.func37 rfl _).trans (by kernel_rfl)
theorem Lspec_LinkOk_4_eq (p0 : Int) (p1 : Int) (p2 : Int) (p3 : List D) (p4 : Int) (p5 : List D) : Lspec_LinkOk_4 p0 p1 p2 p3 p4 p5 =
  br (decide (p0 < ni (List.length p5)))
   (grd (decide (0 ≤ p0) && decide (p0 < ni (List.length p5))) (oget p5 (Int.toNat p0) fun x9 =>
    asAgg x9 fun l10 => oget l10 0 fun x11 =>
      asI .i64 x11 fun n12 => ocall V 41 [(.int .i64 (IntKind.wrap IntKind.i64 (p4 + 4))), (.int .i64 p1)] fun x13 l14 =>
        asI .i64 x13 fun n15 => unn l14 (ocall V 40 [(.int .i64 n12), (.int .i64 (IntKind.wrap IntKind.i64 (p4 + 1))), (.int .i64 (IntKind.wrap IntKind.i64 (n15 - 1)))] fun x16 l17 =>
          asB x16 fun b18 => unn l17 (br (!b18)
            (some ((.bool false), []))
            (br (decide (p0 > 0))
             (grd (decide (0 ≤ IntKind.wrap IntKind.i64 (p0 - 1)) && decide (IntKind.wrap IntKind.i64 (p0 - 1) < ni (List.length p5))) (oget p5 (Int.toNat (IntKind.wrap IntKind.i64 (p0 - 1))) fun x19 =>
              asAgg x19 fun l20 => oget l20 0 fun x21 =>
                asI .i64 x21 fun n22 => br (decide (n22 ≥ n12))
                  (some ((.bool false), []))
                  (Lspec_LinkOk_4 (IntKind.wrap IntKind.i64 (p0 + 1)) p1 p2 p3 p4 p5)))
             (Lspec_LinkOk_4 (IntKind.wrap IntKind.i64 (p0 + 1)) p1 p2 p3 p4 p5))))))
   (some ((.bool true), [])) := by
  exact (Rn_eq _ _ _).trans (by kernel_rfl)
theorem espec_l10Copy (a0_0 : Int) (a0_1 : Int) (a0_2 : List D) (a0_3 : Int) (a0_4 : List D) : V 39 [.agg [.int .i64 a0_0, .int .i64 a0_1, .rs (1, 0) a0_2, .int .i64 a0_3, .rs (2, 0) a0_4]] =
  grd (decide (ni (List.length ([] ++ a0_2)) ≤ LIM)) (nam ([] ++ a0_2) fun l0 =>
   grd (decide (ni (List.length ([] ++ a0_4)) ≤ LIM)) (nam ([] ++ a0_4) fun l1 =>
    some ((.agg [(.int .i64 a0_0), (.int .i64 a0_1), (.os (1, 0) l0), (.int .i64 a0_3), (.os (2, 0) l1)]), []))) := by
  exact (Vn_eq Try.func39 rfl _).trans (by kernel_rfl)
theorem eimpl_copyLink (a0_0 : Int) (a0_1 : Int) (a0_2 : List D) (a0_3 : Int) (a0_4 : List D) : V 28 [.agg [.int .i64 a0_0, .int .i64 a0_1, .rs (1, 0) a0_2, .int .i64 a0_3, .rs (2, 0) a0_4]] =
  ocall V 34 [(.rs (1, 0) a0_2)] fun x0 l1 =>
   asOs (1, 0) x0 fun l2 => unn l1 (ocall V 33 [(.rs (2, 0) a0_4)] fun x3 l4 =>
     asOs (2, 0) x3 fun l5 => unn l4 (some ((.agg [(.int .i64 a0_0), (.int .i64 a0_1), (.os (1, 0) l2), (.int .i64 a0_3), (.os (2, 0) l5)]), []))) := by
  exact (Vn_eq Try.func28 rfl _).trans (by kernel_rfl)
theorem elaws_sameTexts (a0_ : List D) (a1_ : List D) : V 13 [.rs (1, 0) a0_, .rs (1, 0) a1_] =
  br (ni (List.length a0_) != ni (List.length a1_))
   (some ((.bool false), []))
   (Llaws_sameTexts_4 a0_ a1_ (0)) := by
  exact (Vn_eq Try.func13 rfl _).trans (by kernel_rfl)
theorem espec_l1In (a0_ : Int) (a1_ : Int) (a2_ : Int) : V 40 [.int .i64 a0_, .int .i64 a1_, .int .i64 a2_] =
  br (decide (a0_ ≥ a1_))
   (some ((.bool (decide (a0_ ≤ a2_))), []))
   (some ((.bool false), [])) := by
  exact (Vn_eq Try.func40 rfl _).trans (by kernel_rfl)
theorem eBinarySearchFunc_Piece (l : List D) (n : Int) : V 29 [.rs (2, 0) l, .int .i64 n, .fn 30 []] =
  LBinarySearchFunc_Piece_3 l n (ni (List.length l)) (0) (ni (List.length l)) := by
  exact (Vn_eq Try.func29 rfl _).trans (by kernel_rfl)
end Go.Eng
/-! the functions as the interpreter has them -/
/-! what the functions on links come to -/
namespace Go.Eng
open Go.Proofs Go.Proofs.Try

theorem strEq_refl (s : ByteArray) : strEq s s = true := by simp [strEq]

structure Pc where
  no : Int
  text : ByteArray
structure Lk where
  sent : Int
  acked : Int
  queue : List ByteArray
  got : Int
  held : List Pc
noncomputable def eP (p : Pc) : D := .agg [.int .i64 p.no, .str p.text]
theorem eP_mk (p : Pc) : eP p = .agg [.int .i64 p.no, .str p.text] := rfl
/-- a link, its rows lent, or owned -/
noncomputable def eK (l : Lk) : D := .agg [.int .i64 l.sent, .int .i64 l.acked, .rs (1, 0) (l.queue.map .str), .int .i64 l.got, .rs (2, 0) (l.held.map eP)]
noncomputable def oK (l : Lk) : D := .agg [.int .i64 l.sent, .int .i64 l.acked, .os (1, 0) (l.queue.map .str), .int .i64 l.got, .os (2, 0) (l.held.map eP)]

theorem v_within (n lo hi : Int) : V 31 [.int .i64 n, .int .i64 lo, .int .i64 hi] = some (.bool (wi n lo hi), []) := (eimpl_within n lo hi).trans within_eq
theorem v_l1In (n lo hi : Int) : V 40 [.int .i64 n, .int .i64 lo, .int .i64 hi] = some (.bool (wi n lo hi), []) := (espec_l1In n lo hi).trans within_eq
theorem v_l1Min (a b : Int) : V 41 [.int .i64 a, .int .i64 b] = some (.int .i64 (mnI a b), []) := by
  rw [espec_l1Min]
  unfold mnI
  by_cases h : a < b
  · rw [br_of (decide_eq_true h), if_neg (by omega)]
  · rw [br_not (decide_eq_false h)]
    by_cases h2 : b < a
    · rw [if_pos h2]
    · rw [if_neg h2, show b = a by omega]

/-! ## sizes -/
/-- what comes of the arguments -/
structure Lk.Fits (l : Lk) : Prop where
  q : ∀ s ∈ l.queue, s.size ≤ 140737488351232
  ql : l.queue.length < 4611686018427387904
  h : ∀ s ∈ l.held, s.text.size ≤ 140737488351232
  hl : l.held.length < 4611686018427387904
/-! ## copies -/
/-! ## the same -/
/-! ## LinkOk -/
noncomputable def prevOk (h : List Pc) : Nat → Pc → Bool
  | 0, _ => true
  | j + 1, p => match h[j]? with | some q => !decide (q.no ≥ p.no) | none => true
noncomputable def heldFrom (l : Lk) : Nat → Nat → Bool
  | _, 0 => true
  | i, k + 1 => (match l.held[i]? with | some p => wi p.no (l.got + 1) (mnI (l.got + 4) l.sent - 1) && prevOk l.held i p | none => true) && heldFrom l (i + 1) k
noncomputable def okK (l : Lk) : Bool := wi l.sent 0 100000 && (wi l.got 0 l.sent && (wi l.acked 0 l.got && (((l.queue.length : Int) == l.sent - l.acked) && (!decide ((l.queue.length : Int) > 30) && heldFrom l 0 l.held.length))))

theorem mnI_le (a b : Int) : mnI a b ≤ a ∧ mnI a b ≤ b ∧ (mnI a b = a ∨ mnI a b = b) := by unfold mnI; split <;> omega

theorem spec_okK_loop {l : Lk} (hl : l.held.length < 4611686018427387904) (h1 : 0 ≤ l.got) (h2 : l.got ≤ 100000) (h3 : 0 ≤ l.sent) (h4 : l.sent ≤ 100000) : ∀ (k i : Nat), i + k = l.held.length → Lspec_LinkOk_4 (i : Int) l.sent l.acked (l.queue.map .str) l.got (l.held.map eP) = some (.bool (heldFrom l i k), [])
  | 0, i, hi => by
    rw [Lspec_LinkOk_4_eq, br_not (by rw [List.length_map]; exact ge_idx (by omega))]; rfl
  | k + 1, i, hi => by
    obtain ⟨x, hx⟩ := get_of_lt (l := l.held) (i := i) (by omega)
    have ih := spec_okK_loop hl h1 h2 h3 h4 k (i + 1) (by omega)
    have hmn := mnI_le (l.got + 4) l.sent
    rw [Lspec_LinkOk_4_eq, br_of (by rw [List.length_map]; exact lt_idx (by omega)), grd_of (by rw [List.length_map]; exact in_idx (by omega)), Int.toNat_natCast, oget_map hx, eP_mk x, asAgg_agg, oget_lit0, asI_int, w64 (n := l.got + 4) (by omega) (by omega), ocall_some (v_l1Min _ _), asI_int, unn_nil, w64 (n := l.got + 1) (by omega) (by omega), w64 (n := mnI (l.got + 4) l.sent - 1) (by omega) (by omega), ocall_some (v_l1In _ _ _), asB_bool, unn_nil, w64s (by omega)]
    simp only [heldFrom, hx]
    cases wi x.no (l.got + 1) (mnI (l.got + 4) l.sent - 1) with
    | false => rfl
    | true =>
      rw [Bool.not_true, br_false]
      cases i with
      | zero => rw [br_not (by simp)]; simp only [prevOk, Bool.true_and, Bool.and_self]; exact ih
      | succ j =>
        obtain ⟨y, hy⟩ := get_of_lt (l := l.held) (i := j) (by omega)
        rw [br_of (by simp), w64 (n := ((j + 1 : Nat) : Int) - 1) (by omega) (by omega), show ((j + 1 : Nat) : Int) - 1 = (j : Int) by omega, grd_of (by rw [List.length_map]; exact in_idx (by omega)), Int.toNat_natCast, oget_map hy, eP_mk y, asAgg_agg, oget_lit0, asI_int]
        simp only [prevOk, hy]
        cases decide (y.no ≥ x.no) with
        | true => rfl
        | false => rw [br_false]; simpa using ih
theorem v_spec_okK {l : Lk} (_ : l.queue.length < 4611686018427387904) (hl : l.held.length < 4611686018427387904) : V 16 [eK l] = some (.bool (okK l), []) := by
  unfold eK okK
  rw [espec_LinkOk, ocall_some (v_l1In _ _ _), asB_bool, unn_nil]
  cases h1 : wi l.sent 0 100000 with
  | false => rfl
  | true =>
    rw [Bool.not_true, br_false, ocall_some (v_l1In _ _ _), asB_bool, unn_nil]
    cases h2 : wi l.got 0 l.sent with
    | false => rfl
    | true =>
      rw [Bool.not_true, br_false, ocall_some (v_l1In _ _ _), asB_bool, unn_nil]
      cases h3 : wi l.acked 0 l.got with
      | false => rfl
      | true =>
        simp only [wi, Bool.and_eq_true, decide_eq_true_eq] at h1 h2 h3
        rw [Bool.not_true, br_false, w64 (n := l.sent - l.acked) (by omega) (by omega)]
        simp only [ni, List.length_map, bne]
        cases ((l.queue.length : Int) == l.sent - l.acked) with
        | false => rfl
        | true =>
          rw [Bool.not_true, br_false]
          cases decide ((l.queue.length : Int) > 30) with
          | true => rfl
          | false =>
            rw [br_false]
            simpa using spec_okK_loop hl (by omega) (by omega) (by omega) (by omega) l.held.length 0 (by omega)

theorem impl_okK_loop {l : Lk} (hl : l.held.length < 4611686018427387904) (h1 : 0 ≤ l.got) (h2 : l.got ≤ 100000) (h3 : 0 ≤ l.sent) (h4 : l.sent ≤ 100000) : ∀ (k i : Nat), i + k = l.held.length → Limpl_LinkOk_4 (l.held.map eP) (l.held.length : Int) (i : Int) l.sent l.acked (l.queue.map .str) l.got (l.held.map eP) = some (.bool (heldFrom l i k), [])
  | 0, i, hi => by
    rw [Limpl_LinkOk_4_eq, br_not (decide_eq_false (by omega))]; rfl
  | k + 1, i, hi => by
    obtain ⟨x, hx⟩ := get_of_lt (l := l.held) (i := i) (by omega)
    have ih := impl_okK_loop hl h1 h2 h3 h4 k (i + 1) (by omega)
    have hmn := mnI_le (l.got + 4) l.sent
    rw [Limpl_LinkOk_4_eq, br_of (decide_eq_true (by omega)), grd_of (by rw [List.length_map]; exact in_idx (by omega)), Int.toNat_natCast, oget_map hx, eP_mk x, asAgg_agg, unc_cons, asI_int, unc_cons, asS_str, unn_nil, w64 (n := l.got + 4) (by omega) (by omega), w64 (n := l.got + 1) (by omega) (by omega), w64 (n := mnI (l.got + 4) l.sent - 1) (by omega) (by omega), ocall_some (v_within _ _ _), asB_bool, unn_nil, w64s (by omega)]
    simp only [heldFrom, hx]
    cases wi x.no (l.got + 1) (mnI (l.got + 4) l.sent - 1) with
    | false => rfl
    | true =>
      rw [Bool.not_true, br_false]
      cases i with
      | zero => rw [br_not (by simp)]; simp only [prevOk, Bool.true_and, Bool.and_self]; exact ih
      | succ j =>
        obtain ⟨y, hy⟩ := get_of_lt (l := l.held) (i := j) (by omega)
        rw [br_of (by simp), w64 (n := ((j + 1 : Nat) : Int) - 1) (by omega) (by omega), show ((j + 1 : Nat) : Int) - 1 = (j : Int) by omega, grd_of (by rw [List.length_map]; exact in_idx (by omega)), Int.toNat_natCast, oget_map hy, eP_mk y, asAgg_agg, oget_lit0, asI_int]
        simp only [prevOk, hy]
        cases decide (y.no ≥ x.no) with
        | true => rfl
        | false => rw [br_false]; simpa using ih
theorem v_impl_okK {l : Lk} (_ : l.queue.length < 4611686018427387904) (hl : l.held.length < 4611686018427387904) : V 17 [eK l] = some (.bool (okK l), []) := by
  unfold eK okK
  rw [eimpl_LinkOk, ocall_some (v_within _ _ _), asB_bool, unn_nil]
  cases h1 : wi l.sent 0 100000 with
  | false => rfl
  | true =>
    rw [Bool.not_true, br_false, ocall_some (v_within _ _ _), asB_bool, unn_nil]
    cases h2 : wi l.got 0 l.sent with
    | false => rfl
    | true =>
      rw [Bool.not_true, br_false, ocall_some (v_within _ _ _), asB_bool, unn_nil]
      cases h3 : wi l.acked 0 l.got with
      | false => rfl
      | true =>
        simp only [wi, Bool.and_eq_true, decide_eq_true_eq] at h1 h2 h3
        rw [Bool.not_true, br_false, w64 (n := l.sent - l.acked) (by omega) (by omega)]
        simp only [ni, List.length_map, bne]
        cases ((l.queue.length : Int) == l.sent - l.acked) with
        | false => rfl
        | true =>
          rw [Bool.not_true, br_false]
          cases decide ((l.queue.length : Int) > 30) with
          | true => rfl
          | false =>
            rw [br_false]
            simpa using impl_okK_loop hl (by omega) (by omega) (by omega) (by omega) l.held.length 0 (by omega)

/-! ## the arguments -/
end Go.Eng
/-! what the functions on links come to, second part -/
namespace Go.Eng
open Go.Proofs Go.Proofs.Try

/-! ## marks -/
/-! ## LinkShow -/
end Go.Eng
/-! what the functions on links come to, third part -/
namespace Go.Eng
open Go.Proofs Go.Proofs.Try

end Go.Eng
/-! what the functions on links come to, fourth part: LinkAck, LinkSend -/
namespace Go.Eng
open Go.Proofs Go.Proofs.Try

noncomputable def zK : Lk := ⟨0, 0, [], 0, []⟩
theorem v_cloneS {l : List D} (hl : l.length ≤ 4294967296) : V 34 [.rs (1, 0) l] = some (.os (1, 0) l, []) := by
  rw [eslices_Clone_string_string, grd_of (decide_eq_true (by simp only [ni, LIM_eq, List.nil_append]; omega))]
  exact nilb_clone _ _
theorem v_cloneP {l : List D} (hl : l.length ≤ 4294967296) : V 33 [.rs (2, 0) l] = some (.os (2, 0) l, []) := by
  rw [eslices_Clone_impl_Piece_impl_Piece, grd_of (decide_eq_true (by simp only [ni, LIM_eq, List.nil_append]; omega))]
  exact nilb_clone _ _
theorem v_copyK {l : Lk} (h1 : l.queue.length ≤ 4294967296) (h2 : l.held.length ≤ 4294967296) : V 28 [eK l] = some (oK l, []) := by
  unfold eK oK
  rw [eimpl_copyLink, ocall_some (v_cloneS (by rw [List.length_map]; exact h1)), asOs_os, unn_nil, ocall_some (v_cloneP (by rw [List.length_map]; exact h2)), asOs_os, unn_nil]
theorem v_copyKs {l : Lk} (h1 : l.queue.length ≤ 4294967296) (h2 : l.held.length ≤ 4294967296) : V 39 [eK l] = some (oK l, []) := by
  unfold eK oK
  rw [espec_l10Copy, grd_of (decide_eq_true (by simp only [ni, LIM_eq, List.nil_append, List.length_map]; omega)), nam_eq, grd_of (decide_eq_true (by simp only [ni, LIM_eq, List.nil_append, List.length_map]; omega)), nam_eq]
  rfl

theorem okK_facts {l : Lk} (h : okK l = true) : 0 ≤ l.acked ∧ l.acked ≤ l.got ∧ l.got ≤ l.sent ∧ l.sent ≤ 100000 ∧ (l.queue.length : Int) = l.sent - l.acked ∧ (l.queue.length : Int) ≤ 30 := by
  simp only [okK, wi, Bool.and_eq_true, decide_eq_true_eq, beq_iff_eq, Bool.not_eq_true', decide_eq_false_iff_not] at h
  omega

noncomputable def ackL (n : Int) (l : Lk) : Lk := ⟨l.sent, n, l.queue.drop (n - l.acked).toNat, l.got, l.held⟩
noncomputable def ackF (n : Int) (l : Lk) : Lk × Bool := if okK l then if wi n (l.acked + 1) l.got then (ackL n l, true) else (l, false) else (zK, false)
theorem v_spec_ack {l : Lk} (h1 : l.queue.length ≤ 4294967296) (h2 : l.held.length ≤ 4294967296) (n : Int) : V 59 [eK l, .int .i64 n] = some (.tup [oK (ackF n l).1, .bool (ackF n l).2], []) := by
  have hs := v_spec_okK (l := l) (by omega) (by omega)
  have hc := v_copyKs h1 h2
  have e : V 59 [eK l, .int .i64 n] = _ := espec_LinkAck l.sent l.acked (l.queue.map .str) l.got (l.held.map eP) n
  rw [e]
  unfold eK at hs hc
  unfold oK at hc
  rw [ocall_some hs, asB_bool, unn_nil]
  unfold ackF
  cases hok : okK l with
  | false => rfl
  | true =>
    have hf := okK_facts hok
    rw [Bool.not_true, br_false, ocall_some hc, asAgg_agg, unc_cons, asI_int, unc_cons, asI_int, unc_cons, asOs_os, unc_cons, asI_int, unc_cons, asOs_os, unn_nil, unn_nil, w64 (n := l.acked + 1) (by omega) (by omega), ocall_some (v_l1In _ _ _), asB_bool, unn_nil]
    cases hw : wi n (l.acked + 1) l.got with
    | false => rfl
    | true =>
      simp only [wi, Bool.and_eq_true, decide_eq_true_eq] at hw
      rw [Bool.not_true, br_false, w64 (n := n - l.acked) (by omega) (by omega), grd_of (by simp [cutOk]; omega), grd_of (decide_eq_true (by simp only [ni, LIM_eq, cutL, List.nil_append, List.length_drop, List.length_map]; omega)), nam_eq]
      simp only [cutL, List.nil_append, ← List.map_drop]
      rfl
end Go.Eng
/-! the laws on LinkAck and LinkSend -/
namespace Go.Eng
open Go.Proofs Go.Proofs.Try

end Go.Eng
/-! the law on LinkSend -/
namespace Go.Eng
open Go.Proofs Go.Proofs.Try

noncomputable def sendL (s : ByteArray) (l : Lk) : Lk := ⟨IntKind.wrap .i64 (l.sent + 1), l.acked, l.queue ++ [s], l.got, l.held⟩
noncomputable def sendF (s : ByteArray) (l : Lk) : Lk × Bool := if okK l then if okK (sendL s l) then (sendL s l, true) else (l, false) else (zK, false)
theorem v_spec_send {l : Lk} (h1 : l.queue.length < 4294967296) (h2 : l.held.length ≤ 4294967296) (s : ByteArray) : V 58 [eK l, .str s] = some (.tup [oK (sendF s l).1, .bool (sendF s l).2], []) := by
  have hs := v_spec_okK (l := l) (by omega) (by omega)
  have hs2 := v_spec_okK (l := sendL s l) (by simp only [sendL, List.length_append, List.length_cons, List.length_nil]; omega) (by simp only [sendL]; omega)
  have hc := v_copyKs (l := l) (by omega) h2
  have e : V 58 [eK l, .str s] = _ := espec_LinkSend l.sent l.acked (l.queue.map .str) l.got (l.held.map eP) s
  rw [e]
  have hq : l.queue.map D.str ++ [D.str s] = (l.queue ++ [s]).map D.str := by simp
  unfold eK at hs hs2 hc
  simp only [sendL] at hs2
  unfold oK at hc
  rw [ocall_some hs, asB_bool, unn_nil]
  unfold sendF
  cases hok : okK l with
  | false => rfl
  | true =>
    rw [Bool.not_true, br_false, ocall_some hc, asAgg_agg, unc_cons, asI_int, unc_cons, asI_int, unc_cons, asOs_os, unc_cons, asI_int, unc_cons, asOs_os, unn_nil, unn_nil, hq, grd_of (decide_eq_true (by simp only [ni, LIM_eq, List.length_append, List.length_map, List.length_cons, List.length_nil]; omega)), nam_eq, ocall_some hs2, asB_bool, unn_nil]
    simp only [if_true]
    cases hok2 : okK (sendL s l) with
    | true =>
      simp only [sendL] at hok2
      rw [hok2, Bool.not_true, br_false]
      rfl
    | false =>
      simp only [sendL] at hok2
      rw [hok2, Bool.not_false, br_true, ocall_some hc, asAgg_agg, unc_cons, asI_int, unc_cons, asI_int, unc_cons, asOs_os, unc_cons, asI_int, unc_cons, asOs_os, unn_nil, unn_nil]
      rfl

end Go.Eng
/-! what LinkTake of the reference comes to -/
namespace Go.Eng
open Go.Proofs Go.Proofs.Try

noncomputable def holdF (p : Pc) : List Pc → List Pc
  | [] => [p]
  | q :: r => if q.no ≥ p.no then (if q.no > p.no then p :: q :: r else q :: r) else q :: holdF p r
theorem holdF_length (p : Pc) : ∀ l, (holdF p l).length ≤ l.length + 1
  | [] => by simp [holdF]
  | q :: r => by
    have := holdF_length p r
    simp only [holdF]
    split
    · split <;> simp
    · simp; omega
theorem hold_true {l : List Pc} (hl : l.length < 4294967296) (n : Int) (s : ByteArray) : ∀ (k i : Nat) (acc : List Pc), i + k = l.length → acc.length ≤ i + 1 → Lspec_l10Hold_4 (l.map eP) true (i : Int) n s (acc.map eP) = some (.os (2, 0) ((acc ++ l.drop i).map eP), [])
  | 0, i, acc, hi, ha => by
    rw [Lspec_l10Hold_4_eq, br_not (by rw [List.length_map]; exact ge_idx (by omega)), List.drop_of_length_le (by omega), List.append_nil]
    rfl
  | k + 1, i, acc, hi, ha => by
    obtain ⟨x, hx⟩ := get_of_lt (l := l) (i := i) (by omega)
    have ih := hold_true hl n s k (i + 1) (acc ++ [x]) (by omega) (by simp; omega)
    have hlim : decide (ni (acc.map eP ++ [D.agg [.int .i64 x.no, .str x.text]]).length ≤ LIM) = true := decide_eq_true (by simp only [ni, LIM_eq, List.length_append, List.length_map, List.length_cons, List.length_nil]; omega)
    rw [Lspec_l10Hold_4_eq, br_of (by rw [List.length_map]; exact lt_idx (by omega)), Bool.not_true, br_false, grd_of (by rw [List.length_map]; exact in_idx (by omega)), Int.toNat_natCast, oget_map hx, eP_mk x]
    simp only [asI_int, asS_str, asAgg_agg, unc_cons, unn_nil, nam_eq]
    rw [grd_of hlim, w64s (by omega), drop_at hx]
    simpa [eP] using ih
theorem hold_false {l : List Pc} (hl : l.length < 4294967295) (p : Pc) : ∀ (k i : Nat) (acc : List Pc), i + k = l.length → acc.length ≤ i → Lspec_l10Hold_4 (l.map eP) false (i : Int) p.no p.text (acc.map eP) = some (.os (2, 0) ((acc ++ holdF p (l.drop i)).map eP), [])
  | 0, i, acc, hi, ha => by
    have hlim : decide (ni (acc.map eP ++ [D.agg [.int .i64 p.no, .str p.text]]).length ≤ LIM) = true := decide_eq_true (by simp only [ni, LIM_eq, List.length_append, List.length_map, List.length_cons, List.length_nil]; omega)
    rw [Lspec_l10Hold_4_eq, br_not (by rw [List.length_map]; exact ge_idx (by omega)), List.drop_of_length_le (by omega), Bool.not_false, br_true, grd_of hlim]
    simp [nam_eq, holdF, eP]
  | k + 1, i, acc, hi, ha => by
    obtain ⟨x, hx⟩ := get_of_lt (l := l) (i := i) (by omega)
    have hlim : decide (ni (acc.map eP ++ [D.agg [.int .i64 x.no, .str x.text]]).length ≤ LIM) = true := decide_eq_true (by simp only [ni, LIM_eq, List.length_append, List.length_map, List.length_cons, List.length_nil]; omega)
    have hlim2 : decide (ni (acc.map eP ++ [D.agg [.int .i64 p.no, .str p.text]]).length ≤ LIM) = true := decide_eq_true (by simp only [ni, LIM_eq, List.length_append, List.length_map, List.length_cons, List.length_nil]; omega)
    have hlim3 : decide (ni ((acc.map eP ++ [D.agg [.int .i64 p.no, .str p.text]]) ++ [D.agg [.int .i64 x.no, .str x.text]]).length ≤ LIM) = true := decide_eq_true (by simp only [ni, LIM_eq, List.length_append, List.length_map, List.length_cons, List.length_nil]; omega)
    have hidx : (decide (0 ≤ (i : Int)) && decide ((i : Int) < ni (l.map eP).length)) = true := by rw [List.length_map]; exact in_idx (by omega)
    rw [Lspec_l10Hold_4_eq, br_of (by rw [List.length_map]; exact lt_idx (by omega)), Bool.not_false, br_true]
    simp only [grd_of hidx, Int.toNat_natCast, oget_map hx, eP_mk x, asI_int, asS_str, asAgg_agg, unc_cons, unn_nil, nam_eq, oget_lit0, grd_of hlim, grd_of hlim2, grd_of hlim3]
    rw [w64s (by omega), drop_at hx]
    unfold holdF
    by_cases h1 : x.no ≥ p.no
    · rw [br_of (decide_eq_true h1), if_pos h1]
      by_cases h2 : x.no > p.no
      · rw [br_of (decide_eq_true h2), if_pos h2]
        have := hold_true (l := l) (by omega) p.no p.text k (i + 1) (acc ++ [p] ++ [x]) (by omega) (by simp; omega)
        simpa [eP] using this
      · rw [br_not (decide_eq_false h2), if_neg h2]
        have := hold_true (l := l) (by omega) p.no p.text k (i + 1) (acc ++ [x]) (by omega) (by simp; omega)
        simpa [eP] using this
    · rw [br_not (decide_eq_false h1), if_neg h1]
      have := hold_false hl p k (i + 1) (acc ++ [x]) (by omega) (by simp; omega)
      simpa [eP] using this
theorem v_hold {l : List Pc} (hl : l.length < 4294967295) (p : Pc) : V 42 [.rs (2, 0) (l.map eP), .agg [.int .i64 p.no, .str p.text]] = some (.os (2, 0) ((holdF p l).map eP), []) := by
  rw [espec_l10Hold]
  exact hold_false hl p l.length 0 [] (by omega) (by simp)

noncomputable def popF : Int → List Pc → List ByteArray × Int × List Pc
  | g, [] => ([], g, [])
  | g, q :: r => if q.no = g then (q.text :: (popF (g + 1) r).1, (popF (g + 1) r).2.1, (popF (g + 1) r).2.2) else ([], g, q :: r)
theorem popF_facts : ∀ (l : List Pc) (g : Int), g ≤ (popF g l).2.1 ∧ (popF g l).2.1 ≤ g + l.length ∧ (popF g l).2.2.length ≤ l.length ∧ ((popF g l).1.length : Int) = (popF g l).2.1 - g
  | [], g => by simp [popF]
  | q :: r, g => by
    have := popF_facts r (g + 1)
    simp only [popF]
    split
    · simp; omega
    · simp; omega
theorem pop_loop {l : List Pc} {q : List D} (hl : l.length < 4294967295) (z0 z1 z2 sent acked : Int) : ∀ (k i : Nat) (up : List ByteArray) (g : Int), i + k = l.length → up.length ≤ i + 1 → 0 ≤ g → g ≤ 100001 + i →
    Lspec_LinkTake_12v1 z0 z1 z2 (up.map .str) sent acked g i k q (l.map eP) = some (.tup [.agg [.int .i64 sent, .int .i64 acked, .os (1, 0) q, .int .i64 (popF g (l.drop i)).2.1, .os (2, 0) ((popF g (l.drop i)).2.2.map eP)], .os (1, 0) ((up ++ (popF g (l.drop i)).1).map .str)], [])
  | 0, i, up, g, hi, hu, hg, hg2 => by
    rw [Lspec_LinkTake_12v1_eq, br_not (by simp [ni]), grd_of (by simp [ni, LIM_eq, part]), nam_eq, List.drop_of_length_le (by omega)]
    simp [popF, part]
  | k + 1, i, up, g, hi, hu, hg, hg2 => by
    obtain ⟨x, hx⟩ := get_of_lt (l := l) (i := i) (by omega)
    have hb : (decide (0 ≤ 0) && decide ((0 : Int) < ni (k + 1)) && decide (i + (k + 1) ≤ (l.map eP).length)) = true := by simp [ni]; omega
    have hlim : decide (ni (up.map D.str ++ [D.str x.text]).length ≤ LIM) = true := decide_eq_true (by simp only [ni, LIM_eq, List.length_append, List.length_map, List.length_cons, List.length_nil]; omega)
    have hcut : cutOkX (k + 1) ((l.map eP).length - i) (some 1) none = true := by simp [cutOkX]; omega
    have hpart : part (l.map eP) (some (i, k + 1)) = (l.drop i).map eP := by
      simp only [part, ← List.map_drop, ← List.map_take]
      rw [List.take_of_length_le (by rw [List.length_drop]; omega)]
    have hlim2 : decide (ni ([] ++ part (l.map eP) (some (i, k + 1))).length ≤ LIM) = true := by rw [hpart]; exact decide_eq_true (by simp only [ni, LIM_eq, List.nil_append, List.length_map, List.length_drop]; omega)
    have hb0 : decide (ni (k + 1) > 0) = true := decide_eq_true (by simp only [ni]; omega)
    have e0 : i + Int.toNat 0 = i := rfl
    rw [Lspec_LinkTake_12v1_eq, br_of hb0, grd_of hb, e0, oget_map hx, eP_mk x, asAgg_agg, oget_lit0, asI_int, drop_at hx]
    unfold popF
    by_cases h : x.no = g
    · rw [br_of (by simp [h]), if_pos h, grd_of hb, oget_map hx, eP_mk x, asAgg_agg, oget_lit1, asS_str, grd_of hlim, nam_eq, grd_of hcut, w64 (by omega) (by omega)]
      have := pop_loop (q := q) hl z0 z1 z2 sent acked k (i + 1) (up ++ [x.text]) (g + 1) (by omega) (by simp; omega) (by omega) (by omega)
      simp only [List.map_append, List.map_cons, List.map_nil] at this
      refine this.trans ?_
      simp
    · rw [br_not (by simp [h]), if_neg h, grd_of hlim2, nam_eq, hpart, drop_at hx]
      simp
theorem pop_first {l : List Pc} {q : List D} (hl : l.length < 4294967295) (z0 z1 z2 sent acked : Int) (s : ByteArray) (g : Int) (hg : 0 ≤ g) (hg2 : g ≤ 100001) :
    Lspec_LinkTake_12 z0 z1 z2 [D.str s] sent acked g q (l.map eP) = some (.tup [.agg [.int .i64 sent, .int .i64 acked, .os (1, 0) q, .int .i64 (popF g l).2.1, .os (2, 0) ((popF g l).2.2.map eP)], .os (1, 0) ((s :: (popF g l).1).map .str)], []) := by
  cases l with
  | nil => rw [Lspec_LinkTake_12_eq, br_not (by rfl), grd_of (by simp [ni, LIM_eq]), nam_eq]; rfl
  | cons x r =>
    have hlen : r.length + 1 < 4294967295 := by simpa using hl
    have hb0 : decide (ni (List.map eP (x :: r)).length > 0) = true := decide_eq_true (by simp only [ni, List.map_cons, List.length_cons]; omega)
    have hb : (decide (0 ≤ 0) && decide ((0 : Int) < ni (List.map eP (x :: r)).length)) = true := by simp only [ni, List.map_cons, List.length_cons, Bool.and_eq_true, decide_eq_true_eq]; omega
    have hlim : decide (ni ([D.str s] ++ [D.str x.text]).length ≤ LIM) = true := decide_eq_true (by simp [ni, LIM_eq])
    have hcut : cutOk (List.map eP (x :: r)).length (some 1) none = true := by simp [cutOk]; omega
    have hlim2 : decide (ni ([] ++ List.map eP (x :: r)).length ≤ LIM) = true := decide_eq_true (by simp only [ni, LIM_eq, List.nil_append, List.length_map, List.length_cons]; omega)
    have hx : (x :: r)[0]? = some x := rfl
    rw [Lspec_LinkTake_12_eq, br_of hb0, grd_of hb, oget_map hx, eP_mk x, asAgg_agg, oget_lit0, asI_int]
    unfold popF
    by_cases h : x.no = g
    · rw [br_of (by simp [h]), if_pos h, grd_of hb, oget_map hx, eP_mk x, asAgg_agg, oget_lit1, asS_str, grd_of hlim, nam_eq, grd_of hcut, w64 (by omega) (by omega)]
      have := pop_loop (q := q) hl z0 z1 z2 sent acked r.length 1 [s, x.text] (g + 1) (by simp; omega) (by simp) (by omega) (by omega)
      have e1 : (List.map eP (x :: r)).length - Int.toNat 1 = r.length := by simp
      rw [e1]
      exact this
    · rw [br_not (by simp [h]), if_neg h, grd_of hlim2, nam_eq]
      rfl

noncomputable def upL (l : Lk) (p : Pc) : Lk × List ByteArray := ({ l with got := (popF (l.got + 1) l.held).2.1, held := (popF (l.got + 1) l.held).2.2 }, p.text :: (popF (l.got + 1) l.held).1)
noncomputable def takeF (l : Lk) (p : Pc) : Lk × List ByteArray :=
  if okK l then (if wi p.no l.got (mnI (l.got + 4) l.sent - 1) then (if p.no > l.got then ({ l with held := holdF p l.held }, []) else upL l p) else (l, [])) else (zK, [])
theorem takeF_length (l : Lk) (p : Pc) : (takeF l p).1.queue.length ≤ l.queue.length ∧ (takeF l p).1.held.length ≤ l.held.length + 1 ∧ (takeF l p).2.length ≤ l.held.length + 1 := by
  have h1 := holdF_length p l.held
  have h2 := popF_facts l.held (l.got + 1)
  unfold takeF
  split
  · split
    · split
      · simp; omega
      · simp [upL]; omega
    · simp
  · simp [zK]
theorem v_spec_take {l : Lk} (h1 : l.queue.length < 4294967295) (h2 : l.held.length < 4294967295) (p : Pc) : V 15 [eK l, .agg [.int .i64 p.no, .str p.text]] = some (.tup [oK (takeF l p).1, .os (1, 0) ((takeF l p).2.map .str)], []) := by
  have hs := v_spec_okK (l := l) (by omega) (by omega)
  have hc := v_copyKs (l := l) (by omega) (by omega)
  have e : V 15 [eK l, .agg [.int .i64 p.no, .str p.text]] = _ := espec_LinkTake l.sent l.acked (l.queue.map .str) l.got (l.held.map eP) p.no p.text
  rw [e]
  unfold eK at hs hc
  unfold oK at hc
  unfold takeF
  rw [ocall_some hs, asB_bool, unn_nil]
  cases hok : okK l with
  | false => rfl
  | true =>
    have hf := okK_facts hok
    have hm := mnI_le (l.got + 4) l.sent
    rw [Bool.not_true, br_false, ocall_some hc]
    simp only [asI_int, asOs_os, asAgg_agg, unc_cons, unn_nil]
    rw [w64 (n := l.got + 4) (by omega) (by omega), ocall_some (v_l1Min _ _)]
    simp only [asI_int, unn_nil]
    rw [w64 (n := mnI (l.got + 4) l.sent - 1) (by omega) (by omega), ocall_some (v_l1In _ _ _)]
    simp only [asB_bool, unn_nil, if_true]
    cases wi p.no l.got (mnI (l.got + 4) l.sent - 1) with
    | false => rfl
    | true =>
      rw [Bool.not_true, br_false, if_pos rfl]
      by_cases hp : p.no > l.got
      · rw [br_of (decide_eq_true hp), if_pos hp, ocall_some (v_hold (by omega) p)]
        simp only [asOs_os, unn_nil]
        rfl
      · rw [br_not (decide_eq_false hp), if_neg hp, w64 (by omega) (by omega)]
        rw [pop_first (l := l.held) (q := l.queue.map .str) (by omega) 0 0 0 l.sent l.acked p.text (l.got + 1) (by omega) (by omega), grd_of (by simp [ni, LIM_eq])]
        rfl
end Go.Eng
/-! slices.Insert at a row of pieces: the library's own text, walked: four roads -/
namespace Go.Eng
open Go.Proofs Go.Proofs.Try Go.Lib

theorem insInfo : ∃ i, Try.prog.info? 36 = some i ∧ i.size = 2 ∧ i.bytes = 24 ∧ i.zero = some (.agg #[.int .i64 0, .string ⟨#[]⟩]) := ⟨_, rfl, rfl, rfl, rfl⟩
theorem oneCell_of {v : Value} (h : notAgg v) : v.oneCell' = true := by cases v <;> first | rfl | exact h.elim
/-- copy over elements of so many cells -/
theorem run_copyN {P : Program} (w : World) (dT sT ty elem : TypeId) {sz : Nat} (b o dLen dCap : Nat) (a : Addr) (sLen sCap : Nat) (cs : List Value)
    (hu : P.underlying dT = some (.slice elem)) (hs : (P.info? elem).map (·.size) = some sz) {n : Nat} (hn : n = Nat.min sLen dLen) (hl : cs.length = n * sz)
    (hsrc : ∀ j v, cs[j]? = some v → w.cell? (a.add j) = some v) (hc : ∀ j, j < cs.length → (w.cell? ⟨b, o + j, none⟩).isSome = true) (hf : ∀ j, j < cs.length → w.frozen? ⟨b, o + j, none⟩ = false) (h1 : ∀ v ∈ cs, v.oneCell' = true) :
    (Builtin.copy_ #[dT, sT] ty #[.slice (some ⟨b, o, none⟩) dLen dCap, .slice (some a) sLen sCap]).run P w = .ok (goInt n) (w.setCells b o cs) := by
  have hld := run_loadCells_list (P := P) w a cs hsrc
  have hst := run_storeCells_cells (P := P) b o cs 0 w (by simpa using hc) (by simpa using hf) h1
  rw [hl] at hld
  cases hq : P.info? elem with
  | none => simp [hq] at hs
  | some i =>
    have hi : i.size = sz := by simpa [hq] using hs
    simp [Builtin.copy_, run_underlying hu, Builtin.lenOf, Builtin.firstCells, sizeOf, typeInfo, hq, hi, ← hn, hld, hst]
set_option maxHeartbeats 4000000 in
set_option maxRecDepth 100000 in
/-- at the end, no room -/
theorem ins_end_new (base : Option Addr) (n c : Nat) (va : Addr) (vc : Nat) (w : World) (v' : Value) (w1 : World)
    (hr : (Builtin.append_ #[25, 25] 25 #[.slice base n c, .slice (some va) 1 vc]).run Try.prog w = .ok v' w1) :
    Calls Try.prog 32 #[.slice base n c, .int .i64 n, .slice (some va) 1 vc] w fun e w' => e = .returned v' ∧ w' = w1 := by
  go_enter Try.func32, Try.ntmps32
  go_wp2_with (at_builtin; refine Lib.wpList_append_run _ rfl _ _ _ _ rfl _ _ rfl rfl _ _ hr ?_)
  all_goals (go_ret; exact ⟨rfl, rfl⟩)
set_option maxHeartbeats 4000000 in
set_option maxRecDepth 100000 in
/-- there is room, not at the end -/
theorem ins_shift (b off n c i : Nat) (va : Addr) (vc : Nat) (cs vs : List Value) (w : World) (hi : i < n) (hroom : n + 1 ≤ c) (hc63 : n ≤ 1000)
    (hov : ∀ lb cb, (callFunc 51 #[.slice (some va) 1 vc, .slice (some ⟨b, off + (i + 1) * 2, none⟩) lb cb]).run Try.prog w = .ok (.value (.bool false)) w)
    {k1 : Nat} (hcp1 : ∀ ty dc sc, (Builtin.copy_ #[25, 25] ty #[.slice (some ⟨b, off + (i + 1) * 2, none⟩) (n - i) dc, .slice (some ⟨b, off + i * 2, none⟩) (n + 1 - i) sc]).run Try.prog w.drew = .ok (goInt k1) (w.drew.setCells b (off + (i + 1) * 2) cs))
    {k2 : Nat} (hcp2 : ∀ W : World, (∀ x, W.cell? x = (w.drew.setCells b (off + (i + 1) * 2) cs).cell? x) → (∀ x, W.frozen? x = (w.drew.setCells b (off + (i + 1) * 2) cs).frozen? x) → ∀ ty dc, (Builtin.copy_ #[25, 25] ty #[.slice (some ⟨b, off + i * 2, none⟩) (n + 1 - i) dc, .slice (some va) 1 vc]).run Try.prog W = .ok (goInt k2) (W.setCells b (off + i * 2) vs)) :
    Calls Try.prog 32 #[.slice (some ⟨b, off, none⟩) n c, .int .i64 i, .slice (some va) 1 vc] w fun e w' => e = .returned (.slice (some ⟨b, off, none⟩) (n + 1) c) ∧ w' = (w.drew.setCells b (off + (i + 1) * 2) cs).setCells b (off + i * 2) vs := by
  have mixed : Try.prog.follows .mixedOrders = true := by kernel_rfl
  have hz2 : ¬ ((i : Int) = (n : Int)) := by omega
  have hw1 : IntKind.i64.wrap ((i : Int) + 1) = (i : Int) + 1 := by rw [IntKind.wrap_i64]; omega
  have hwn : IntKind.i64.wrap ((n : Int) + 1) = (n : Int) + 1 := by rw [IntKind.wrap_i64]; omega
  have hb1 : (0 : Int) ≤ (i : Int) + 1 := by omega
  have hin : i ≤ n := by omega
  have htn : ((i : Int) + 1).toNat = i + 1 := by omega
  have htn2 : ((n : Int) + 1).toNat = n + 1 := by omega
  have hb2 : ¬ (c = i + 1) := by omega
  have hb3 : (i : Int) ≤ (n : Int) + 1 := by omega
  have hb4 : ¬ (c = i) := by omega
  have hb5 : ¬ ((c : Int) < (n : Int) + 1) := by omega
  obtain ⟨W1, hW1⟩ : ∃ W1, W1 = w.drew.setCells b (off + (i + 1) * 2) cs := ⟨_, rfl⟩
  rw [← hW1] at hcp1 hcp2 ⊢
  go_enter Try.func32, Try.ntmps32
  go_wp2_with (first
    | (simp only [hov])
    | (at_builtin; refine wpList_copy_runI _ rfl _ _ 25 25 rfl _ _ rfl rfl (hcp2 _ (fun _ => rfl) (fun _ => rfl) _ _) ?_))
  go_region_law_o (refine step_copy_runI rfl _ _ 25 25 rfl _ _ (by simp [Act.eval, Act.put]) (by simp [Act.eval, Act.put]) (hcp1 _ _ _) ?_)
  go_wp2_with (at_builtin; refine wpList_copy_runI _ rfl _ _ 25 25 rfl _ _ rfl rfl (hcp2 _ (fun _ => rfl) (fun _ => rfl) _ _) ?_)
  go_ret
  first | exact ⟨rfl, rfl⟩ | exact ⟨rfl, by rw [hW1]⟩
set_option maxHeartbeats 4000000 in
set_option maxRecDepth 100000 in
/-- no room, not at the end -/
theorem ins_grow (b off n c i N G : Nat) (va : Addr) (vc : Nat) (cs vs : List Value) (w W1 : World) (hi : i < n) (hnc : n ≤ c) (hroom : c < n + 1) (hG : n + 1 ≤ G) (hc63 : G ≤ 9223372036854775807) (hn63 : n ≤ 1000)
    (hrz : ∀ ty, (Builtin.append_ #[25, 3] ty #[.slice (some ⟨b, off, none⟩) i c, .int .i64 ((n : Int) + 1 - (i : Int))]).run Try.prog w = .ok (.slice (some ⟨N, 0, none⟩) (n + 1) G) W1)
    {k1 : Nat} (hcpA : ∀ W : World, (∀ x, W.cell? x = W1.cell? x) → (∀ x, W.frozen? x = W1.frozen? x) → ∀ ty dc, (Builtin.copy_ #[25, 25] ty #[.slice (some ⟨N, i * 2, none⟩) (n + 1 - i) dc, .slice (some va) 1 vc]).run Try.prog W = .ok (goInt k1) (W.setCells N (i * 2) vs))
    {k2 : Nat} (hcpB : ∀ W : World, (∀ x, W.cell? x = (W1.setCells N (i * 2) vs).cell? x) → (∀ x, W.frozen? x = (W1.setCells N (i * 2) vs).frozen? x) → ∀ ty dc sc, (Builtin.copy_ #[25, 25] ty #[.slice (some ⟨N, (i + 1) * 2, none⟩) (n - i) dc, .slice (some ⟨b, off + i * 2, none⟩) (n - i) sc]).run Try.prog W = .ok (goInt k2) (W.setCells N ((i + 1) * 2) cs)) :
    Calls Try.prog 32 #[.slice (some ⟨b, off, none⟩) n c, .int .i64 i, .slice (some va) 1 vc] w fun e w' => e = .returned (.slice (some ⟨N, 0, none⟩) (n + 1) G) ∧ w' = ((W1.setCells N (i * 2) vs).drew.setCells N ((i + 1) * 2) cs) := by
  have mixed : Try.prog.follows .mixedOrders = true := by kernel_rfl
  have hz2 : ¬ ((i : Int) = (n : Int)) := by omega
  have hw1 : IntKind.i64.wrap ((i : Int) + 1) = (i : Int) + 1 := by rw [IntKind.wrap_i64]; omega
  have hwn : IntKind.i64.wrap ((n : Int) + 1) = (n : Int) + 1 := by rw [IntKind.wrap_i64]; omega
  have hwni : IntKind.i64.wrap ((n : Int) + 1 - (i : Int)) = (n : Int) + 1 - (i : Int) := by rw [IntKind.wrap_i64]; omega
  have hb1 : (0 : Int) ≤ (i : Int) + 1 := by omega
  have hin : i ≤ n := by omega
  have hic : i ≤ c := by omega
  have htn : ((i : Int) + 1).toNat = i + 1 := by omega
  have hb2 : ¬ (G = i + 1) := by omega
  have hb6 : ¬ (G = i) := by omega
  have hb3 : (i : Int) ≤ (n : Int) + 1 := by omega
  have hb3' : (i : Int) ≤ (n : Int) := by omega
  have hb4 : ¬ (c = i) := by omega
  have hb5 : (c : Int) < (n : Int) + 1 := by omega
  have hcpB' := fun ty dc sc => hcpB ((W1.setCells N (i * 2) vs).drew) (fun _ => rfl) (fun _ => rfl) ty dc sc
  go_enter Try.func32, Try.ntmps32
  go_wp2_with (first
    | (at_builtin; refine Lib.wpList_append_run _ rfl _ _ _ _ rfl _ _ rfl rfl _ _ (hrz _) ?_)
    | (at_builtin; refine wpList_copy_runI _ rfl _ _ 25 25 rfl _ _ rfl rfl (hcpA _ (fun _ => rfl) (fun _ => rfl) _ _) ?_))
  go_region_law_o (refine step_copy_runI rfl _ _ 25 25 rfl _ _ (by simp [Act.eval, Act.put]) (by simp [Act.eval, Act.put]) (hcpB _ (fun _ => rfl) (fun _ => rfl) _ _ _) ?_)
  go_wp2
  go_ret
  exact ⟨rfl, rfl⟩
end Go.Eng
/-! slices.Insert of one piece: what it comes to, told -/
namespace Go.Eng
open Go.Proofs Go.Proofs.Try Go.Lib
set_option maxHeartbeats 4000000

theorem cell_of {w : World} {b j : Nat} {c : Array Value} {ty : TypeId} {fr : Nat × Nat} (h : w.heap[b]? = some (.cells c ty fr)) (hj : j < c.size) : (w.cell? ⟨b, j, none⟩).isSome = true := by
  simp [World.cell?, h, hj]
theorem frz_of {w : World} {b j n : Nat} {c : Array Value} {ty : TypeId} {fr : Nat × Nat} (h : w.heap[b]? = some (.cells c ty fr)) (hu : unfr n fr) (hj : j < n) : w.frozen? ⟨b, j, none⟩ = false := by
  have := hu j hj
  simp only [World.frozen?, h]
  rw [Bool.and_eq_false_iff]
  by_cases h1 : fr.1 ≤ j
  · right; simp; omega
  · left; simpa using h1
theorem setCells_wr {w : World} {b lo : Nat} {vs : List Value} {c : Array Value} {ty : TypeId} {fr : Nat × Nat} (h : w.heap[b]? = some (.cells c ty fr)) (hu : unfr c.size fr) (hl : lo + vs.length ≤ c.size) (hv : ∀ v ∈ vs, notAgg v) : Wr b lo vs w (w.setCells b lo vs) := by
  obtain ⟨w', hr, hw⟩ := storeCells_run (P := Try.prog) (o := lo) vs 0 c w h hu (by omega) hv
  have := run_storeCells_cells (P := Try.prog) b lo vs 0 w (fun j hj => cell_of h (by omega)) (fun j hj => frz_of h hu (by omega)) (fun v hm => oneCell_of (hv v hm))
  rw [hr] at this
  injection this with _ e
  rw [Nat.add_zero] at e hw
  rw [← e]; exact hw
theorem els_split {w : World} {B : Nat → Prop} {z : Z} {fs : List D} : ∀ {es : List D} {fl : List Value} {o : List Res}, elsRep w B z (es ++ fs) fl o → ∃ f1 f2 o1 o2, fl = f1 ++ f2 ∧ o = o1 ++ o2 ∧ elsRep w B z es f1 o1 ∧ elsRep w B z fs f2 o2
  | [], fl, o, h => ⟨[], fl, [], o, rfl, rfl, ⟨rfl, rfl⟩, h⟩
  | e :: es, fl, o, h => by
    obtain ⟨vs, fr, o1, o2, rfl, rfl, h1, h2⟩ := h
    obtain ⟨f1, f2, p1, p2, rfl, rfl, h3, h4⟩ := els_split h2
    exact ⟨vs ++ f1, f2, o1 ++ p1, p2, by simp, by simp, ⟨vs, f1, o1, p1, rfl, rfl, h1, h3⟩, h4⟩
theorem os_rep {w : World} {B : Nat → Prop} {b off n cap : Nat} {c : Array Value} {ty : TypeId} {fr : Nat × Nat} {z : Z} {xs : List D} {fl : List Value} (hh : w.heap[b]? = some (.cells c ty fr)) (hu : unfz z c.size fr) (hc : off + cap * z.1 ≤ c.size) (hn : xs.length = n) (hcap : n ≤ cap) (he : elsRep w B z xs fl []) (hcell : cellsAt w b off fl) :
    repD w B (.os z xs) (.slice (some ⟨b, off, none⟩) n cap) [.arr b] := by
  simp only [repD]
  exact .inr ⟨b, off, cap, c, ty, fr, [], by rw [hn], by omega, hh, hu, fun _ => hc, repEs_of_els he hcell, rfl⟩
theorem wr_heap {b lo : Nat} {vs : List Value} {w w' : World} {c : Array Value} {ty : TypeId} {fr : Nat × Nat} (h : Wr b lo vs w w') (hh : w.heap[b]? = some (.cells c ty fr)) : ∃ c', w'.heap[b]? = some (.cells c' ty fr) ∧ c'.size = c.size := by
  obtain ⟨h1, h2, h3, h4, c0, ty0, fr0, c', h5, h6, h7, h8, h9⟩ := h
  rw [hh] at h5; cases h5
  exact ⟨c', h6, h7⟩
theorem wr_drew {b lo : Nat} {vs : List Value} {w w' : World} (h : Wr b lo vs w.drew w') : Wr b lo vs w w' := ⟨h.os, h.out, h.size, h.other, h.cells⟩
theorem wr_step {o : List Res} {w0 w w' : World} {b lo : Nat} {vs : List Value} (h : Chg o w0 w) (hw : Wr b lo vs w w') (hb : w0.heap.size ≤ b ∨ .arr b ∈ o) : Chg o w0 w' := by
  refine h.step hw.chg fun r hr => ?_
  rw [List.mem_singleton] at hr
  subst hr
  rcases hb with hb | hb
  · exact .inl hb
  · refine .inr ⟨List.mem_map.2 ⟨_, hb, rfl⟩, fun j hj => ⟨_, hb, rfl⟩⟩
/-- what slices.Insert has done -/
noncomputable def InsDone (w : World) (B : Nat → Prop) (o : List Res) (xs : List D) (v : Value) (w' : World) : Prop := ∃ b, repD w' B (.os (2, 0) xs) v [.arr b] ∧ Chg o w w' ∧ ¬ B b ∧ b < w'.heap.size ∧ okR w o (.arr b)
theorem ins_hov {w : World} {vb voff vc b off lb cb : Nat} {cv c : Array Value} {tyv ty : TypeId} {frv fr : Nat × Nat} (hne : vb ≠ b) (hv : w.heap[vb]? = some (.cells cv tyv frv)) (huv : unfr (cv.size + 1) frv) (hvs : voff < cv.size) (hb : w.heap[b]? = some (.cells c ty fr)) (hc : c.size ≠ 0) :
    (callFunc 51 #[.slice (some ⟨vb, voff, none⟩) 1 vc, .slice (some ⟨b, off, none⟩) lb cb]).run Try.prog w = .ok (.value (.bool false)) w := by
  rw [run_callFunc_extern Try.func51 (by kernel_rfl) (by kernel_rfl) (by kernel_rfl) (e := Extern.SlicesOverlaps.overlaps #[25, 25] #[4]) (by kernel_rfl),
    Lib.run_overlaps_apart w 25 4 36 Try.underlying25 2 Try.sizeOf36 ⟨vb, voff, none⟩ ⟨b, off, none⟩ 1 vc lb cb hne tyv ty cv.size c.size (by simp [World.shape?, hv]) (by simp [World.shape?, hb]) hc (frz_of hv huv (by omega)) (frz_of hv huv (by omega))]
  rfl
section
variable {w : World} {B : Nat → Prop} {o : List Res} {vb voff vc : Nat} {cv : Array Value} {tyv : TypeId} {frv : Nat × Nat} {vs : List Value} {y : D}
theorem same_B {w' : World} (hch : Chg o w w') (hB : ∀ b, B b → b < w.heap.size) (hoB : ∀ q ∈ o, ¬ B q.blk) : Same w w' B [] := by
  intro b hb
  rcases hb with hb | hb
  · refine hch.same b (hB b hb) ?_
    intro hm
    obtain ⟨q, hq, e⟩ := List.mem_map.1 hm
    exact hoB q hq (e ▸ hb)
  · simp [blks] at hb
theorem ins_len {w : World} {B : Nat → Prop} {xs : List D} {fl : List Value} {o : List Res} (h : elsRep w B (2, 0) xs fl o) : fl.length = xs.length * 2 := elsRep_length h
/-- a new row -/
theorem done_new {w' : World} {c : Array Value} {ty : TypeId} {xs : List D} {fl : List Value} {n cap : Nat} (hW : Chg o w w') (hh : w'.heap[w.heap.size]? = some (.cells c ty (0, 0))) (hsz : w.heap.size < w'.heap.size) (hc : cap * 2 ≤ c.size) (hn : xs.length = n) (hcap : n ≤ cap) (he : elsRep w B (2, 0) xs fl []) (hcell : cellsAt w' w.heap.size 0 fl)
    (hB : ∀ b, B b → b < w.heap.size) (hoB : ∀ q ∈ o, ¬ B q.blk) : InsDone w B o xs (.slice (some ⟨w.heap.size, 0, none⟩) n cap) w' := by
  refine ⟨w.heap.size, os_rep hh (unfz_zero _ _) (by omega) hn hcap (elsRep_frame (fun _ h => h) (same_B hW hB hoB) he) hcell, hW, fun hb => ?_, hsz, .inl (Nat.le_refl _)⟩
  have := hB _ hb
  omega
/-- behind all, where there is no room -/
theorem ins_new_end {base : Option Addr} {n cap : Nat} {xs : List D} {cs : List Value} (hB : ∀ b, B b → b < w.heap.size) (hoB : ∀ q ∈ o, ¬ B q.blk)
    (hv : cellsAt w vb voff vs) (hev : elsRep w B (2, 0) [y] vs []) (hes : elsRep w B (2, 0) xs cs []) (hn : xs.length = n) (hcs : n ≠ 0 → ∃ b off, base = some ⟨b, off, none⟩ ∧ cellsAt w b off cs) (hroom : cap < n + 1) (hlim : n ≤ 1000) :
    Calls Try.prog 32 #[.slice base n cap, .int .i64 n, .slice (some ⟨vb, voff, none⟩) 1 vc] w fun e w' => ∃ v, e = .returned v ∧ InsDone w B o (xs ++ [y]) v w' := by
  obtain ⟨i, hi, hs, hb, hz⟩ := insInfo
  have lv := ins_len hev
  have lc := ins_len hes
  have same : ∀ {w' : World} {b off : Nat} {l : List Value}, (∀ b o, w'.cell? ⟨b, o, none⟩ = w.cell? ⟨b, o, none⟩) → cellsAt w b off l → cellsAt w' b off l := fun h hc j v hj => (h _ _).trans (hc j v hj)
  obtain ⟨c0, cap0, hrun, hle, ⟨rest, hrest⟩, hsize⟩ := append_new (P := Try.prog) (w := w) (t := 25) (u := 25) (ty := 25) (x := .slice (some ⟨vb, voff, none⟩) 1 vc) (m := 1) (olds := cs) (news := vs) (base := base) (sLen := n) (sCap := cap) Try.underlying25 hi hz Try.underlying25 (fun k => by simp) rfl
    (fun w' h => firstCells_run (by rw [hs]; simpa using lv) (fun _ => ⟨vb, voff, rfl, same h hv⟩)) (fun w' h => firstCells_run (by rw [hs, lc, hn]) (fun h0 => by obtain ⟨b, off, e, hc⟩ := hcs h0; exact ⟨b, off, e, same h hc⟩)) hroom (by omega) (by omega)
  refine Calls.mono (ins_end_new base n cap ⟨vb, voff, none⟩ vc w _ _ hrun) fun e w' he => ?_
  obtain ⟨rfl, rfl⟩ := he
  have hN := New.drewAlloc w c0 36 (0, 0)
  have hz2 : (Value.agg #[.int .i64 0, .string ⟨#[]⟩]).cells.size = 2 := rfl
  rw [hz2, lv, lc, hn] at hsize
  refine ⟨_, rfl, done_new (c := c0) (ty := 36) (fl := cs ++ vs) (hN.chg o) hN.new (by rw [hN.size]; omega) ?_ (by simp [hn]) hle (elsRep_append hes hev) ?_ hB hoB⟩
  · simp only [List.length_cons, List.length_nil] at hsize
    omega
  · have := cellsAt_new hN.new
    rw [hrest] at this
    exact (cellsAt_append.1 this).1
/-- behind all, where there is room -/
theorem ins_room_end {b off n cap : Nat} {c : Array Value} {ty : TypeId} {fr : Nat × Nat} {xs : List D} {cs : List Value} (hB : ∀ b, B b → b < w.heap.size) (hoB : ∀ q ∈ o, ¬ B q.blk) (hbo : .arr b ∈ o)
    (hh : w.heap[b]? = some (.cells c ty fr)) (hu : unfz (2, 0) c.size fr) (hc : off + cap * 2 ≤ c.size) (hcell : cellsAt w b off cs)
    (hv : cellsAt w vb voff vs) (hev : elsRep w B (2, 0) [y] vs []) (hes : elsRep w B (2, 0) xs cs []) (hn : xs.length = n) (hroom : n + 1 ≤ cap) :
    Calls Try.prog 32 #[.slice (some ⟨b, off, none⟩) n cap, .int .i64 n, .slice (some ⟨vb, voff, none⟩) 1 vc] w fun e w' => ∃ v, e = .returned v ∧ InsDone w B o (xs ++ [y]) v w' := by
  obtain ⟨i, hi, hs, hb, hz⟩ := insInfo
  have lv := ins_len hev
  have lc := ins_len hes
  rw [List.length_cons, List.length_nil] at lv
  have hst := run_storeCells_cells (P := Try.prog) b (off + n * 2) vs 0 w (fun j hj => cell_of hh (by omega)) (fun j hj => frz_of hh hu.1 (by omega)) (fun v hm => oneCell_of (els_notAgg hev v hm))
  rw [Nat.add_zero] at hst
  have hrun : (Builtin.append_ #[25, 25] 25 #[.slice (some ⟨b, off, none⟩) n cap, .slice (some ⟨vb, voff, none⟩) 1 vc]).run Try.prog w = .ok (.slice (some ⟨b, off, none⟩) (n + 1) cap) (w.setCells b (off + n * 2) vs) := by
    rw [append_room (P := Try.prog) (w := w) (news := vs) Try.underlying25 hi Try.underlying25 (fun k => by simp) rfl (firstCells_run (by rw [hs]; omega) (fun _ => ⟨vb, voff, rfl, hv⟩)) hroom]
    simp only [hs, add_at, hst, Result.andThen_ok]
  refine Calls.mono (ins_end_new _ n cap ⟨vb, voff, none⟩ vc w _ _ hrun) fun e w' he => ?_
  obtain ⟨rfl, rfl⟩ := he
  have hw := setCells_wr (lo := off + n * 2) (vs := vs) hh hu.1 (by omega) (els_notAgg hev)
  obtain ⟨c', hh', hsz⟩ := wr_heap hw hh
  have hch := wr_step (Chg.refl o w) hw (.inr hbo)
  have hbs : ∀ q ∈ o, True := fun _ _ => trivial
  refine ⟨_, rfl, b, os_rep hh' (by rw [hsz]; exact hu) (by rw [hsz]; exact hc) (by simp [hn]) hroom (elsRep_append (elsRep_frame (fun _ h => h) (same_B hch hB hoB) hes) (elsRep_frame (fun _ h => h) (same_B hch hB hoB) hev)) (cellsAt_append.2 ⟨hw.keep hcell (.inl (by omega)), ?_⟩), hch, hoB _ hbo, ?_, .inr ⟨List.mem_map.2 ⟨_, hbo, rfl⟩, fun j hj => ⟨_, hbo, hj⟩⟩⟩
  · rw [lc, hn]; exact hw.cellsAt
  · exact lt_size_of hh'
/-- not behind all, where there is room -/
theorem ins_room_mid {b off n cap i : Nat} {c : Array Value} {ty : TypeId} {fr : Nat × Nat} {xs1 xs2 : List D} {f1 f2 : List Value} (hB : ∀ b, B b → b < w.heap.size) (hoB : ∀ q ∈ o, ¬ B q.blk) (hbo : .arr b ∈ o) (hne : vb ≠ b)
    (hh : w.heap[b]? = some (.cells c ty fr)) (hu : unfz (2, 0) c.size fr) (hc : off + cap * 2 ≤ c.size) (hcell : cellsAt w b off (f1 ++ f2))
    (hvh : w.heap[vb]? = some (.cells cv tyv frv)) (huv : unfz (2, 0) cv.size frv) (hvl : voff + 2 ≤ cv.size)
    (hv : cellsAt w vb voff vs) (hev : elsRep w B (2, 0) [y] vs []) (he1 : elsRep w B (2, 0) xs1 f1 []) (he2 : elsRep w B (2, 0) xs2 f2 []) (hn1 : xs1.length = i) (hn2 : i + xs2.length = n) (hi : i < n) (hroom : n + 1 ≤ cap) (hlim : n ≤ 1000) :
    Calls Try.prog 32 #[.slice (some ⟨b, off, none⟩) n cap, .int .i64 i, .slice (some ⟨vb, voff, none⟩) 1 vc] w fun e w' => ∃ v, e = .returned v ∧ InsDone w B o (xs1 ++ y :: xs2) v w' := by
  have hs2 : (Try.prog.info? 36).map (·.size) = some 2 := by obtain ⟨i, hi, hs, _⟩ := insInfo; rw [hi]; simp [hs]
  have lv := ins_len hev
  have l1 := ins_len he1
  have l2 := ins_len he2
  rw [List.length_cons, List.length_nil] at lv
  obtain ⟨hc1, hc2⟩ := cellsAt_append.1 hcell
  rw [l1, hn1] at hc2
  have nv := els_notAgg hev
  have n2 := els_notAgg he2
  have hk : ((n - i : Nat) : Int) = (n : Int) - i := by omega
  have hw1 : Wr b (off + (i + 1) * 2) f2 w (w.drew.setCells b (off + (i + 1) * 2) f2) := wr_drew (setCells_wr (w := w.drew) hh hu.1 (by omega) n2)
  obtain ⟨c1, hh1, hsz1⟩ := wr_heap hw1 hh
  have hu1 : unfr c1.size fr := by rw [hsz1]; exact hu.1
  have hw2 : Wr b (off + i * 2) vs (w.drew.setCells b (off + (i + 1) * 2) f2) ((w.drew.setCells b (off + (i + 1) * 2) f2).setCells b (off + i * 2) vs) := setCells_wr hh1 (by rw [hsz1]; exact hu.1) (by omega) nv
  obtain ⟨c2, hh2, hsz2⟩ := wr_heap hw2 hh1
  have hch := wr_step (wr_step (Chg.refl o w) hw1 (.inr hbo)) hw2 (.inr hbo)
  have hcp1 : ∀ ty dc sc, (Builtin.copy_ #[25, 25] ty #[.slice (some ⟨b, off + (i + 1) * 2, none⟩) (n - i) dc, .slice (some ⟨b, off + i * 2, none⟩) (n + 1 - i) sc]).run Try.prog w.drew = .ok (goInt ((n - i : Nat) : Int)) (w.drew.setCells b (off + (i + 1) * 2) f2) := fun ty dc sc =>
    run_copyN w.drew _ _ ty 36 b _ _ dc _ _ sc f2 Try.underlying25 hs2 (Nat.min_eq_right (by omega)).symm (by omega) (fun j v hj => by rw [add_at]; exact hc2 j v hj) (fun j hj => cell_of (w := w.drew) hh (by omega)) (fun j hj => frz_of (w := w.drew) hh hu.1 (by omega)) (fun v hm => oneCell_of (n2 v hm))
  have hcp2 : ∀ W : World, (∀ x, W.cell? x = (w.drew.setCells b (off + (i + 1) * 2) f2).cell? x) → (∀ x, W.frozen? x = (w.drew.setCells b (off + (i + 1) * 2) f2).frozen? x) → ∀ ty dc, (Builtin.copy_ #[25, 25] ty #[.slice (some ⟨b, off + i * 2, none⟩) (n + 1 - i) dc, .slice (some ⟨vb, voff, none⟩) 1 vc]).run Try.prog W = .ok (goInt ((1 : Nat) : Int)) (W.setCells b (off + i * 2) vs) := fun W hWc hWf ty dc =>
    run_copyN W _ _ ty 36 b _ _ dc _ _ vc vs Try.underlying25 hs2 (Nat.min_eq_left (by omega)).symm (by omega)
      (fun j v hj => by
        rw [add_at, hWc]
        have := hv j v hj
        rw [← this]
        exact cell_same (hw1.other vb hne))
      (fun j hj => by rw [hWc]; exact cell_of hh1 (by rw [hsz1]; rw [lv] at hj; omega)) (fun j hj => by rw [hWf]; exact frz_of hh1 hu1 (by rw [hsz1]; rw [lv] at hj; omega)) (fun v hm => oneCell_of (nv v hm))
  refine Calls.mono (ins_shift b off n cap i ⟨vb, voff, none⟩ vc f2 vs w hi hroom hlim (fun lb cb => ins_hov hne hvh (huv.2 (by decide)) (by omega) hh (by omega)) hcp1 hcp2) fun e w' he => ?_
  obtain ⟨rfl, rfl⟩ := he
  have fr := fun {xs fl} (h : elsRep w B (2, 0) xs fl []) => elsRep_frame (fun _ h => h) (same_B hch hB hoB) h
  refine ⟨_, rfl, b, os_rep (fl := f1 ++ (vs ++ f2)) hh2 (by rw [hsz2, hsz1]; exact hu) (by rw [hsz2, hsz1]; exact hc) (by simp; omega) hroom (elsRep_append (fr he1) (elsRep_append (es := [y]) (fr hev) (fr he2))) (cellsAt_append.2 ⟨hw2.keep (hw1.keep hc1 (.inl (by omega))) (.inl (by omega)), cellsAt_append.2 ⟨?_, ?_⟩⟩), hch, hoB _ hbo, lt_size_of hh2, .inr ⟨List.mem_map.2 ⟨_, hbo, rfl⟩, fun j hj => ⟨_, hbo, hj⟩⟩⟩
  · rw [l1, hn1]; exact hw2.cellsAt
  · rw [l1, hn1, lv, show off + i * 2 + (0 + 1) * 2 = off + (i + 1) * 2 by omega]
    exact hw2.keep hw1.cellsAt (.inr (by omega))
/-- not behind all, where there is no room -/
theorem ins_new_mid {b off n cap i : Nat} {xs1 xs2 : List D} {f1 f2 : List Value} (hB : ∀ b, B b → b < w.heap.size) (hoB : ∀ q ∈ o, ¬ B q.blk) (hbl : b < w.heap.size) (hvbl : vb < w.heap.size)
    (hcell : cellsAt w b off (f1 ++ f2))
    (hv : cellsAt w vb voff vs) (hev : elsRep w B (2, 0) [y] vs []) (he1 : elsRep w B (2, 0) xs1 f1 []) (he2 : elsRep w B (2, 0) xs2 f2 []) (hn1 : xs1.length = i) (hn2 : i + xs2.length = n) (hi : i < n) (hnc : n ≤ cap) (hroom : cap < n + 1) (hlim : n ≤ 1000) :
    Calls Try.prog 32 #[.slice (some ⟨b, off, none⟩) n cap, .int .i64 i, .slice (some ⟨vb, voff, none⟩) 1 vc] w fun e w' => ∃ v, e = .returned v ∧ InsDone w B o (xs1 ++ y :: xs2) v w' := by
  obtain ⟨i0, hi0, hs, hby, hz⟩ := insInfo
  have hs2 : (Try.prog.info? 36).map (·.size) = some 2 := by rw [hi0]; simp [hs]
  have lv := ins_len hev
  have l1 := ins_len he1
  have l2 := ins_len he2
  rw [List.length_cons, List.length_nil] at lv
  obtain ⟨hc1, hc2⟩ := cellsAt_append.1 hcell
  rw [l1, hn1] at hc2
  have nv := els_notAgg hev
  have n2 := els_notAgg he2
  have hkk : (n : Int) + 1 - (i : Int) = ((n + 1 - i : Nat) : Int) := by omega
  have hik : i + (n + 1 - i) = n + 1 := by omega
  have hold : (Builtin.firstCells i0.size i (.slice (some ⟨b, off, none⟩) i cap)).run Try.prog w.drew = .ok f1.toArray w.drew := firstCells_run (by rw [hs, l1, hn1]) (fun _ => ⟨b, off, rfl, fun j v hj => hc1 j v hj⟩)
  have hfit : Builtin.nextslicecap (n + 1) cap * i0.bytes ≤ 281474976710656 := by
    have := nextcap_le (need := n + 1) (cap := cap) (by omega)
    rw [hby]; omega
  have hz2 : (Value.agg #[.int .i64 0, .string ⟨#[]⟩]).cells.size = 2 := rfl
  have hrz : ∀ ty, (Builtin.append_ #[25, 3] ty #[.slice (some ⟨b, off, none⟩) i cap, .int .i64 ((n : Int) + 1 - (i : Int))]).run Try.prog w =
      .ok (.slice (some ⟨w.heap.size, 0, none⟩) (n + 1) (grownCap w (n + 1) cap 36)) (w.drew.alloc (.cells (f1.toArray ++ Builtin.zeroCells (Value.agg #[.int .i64 0, .string ⟨#[]⟩]).cells (n + 1 - i) ++ Builtin.zeroCells (Value.agg #[.int .i64 0, .string ⟨#[]⟩]).cells (grownCap w (n + 1) cap 36 - (n + 1))) 36)) := fun ty => by
    have h := Lib.run_append_grow_zeros w 25 3 ty 36 i0 _ .i64 .i64 Try.underlying25 Try.underlying3 hi0 hz (some ⟨b, off, none⟩) i cap f1 hold (n + 1 - i) (by omega) (by omega) (by omega) (by omega) (by rw [hby]; omega) (by rw [hik]; exact hfit)
    rw [hik] at h
    rw [hkk]
    exact h
  obtain ⟨G, hG⟩ : ∃ G, G = grownCap w (n + 1) cap 36 := ⟨_, rfl⟩
  have hGn : n + 1 ≤ G := by rw [hG]; exact grownCap_ge w _ _ _
  have hG63 : G ≤ 9223372036854775807 := by
    have := grownCap_le_maxLen w (n + 1) cap 36 (by unfold maxLen; omega)
    rw [← hG] at this
    unfold maxLen at this
    have h63 : (2 : Nat) ^ 63 - 1 = 9223372036854775807 := by decide
    omega
  rw [← hG] at hrz
  obtain ⟨ROW, hROW⟩ : ∃ ROW : Array Value, ROW = f1.toArray ++ Builtin.zeroCells (Value.agg #[.int .i64 0, .string ⟨#[]⟩]).cells (n + 1 - i) ++ Builtin.zeroCells (Value.agg #[.int .i64 0, .string ⟨#[]⟩]).cells (G - (n + 1)) := ⟨_, rfl⟩
  rw [← hROW] at hrz
  have hRs : ROW.size = G * 2 := by
    rw [hROW, Array.size_append, Array.size_append, size_zeroCells, size_zeroCells, hz2]
    simp only [List.size_toArray, l1, hn1]
    omega
  have hN := New.drewAlloc w ROW 36 (0, 0)
  obtain ⟨W1, hW1⟩ : ∃ W1, W1 = w.drew.alloc (.cells ROW 36) := ⟨_, rfl⟩
  rw [← hW1] at hrz hN
  have hw1 : Wr w.heap.size (i * 2) vs W1 (W1.setCells w.heap.size (i * 2) vs) := setCells_wr hN.new (unfr_zero _) (by omega) nv
  obtain ⟨c1, hh1, hsz1⟩ := wr_heap hw1 hN.new
  have hw2 : Wr w.heap.size ((i + 1) * 2) f2 (W1.setCells w.heap.size (i * 2) vs) ((W1.setCells w.heap.size (i * 2) vs).drew.setCells w.heap.size ((i + 1) * 2) f2) := wr_drew (setCells_wr (w := (W1.setCells w.heap.size (i * 2) vs).drew) hh1 (unfr_zero _) (by omega) n2)
  obtain ⟨c2, hh2, hsz2⟩ := wr_heap hw2 hh1
  have hch := wr_step (wr_step (hN.chg o) hw1 (.inl (Nat.le_refl _))) hw2 (.inl (Nat.le_refl _))
  have hcpA : ∀ W : World, (∀ x, W.cell? x = W1.cell? x) → (∀ x, W.frozen? x = W1.frozen? x) → ∀ ty dc, (Builtin.copy_ #[25, 25] ty #[.slice (some ⟨w.heap.size, i * 2, none⟩) (n + 1 - i) dc, .slice (some ⟨vb, voff, none⟩) 1 vc]).run Try.prog W = .ok (goInt ((1 : Nat) : Int)) (W.setCells w.heap.size (i * 2) vs) := fun W hWc hWf ty dc =>
    run_copyN W _ _ ty 36 w.heap.size _ _ dc _ _ vc vs Try.underlying25 hs2 (Nat.min_eq_left (by omega)).symm (by omega)
      (fun j v hj => by
        rw [add_at, hWc]
        have := hv j v hj
        rw [← this]
        exact cell_same (hN.old vb hvbl))
      (fun j hj => by rw [hWc]; exact cell_of hN.new (by rw [hRs]; rw [lv] at hj; omega)) (fun j hj => by rw [hWf]; exact frz_of hN.new (unfr_zero (ROW.size)) (by rw [hRs]; rw [lv] at hj; omega)) (fun v hm => oneCell_of (nv v hm))
  have hcpB : ∀ W : World, (∀ x, W.cell? x = (W1.setCells w.heap.size (i * 2) vs).cell? x) → (∀ x, W.frozen? x = (W1.setCells w.heap.size (i * 2) vs).frozen? x) → ∀ ty dc sc, (Builtin.copy_ #[25, 25] ty #[.slice (some ⟨w.heap.size, (i + 1) * 2, none⟩) (n - i) dc, .slice (some ⟨b, off + i * 2, none⟩) (n - i) sc]).run Try.prog W = .ok (goInt ((n - i : Nat) : Int)) (W.setCells w.heap.size ((i + 1) * 2) f2) := fun W hWc hWf ty dc sc =>
    run_copyN W _ _ ty 36 w.heap.size _ _ dc _ _ sc f2 Try.underlying25 hs2 (Nat.min_eq_left (Nat.le_refl _)).symm (by omega)
      (fun j v hj => by
        rw [add_at, hWc]
        have := hc2 j v hj
        rw [← this]
        exact (cell_same (hw1.other b (by omega))).trans (cell_same (hN.old b hbl)))
      (fun j hj => by rw [hWc]; exact cell_of hh1 (by rw [hsz1, hRs]; rw [l2] at hj; omega)) (fun j hj => by rw [hWf]; exact frz_of hh1 (unfr_zero (ROW.size)) (by rw [hRs]; rw [l2] at hj; omega)) (fun v hm => oneCell_of (n2 v hm))
  refine Calls.mono (ins_grow b off n cap i w.heap.size G ⟨vb, voff, none⟩ vc f2 vs w W1 hi hnc hroom hGn hG63 hlim hrz hcpA hcpB) fun e w' he => ?_
  obtain ⟨rfl, rfl⟩ := he
  have hf1 : cellsAt W1 w.heap.size 0 f1 := by
    have := cellsAt_new hN.new
    rw [hROW, Array.toList_append, Array.toList_append, List.append_assoc] at this
    exact (cellsAt_append.1 this).1
  refine ⟨_, rfl, done_new (c := c2) (ty := 36) (fl := f1 ++ (vs ++ f2)) hch hh2 (lt_size_of hh2) (by omega) (by simp; omega) hGn (elsRep_append he1 (elsRep_append (es := [y]) hev he2)) (cellsAt_append.2 ⟨hw2.keep (hw1.keep hf1 (.inl (by omega))) (.inl (by omega)), cellsAt_append.2 ⟨?_, ?_⟩⟩) hB hoB⟩
  · rw [l1, hn1, Nat.zero_add]; exact hw2.keep hw1.cellsAt (.inl (by omega))
  · rw [l1, hn1, lv, show 0 + i * 2 + (0 + 1) * 2 = (i + 1) * 2 by omega]
    exact hw2.cellsAt
end
end Go.Eng
/-! slices.Insert: what the cut says of it is so -/
namespace Go.Eng
open Go.Proofs Go.Proofs.Try Go.Lib

theorem scal_nil {w : World} {B : Nat → Prop} {c : D} {v : Value} {o : List Res} (hc : scal c = true) (h : repD w B c v o) : o = [] := by
  cases c <;> first | (simp only [repD] at h; exact h.2) | cases hc
theorem scals_nil {w : World} {B : Nat → Prop} : ∀ {cs : List D} {vs : List Value} {o : List Res}, (∀ c ∈ cs, scal c = true) → repDs w B cs vs o → o = []
  | [], vs, o, _, h => by simp only [repDs] at h; exact h.2
  | c :: cs, vs, o, hc, h => by
    simp only [repDs] at h
    obtain ⟨v, vs', o1, o2, h1, h2, hi, h3, h4⟩ := h
    rw [h2, scal_nil (hc c (by simp)) h3, scals_nil (fun c hm => hc c (by simp [hm])) h4]; rfl
theorem els_nil {w : World} {B : Nat → Prop} {n : Nat} : ∀ {es : List D} {fl : List Value} {o : List Res}, elsRep w B (n, 0) es fl o → o = []
  | [], fl, o, h => h.2
  | e :: es, fl, o, h => by
    obtain ⟨vs, fr, o1, o2, rfl, rfl, h1, h2⟩ := h
    rw [scals_nil (fun c hc => h1.2.2 c hc) h1.1, els_nil h2]; rfl
theorem ins_came {w w' : World} {B : Nat → Prop} {L : Nat → List (Option Nat)} {o : List Res} {a b c : D} {v1 v2 v3 v : Value} {zs : List D} (ha : isIo .mv a = false) (hb : isIo .ro b = false) (hc : isIo .mv c = false) (hB : ∀ b, B b → b < w.heap.size) (h : InsDone w B o zs v w') :
    ∃ B' oR oI, CameBack (cf0.mode 32) L w B o [a, b, c] [v1, v2, v3] (.os (2, 0) zs, []) v w' B' oR oI := by
  obtain ⟨bk, hr, hch, hnb, hlt, hok⟩ := h
  refine ⟨B, [.arr bk], [], hch, fun _ h => h, fun b hb => ⟨Nat.lt_of_lt_of_le (hB b hb) hch.size, .inl hb⟩, hr, ?_, by simp [blks], ?_⟩
  · have e0 : cf0.mode 32 0 = .mv := rfl
    have e1 : cf0.mode 32 1 = .ro := rfl
    have e2 : cf0.mode 32 2 = .mv := rfl
    simp only [ioRep, e0, e1, e2, ha, hb, hc, Nat.zero_add]
    exact ⟨v1, [v2, v3], rfl, v2, [v3], rfl, v3, [], rfl, rfl, trivial, trivial⟩
  · intro q hq
    simp only [List.append_nil, List.mem_singleton] at hq
    subst hq
    exact ⟨hnb, hlt, hok⟩
theorem insP_meets {ds : List D} {r : Ret} (h : insP ds = some r) : Meets Try.prog (cf0.mode 32) 32 ds r := by
  unfold insP at h
  split at h
  case h_2 => cases h
  rename_i z xs i z2 y
  split at h
  case h_2 => cases h
  rename_i hcond
  injection h with h
  subst h
  simp only [Bool.and_eq_true, decide_eq_true_eq] at hcond
  obtain ⟨rfl, rfl, hi0, hil, hlim⟩ := hcond
  obtain ⟨i, rfl⟩ := Int.eq_ofNat_of_zero_le hi0
  have hil : i ≤ xs.length := by omega
  intro fn hfn w B L pv cv o hargs hcv hnod hown hB
  have hfe := hfn.symm.trans Try.func32
  injection hfe with hfe
  have hps : fn.params.size = 3 := by rw [hfe]; kernel_rfl
  rw [hps] at hargs hcv ⊢
  simp only [List.take_succ_cons, List.take_nil, List.drop_succ_cons, List.drop_nil] at hargs hcv ⊢
  simp only [repVs] at hcv
  obtain ⟨rfl, -⟩ := hcv
  have e0 : cf0.mode 32 0 = .mv := rfl
  have e1 : cf0.mode 32 1 = .ro := rfl
  have e2 : cf0.mode 32 2 = .mv := rfl
  simp only [argsRep, e0, e1, e2, Nat.zero_add, argRep] at hargs
  obtain ⟨v1, _, o1, _, rfl, rfl, h1, v2, _, o2, _, rfl, rfl, h2, v3, _, o3, _, rfl, rfl, h3, rfl, rfl⟩ := hargs
  have h2' : v2 = .int .i64 i ∧ o2 = [] := by simpa only [repD] using h2
  obtain ⟨rfl, rfl⟩ := h2'
  simp only [repD] at h3
  rcases h3 with ⟨h3, -⟩ | ⟨vb, voff, vc, cv, tyv, frv, o3', rfl, hvc, hvh, huv, hvl, hve, rfl⟩
  · cases h3
  obtain ⟨vs, hve, hvcell⟩ := els_of_repEs hve
  obtain rfl := els_nil hve
  simp only [List.length_cons, List.length_nil, Nat.zero_add] at hvc ⊢
  have hvl' := hvl (by omega)
  have hvl2 : voff + 2 ≤ cv.size := by have : 1 * 2 ≤ vc * 2 := Nat.mul_le_mul_right 2 hvc; omega
  have hoB : ∀ q ∈ o1 ++ ([] ++ ([.arr vb] ++ [])), ¬ B q.blk := fun q hq => (hown q hq).1
  have hI0 : ∀ (z : Z) (l : List D), isIo .mv (.os z l) = false := fun _ _ => rfl
  have hI1 : ∀ (k : IntKind) (n : Int), isIo .ro (.int k n) = false := fun _ _ => rfl
  simp only [List.append_nil]
  refine Calls.mono (R := fun e w' => ∃ v, e = .returned v ∧ InsDone w B (o1 ++ ([] ++ ([.arr vb] ++ []))) (xs.take i ++ y :: xs.drop i) v w') ?_ fun e w' ⟨v, he, hd⟩ => ?_
  case refine_2 =>
    exact ⟨v, (ins_came (hI0 _ _) (hI1 _ _) (hI0 _ _) hB hd).imp fun B' ⟨oR, oI, h⟩ => ⟨oR, oI, he, h⟩⟩
  simp only [repD] at h1
  rcases h1 with ⟨rfl, rfl, a, rfl⟩ | ⟨b, off, cap, c, ty, fr, o1', rfl, hcap, hh, hu, hcs, hes, rfl⟩
  · obtain rfl : i = 0 := by simpa using hil
    exact ins_new_end (xs := []) hB hoB hvcell hve ⟨rfl, rfl⟩ rfl (fun h => absurd rfl h) (by omega) (by omega)
  obtain ⟨cs, hes, hcell⟩ := els_of_repEs hes
  obtain rfl := els_nil hes
  have hne : vb ≠ b := by
    intro e
    subst e
    simp [blks, Res.blk] at hnod
  have hbo : Res.arr b ∈ [.arr b] ++ ([] ++ ([.arr vb] ++ [])) := by simp
  obtain ⟨n, hn⟩ : ∃ n, n = xs.length := ⟨_, rfl⟩
  rw [← hn] at hcap hil hlim ⊢
  have hroomc : n + 1 ≤ cap → off + cap * 2 ≤ c.size := fun h => hcs (by omega)
  rcases Nat.lt_or_ge i n with hin | hin
  · obtain ⟨f1, f2, p1, p2, rfl, hp, he1, he2⟩ := els_split (es := xs.take i) (fs := xs.drop i) (by rw [List.take_append_drop]; exact hes)
    have hp' := List.append_eq_nil_iff.1 hp.symm
    obtain ⟨rfl, rfl⟩ := hp'
    have l1 : (xs.take i).length = i := by rw [List.length_take]; omega
    have l2 : i + (xs.drop i).length = n := by rw [List.length_drop]; omega
    rcases Nat.lt_or_ge cap (n + 1) with hr | hr
    · exact ins_new_mid hB hoB (lt_size_of hh) (lt_size_of hvh) hcell hvcell hve he1 he2 l1 l2 hin hcap hr hlim
    · exact ins_room_mid hB hoB hbo hne hh hu (hroomc hr) hcell hvh huv hvl2 hvcell hve he1 he2 l1 l2 hin hr hlim
  · obtain rfl : i = n := by omega
    rw [List.take_of_length_le (by omega), List.drop_of_length_le (by omega)]
    rcases Nat.lt_or_ge cap (i + 1) with hr | hr
    · exact ins_new_end hB hoB hvcell hve hes hn.symm (fun _ => ⟨b, off, rfl, hcell⟩) hr hlim
    · exact ins_room_end hB hoB hbo hh hu (hroomc hr) hcell hvcell hve hes hn.symm hr
theorem ins_enters : Enters Try.prog 32 := ⟨_, Try.func32, by kernel_rfl, by kernel_rfl⟩
theorem ext_holds : SoundExt Try.prog cf0 := fun f F h => by
  by_cases hf : f = 32
  · subst hf
    have : F = insP := by
      have h' : some insP = some F := h
      injection h' with h'; exact h'.symm
    subst this
    exact fun ds r h => ⟨insP_meets h, ins_enters⟩
  · exfalso
    have hn : cf0.ext f = none := by
      unfold cf0
      simp only
    rw [hn] at h; cases h
end Go.Eng
