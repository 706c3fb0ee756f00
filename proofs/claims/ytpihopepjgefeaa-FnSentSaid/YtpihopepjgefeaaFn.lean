/- the functions as the interpreter has them -/
import Derived.Test.YtpihopepjgefeaaEngC
import Derived.Test.YtpihopepjgefeaaProg
namespace Go.Eng
open Go.Proofs Go.Proofs.Try
set_option maxRecDepth 100000
def cf0 : Cfg := { ext := fun _ => none, own := fun f => match f with | 52 => false | _ => true, mode := fun f i => match f, i with | 30, 0 => .mut | 31, 0 => .mut | 42, 0 => .mut | 71, 0 => .mut | 62, 0 => .mv | _, _ => .ro }
noncomputable abbrev V := Vn Try.prog cf0
noncomputable abbrev R := Rn Try.prog cf0
noncomputable def LBinarySearchFunc_Piece_3 (p0 : List D) (p1 : Int) (p2 : Int) (p3 : Int) (p4 : Int) : Option Ret := R 60 Try.f60 [] (headAt Try.f60 3) ⟨[.d (.rs (2, 0) p0), .d (.int .i64 p1), .fn 61 [], .undef, .undef, .undef, .undef, .undef, .d (.int .i64 p2), .d (.int .i64 p3), .d (.int .i64 p4), .undef, .undef, .undef, .undef, .undef, .undef, .undef, .undef, .undef, .undef, .undef, .undef, .undef, .undef, .undef, .undef, .undef, .undef, .undef, .undef, .undef, .undef, .undef, .undef, .undef, .undef, .undef, .undef, .undef, .undef, .undef, .undef, .undef, .undef, .undef, .undef, .undef, .undef], [], 0, []⟩
noncomputable def Llaws_heldPieceS_2 (p0 : List D) (p1 : Int) (p2 : Int) : Option Ret := R 32 Try.f32 [] (headAt Try.f32 2) ⟨[.d (.rs (2, 0) p0), .d (.int .i64 p1), .undef, .undef, .undef, .d (.int .i64 p2), .undef, .undef, .undef, .undef, .undef, .undef, .undef, .undef, .undef, .undef, .undef, .undef, .undef, .undef, .undef, .undef, .undef, .undef, .undef, .undef, .undef, .undef, .undef, .undef, .undef, .undef], [], 0, []⟩
noncomputable def Llaws_sameTexts_4 (p0 : List D) (p1 : List D) (p2 : Int) : Option Ret := R 25 Try.f25 [] (headAt Try.f25 4) ⟨[.d (.rs (1, 0) p0), .d (.rs (1, 0) p1), .undef, .undef, .undef, .d (.int .i64 p2), .undef, .undef, .undef, .undef, .undef, .undef, .undef, .undef, .undef, .undef, .undef, .undef, .undef, .undef, .undef, .undef, .undef, .undef, .undef, .undef], [], 0, []⟩
noncomputable def Lspec_LinkOk_4 (p0 : Int) (p1 : Int) (p2 : Int) (p3 : List D) (p4 : Int) (p5 : List D) : Option Ret := R 14 Try.f14 [] (headAt Try.f14 4) ⟨[.undef, .ref 0 0 0, .undef, .d (.int .i64 p0), .undef, .undef, .undef, .undef, .undef, .undef, .undef, .undef, .undef, .undef, .undef, .undef, .undef, .undef, .undef, .undef, .undef, .undef, .undef, .undef, .undef, .undef, .undef, .undef, .undef, .undef, .undef, .undef, .undef, .undef, .undef, .undef, .undef, .undef, .undef, .undef, .undef, .undef, .undef, .undef, .undef, .undef, .undef, .undef, .undef, .undef, .undef, .undef, .undef, .undef, .undef, .undef, .undef, .undef, .undef, .undef, .undef, .undef, .undef, .undef, .undef, .undef, .undef, .undef, .undef, .undef, .undef, .undef, .undef, .undef, .undef, .undef, .undef, .undef, .undef, .undef, .undef, .undef, .undef], [(0, some (.var [.d (.int .i64 p1), .d (.int .i64 p2), .d (.rs (1, 0) p3), .d (.int .i64 p4), .d (.rs (2, 0) p5)]))], 1, []⟩
noncomputable def Llaws_eqStringS_4 (p0 : List D) (p1 : List D) (p2 : Int) : Option Ret := R 41 Try.f41 [] (headAt Try.f41 4) ⟨[.d (.rs (1, 0) p0), .d (.rs (1, 0) p1), .undef, .undef, .undef, .d (.int .i64 p2), .undef, .undef, .undef, .undef, .undef, .undef, .undef, .undef, .undef, .undef, .undef, .undef, .undef, .undef, .undef, .undef, .undef, .undef, .undef, .undef], [], 0, []⟩
noncomputable def Llaws_toStringS_3 (p0 : List D) (p1 : Int) (p2 : List D) : Option Ret := R 48 Try.f48 [] (headAt Try.f48 3) ⟨[.d (.rs (1, 0) p0), .undef, .undef, .asl 0 none, .d (.int .i64 p1), .undef, .undef, .undef, .undef, .undef, .undef, .undef, .undef, .undef, .undef, .undef, .undef, .undef, .undef, .undef, .undef, .undef], [(0, some (.arr (1, 0) p2))], 1, []⟩
noncomputable def Llaws_markText_4 (p0 : Int) (p1 : ByteArray) : Option Ret := R 59 Try.f59 [] (headAt Try.f59 4) ⟨[.d (.int .i64 p0), .undef, .undef, .d (.str p1), .undef, .undef, .undef, .undef, .undef, .undef, .undef, .undef, .undef, .undef, .undef, .undef, .undef, .undef, .undef, .undef], [], 0, []⟩
noncomputable def Limpl_LinkOk_4 (p0 : List D) (p1 : Int) (p2 : Int) (p3 : Int) (p4 : Int) (p5 : List D) (p6 : Int) (p7 : List D) : Option Ret := R 16 Try.f16 [] (headAt Try.f16 4) ⟨[.undef, .ref 0 0 0, .undef, .undef, .undef, .undef, .undef, .undef, .undef, .undef, .undef, .undef, .undef, .undef, .undef, .undef, .undef, .undef, .undef, .undef, .undef, .undef, .undef, .undef, .undef, .undef, .undef, .undef, .undef, .undef, .undef, .undef, .undef, .undef, .undef, .undef, .undef, .undef, .undef, .undef, .undef, .undef, .undef, .d (.rs (2, 0) p0), .d (.int .i64 p1), .d (.int .i64 p2), .undef, .undef, .undef, .undef, .undef, .undef, .undef, .undef, .undef, .undef, .undef, .undef, .undef, .undef, .undef, .undef, .undef, .undef, .undef, .undef, .undef, .undef, .undef, .undef, .undef, .undef, .undef, .undef, .undef, .undef, .undef, .undef, .undef, .undef, .undef], [(0, some (.var [.d (.int .i64 p3), .d (.int .i64 p4), .d (.rs (1, 0) p5), .d (.int .i64 p6), .d (.rs (2, 0) p7)]))], 1, []⟩
noncomputable def Llaws_markStringS_2 (p0 : Int) (p1 : Int) (p2 : List D) : Option Ret := R 42 Try.f42 [22] (headAt Try.f42 2) ⟨[.asl 0 none, .d (.int .i64 p0), .undef, .undef, .undef, .d (.int .i64 p1), .undef, .undef, .undef, .undef, .undef, .undef, .undef, .undef, .undef, .undef, .undef, .undef, .undef, .undef], [(0, some (.arr (1, 0) p2))], 1, [.asl 0 none]⟩
noncomputable def Llaws_toPieceS_3 (p0 : List D) (p1 : Int) (p2 : List D) : Option Ret := R 49 Try.f49 [] (headAt Try.f49 3) ⟨[.d (.rs (2, 0) p0), .undef, .undef, .asl 0 none, .d (.int .i64 p1), .undef, .undef, .undef, .undef, .undef, .undef, .undef, .undef, .undef, .undef, .undef, .undef, .undef, .undef, .undef, .undef, .undef, .undef], [(0, some (.arr (2, 0) p2))], 1, []⟩
noncomputable def Llaws_eqPieceS_4 (p0 : List D) (p1 : List D) (p2 : Int) : Option Ret := R 29 Try.f29 [] (headAt Try.f29 4) ⟨[.d (.rs (2, 0) p0), .d (.rs (2, 0) p1), .undef, .undef, .undef, .d (.int .i64 p2), .undef, .undef, .undef, .undef, .undef, .undef, .undef, .undef, .undef, .undef, .undef, .undef, .undef, .undef, .undef, .undef, .undef, .undef, .undef, .undef, .undef], [], 0, []⟩
noncomputable def Llaws_heldStringS_2 (p0 : List D) (p1 : Int) (p2 : Int) : Option Ret := R 43 Try.f43 [] (headAt Try.f43 2) ⟨[.d (.rs (1, 0) p0), .d (.int .i64 p1), .undef, .undef, .undef, .d (.int .i64 p2), .undef, .undef, .undef, .undef, .undef, .undef, .undef, .undef, .undef, .undef, .undef, .undef, .undef, .undef, .undef, .undef], [], 0, []⟩
noncomputable def Limpl_LinkShow_5 (p0 : List D) (p1 : Int) (p2 : Int) (p3 : Int) (p4 : Int) (p5 : List D) (p6 : Int) (p7 : List D) (p8 : List D) : Option Ret := R 20 Try.f20 [] (headAt Try.f20 5) ⟨[.undef, .ref 0 0 0, .undef, .asl 1 none, .undef, .undef, .undef, .undef, .undef, .undef, .undef, .undef, .undef, .undef, .undef, .undef, .undef, .d (.rs (1, 0) p0), .d (.int .i64 p1), .d (.int .i64 p2), .undef, .undef, .undef, .undef, .undef, .undef, .undef, .undef, .undef, .undef, .undef, .undef, .undef, .undef, .undef], [(0, some (.var [.d (.int .i64 p3), .d (.int .i64 p4), .d (.rs (1, 0) p5), .d (.int .i64 p6), .d (.rs (2, 0) p7)])), (1, some (.arr (2, 0) p8))], 2, []⟩
noncomputable def Llaws_szStringS_5 (p0 : List D) (p1 : Int) (p2 : Int) : Option Ret := R 44 Try.f44 [] (headAt Try.f44 5) ⟨[.d (.rs (1, 0) p0), .d (.int .i64 p1), .undef, .undef, .undef, .d (.int .i64 p2), .undef, .undef, .undef, .undef, .undef, .undef, .undef, .undef, .undef, .undef, .undef, .undef, .undef, .undef, .undef, .undef, .undef, .undef, .undef, .undef, .undef, .undef], [], 0, []⟩
noncomputable def Lspec_LinkShow_3 (p0 : Int) (p1 : Int) (p2 : Int) (p3 : List D) (p4 : Int) (p5 : List D) (p6 : List D) : Option Ret := R 21 Try.f21 [] (headAt Try.f21 3) ⟨[.undef, .ref 0 0 0, .undef, .asl 1 none, .d (.int .i64 p0), .undef, .undef, .undef, .undef, .undef, .undef, .undef, .undef, .undef, .undef, .undef, .undef, .undef, .undef, .undef, .undef, .undef, .undef, .undef, .undef, .undef, .undef, .undef, .undef, .undef, .undef, .undef, .undef, .undef, .undef], [(0, some (.var [.d (.int .i64 p1), .d (.int .i64 p2), .d (.rs (1, 0) p3), .d (.int .i64 p4), .d (.rs (2, 0) p5)])), (1, some (.arr (2, 0) p6))], 2, []⟩
noncomputable def Llaws_markPieceS_2 (p0 : Int) (p1 : Int) (p2 : List D) : Option Ret := R 31 Try.f31 [28] (headAt Try.f31 2) ⟨[.asl 0 none, .d (.int .i64 p0), .undef, .undef, .undef, .d (.int .i64 p1), .undef, .undef, .undef, .undef, .undef, .undef, .undef, .undef, .undef, .undef, .undef, .undef, .undef, .undef, .undef, .undef, .undef, .undef, .undef, .undef, .undef, .undef], [(0, some (.arr (2, 0) p2))], 1, [.asl 0 none]⟩
noncomputable def Llaws_szPieceS_5 (p0 : List D) (p1 : Int) (p2 : Int) : Option Ret := R 45 Try.f45 [] (headAt Try.f45 5) ⟨[.d (.rs (2, 0) p0), .d (.int .i64 p1), .undef, .undef, .undef, .d (.int .i64 p2), .undef, .undef, .undef, .undef, .undef, .undef, .undef, .undef, .undef, .undef, .undef, .undef, .undef, .undef, .undef, .undef, .undef, .undef, .undef, .undef, .undef], [], 0, []⟩
theorem LBinarySearchFunc_Piece_3_eq (p0 : List D) (p1 : Int) (p2 : Int) (p3 : Int) (p4 : Int) : LBinarySearchFunc_Piece_3 p0 p1 p2 p3 p4 =
  br (decide (p3 < p4))
   (grd (decide (0 ≤ IntKind.wrap IntKind.i64 (Int.fdiv (IntKind.wrap IntKind.u64 (IntKind.wrap IntKind.i64 (p3 + p4))) (2 ^ min (Int.toNat (1)) (IntKind.bits IntKind.u64)))) && decide (IntKind.wrap IntKind.i64 (Int.fdiv (IntKind.wrap IntKind.u64 (IntKind.wrap IntKind.i64 (p3 + p4))) (2 ^ min (Int.toNat (1)) (IntKind.bits IntKind.u64))) < ni (List.length p0))) (oget p0 (Int.toNat (IntKind.wrap IntKind.i64 (Int.fdiv (IntKind.wrap IntKind.u64 (IntKind.wrap IntKind.i64 (p3 + p4))) (2 ^ min (Int.toNat (1)) (IntKind.bits IntKind.u64))))) fun x0 =>
    asAgg x0 fun l1 => unc l1 fun x2 l3 => asI .i64 x2 fun n4 => unc l3 fun x5 l6 => asS x5 fun s7 => unn l6 (ocall V 61 [(.agg [(.int .i64 n4), (.str s7)]), (.int .i64 p1)] fun x8 l9 =>
          asI .i64 x8 fun n10 => unn l9 (br (decide (n10 < 0))
            (LBinarySearchFunc_Piece_3 p0 p1 p2 (IntKind.wrap IntKind.i64 (IntKind.wrap IntKind.i64 (Int.fdiv (IntKind.wrap IntKind.u64 (IntKind.wrap IntKind.i64 (p3 + p4))) (2 ^ min (Int.toNat (1)) (IntKind.bits IntKind.u64))) + 1)) p4)
            (LBinarySearchFunc_Piece_3 p0 p1 p2 p3 (IntKind.wrap IntKind.i64 (Int.fdiv (IntKind.wrap IntKind.u64 (IntKind.wrap IntKind.i64 (p3 + p4))) (2 ^ min (Int.toNat (1)) (IntKind.bits IntKind.u64)))))))))
   (br (decide (p3 < p2))
    (grd (decide (0 ≤ p3) && decide (p3 < ni (List.length p0))) (oget p0 (Int.toNat p3) fun x11 =>
     asAgg x11 fun l12 => unc l12 fun x13 l14 => asI .i64 x13 fun n15 => unc l14 fun x16 l17 => asS x16 fun s18 => unn l17 (ocall V 61 [(.agg [(.int .i64 n15), (.str s18)]), (.int .i64 p1)] fun x19 l20 =>
           asI .i64 x19 fun n21 => unn l20 (some ((.tup [(.int .i64 p3), (.bool (n21 == 0))]), [])))))
    (some ((.tup [(.int .i64 p3), (.bool false)]), []))) := by
  exact (Rn_eq _ _ _).trans (by kernel_rfl)
theorem eBinarySearchFunc_Piece (l : List D) (n : Int) : V 60 [.rs (2, 0) l, .int .i64 n, .fn 61 []] =
  LBinarySearchFunc_Piece_3 l n (ni (List.length l)) (0) (ni (List.length l)) := by
  exact (Vn_eq Try.func60 rfl _).trans (by kernel_rfl)

theorem elaws_szLink (a0_0 : Int) (a0_1 : Int) (a0_2 : List D) (a0_3 : Int) (a0_4 : List D) (a1_ : Int) : V 13 [.agg [.int .i64 a0_0, .int .i64 a0_1, .rs (1, 0) a0_2, .int .i64 a0_3, .rs (2, 0) a0_4], .int .i64 a1_] =
  ocall V 44 [(.rs (1, 0) a0_2), (.int .i64 a1_)] fun x0 l1 =>
   asI .i64 x0 fun n2 => unn l1 (br (decide (n2 < 0))
     (some ((.int .i64 (-1)), []))
     (ocall V 45 [(.rs (2, 0) a0_4), (.int .i64 n2)] fun x3 l4 =>
      asI .i64 x3 fun n5 => unn l4 (br (decide (n5 < 0))
        (some ((.int .i64 (-1)), []))
        (some ((.int .i64 n5), []))))) := by
  exact (Vn_eq Try.func13 rfl _).trans (by kernel_rfl)

theorem eimpl_LinkAck (a0_0 : Int) (a0_1 : Int) (a0_2 : List D) (a0_3 : Int) (a0_4 : List D) (a1_ : Int) : V 23 [.agg [.int .i64 a0_0, .int .i64 a0_1, .rs (1, 0) a0_2, .int .i64 a0_3, .rs (2, 0) a0_4], .int .i64 a1_] =
  ocall V 16 [(.agg [(.int .i64 a0_0), (.int .i64 a0_1), (.rs (1, 0) a0_2), (.int .i64 a0_3), (.rs (2, 0) a0_4)])] fun x0 l1 =>
   asB x0 fun b2 => unn l1 (br (!b2)
     (some ((.tup [(.agg [(.int .i64 (0)), (.int .i64 (0)), (.os (1, 0) []), (.int .i64 (0)), (.os (2, 0) [])]), (.bool false)]), []))
     (ocall V 54 [(.agg [(.int .i64 a0_0), (.int .i64 a0_1), (.rs (1, 0) a0_2), (.int .i64 a0_3), (.rs (2, 0) a0_4)])] fun x3 l4 =>
      asAgg x3 fun l5 => unc l5 fun x6 l7 => asI .i64 x6 fun n8 => unc l7 fun x9 l10 => asI .i64 x9 fun n11 => unc l10 fun x12 l13 => asOs (1, 0) x12 fun l14 => unc l13 fun x15 l16 => asI .i64 x15 fun n17 => unc l16 fun x18 l19 => asOs (2, 0) x18 fun l20 => unn l19 (unn l4 (br (decide (a1_ ≤ a0_1))
                  (some ((.tup [(.agg [(.int .i64 n8), (.int .i64 n11), (.os (1, 0) l14), (.int .i64 n17), (.os (2, 0) l20)]), (.bool false)]), []))
                  (br (decide (a1_ > a0_3))
                   (some ((.tup [(.agg [(.int .i64 n8), (.int .i64 n11), (.os (1, 0) l14), (.int .i64 n17), (.os (2, 0) l20)]), (.bool false)]), []))
                   (grd (cutOk (List.length l14) (some (IntKind.wrap IntKind.i64 (a1_ - a0_1))) none) (ocall V 55 [(.rs (1, 0) (part l14 (cutR (List.length l14) none (some (IntKind.wrap IntKind.i64 (a1_ - a0_1))) none)))] fun x21 l22 =>
                    asOs (1, 0) x21 fun l23 => unn l22 (some ((.tup [(.agg [(.int .i64 n8), (.int .i64 a1_), (.os (1, 0) l23), (.int .i64 n17), (.os (2, 0) l20)]), (.bool true)]), []))))))))) := by
  exact (Vn_eq Try.func23 rfl _).trans (by kernel_rfl)

theorem Llaws_heldPieceS_2_eq (p0 : List D) (p1 : Int) (p2 : Int) : Llaws_heldPieceS_2 p0 p1 p2 =
  br (decide (p2 < ni (List.length p0)))
   (grd (decide (0 ≤ p2) && decide (p2 < ni (List.length p0))) (oget p0 (Int.toNat p2) fun x0 =>
    asAgg x0 fun l1 => oget l1 0 fun x2 =>
      asI .i64 x2 fun n3 => br (n3 != p1)
        (some ((.int .i64 (-1)), []))
        (grd (decide (0 ≤ p2) && decide (p2 < ni (List.length p0))) (oget p0 (Int.toNat p2) fun x4 =>
         asAgg x4 fun l5 => oget l5 1 fun x6 =>
           asS x6 fun s7 => ocall V 59 [(.int .i64 (IntKind.wrap IntKind.i64 (p1 + 1)))] fun x8 l9 =>
             asS x8 fun s10 => unn l9 (br (!strEq s7 s10)
               (some ((.int .i64 (-1)), []))
               (Llaws_heldPieceS_2 p0 (IntKind.wrap IntKind.i64 (IntKind.wrap IntKind.i64 (p1 + 1) + 1)) (IntKind.wrap IntKind.i64 (p2 + 1))))))))
   (some ((.int .i64 p1), [])) := by
  exact (Rn_eq _ _ _).trans (by kernel_rfl)
theorem elaws_heldPieceS (a0_ : List D) (a1_ : Int) : V 32 [.rs (2, 0) a0_, .int .i64 a1_] =
  Llaws_heldPieceS_2 a0_ a1_ (0) := by
  exact (Vn_eq Try.func32 rfl _).trans (by kernel_rfl)

theorem espec_l1In (a0_ : Int) (a1_ : Int) (a2_ : Int) : V 46 [.int .i64 a0_, .int .i64 a1_, .int .i64 a2_] =
  br (decide (a0_ ≥ a1_))
   (some ((.bool (decide (a0_ ≤ a2_))), []))
   (some ((.bool false), [])) := by
  exact (Vn_eq Try.func46 rfl _).trans (by kernel_rfl)

theorem espec_l10Copy (a0_0 : Int) (a0_1 : Int) (a0_2 : List D) (a0_3 : Int) (a0_4 : List D) : V 56 [.agg [.int .i64 a0_0, .int .i64 a0_1, .rs (1, 0) a0_2, .int .i64 a0_3, .rs (2, 0) a0_4]] =
  grd (decide (ni (List.length ([] ++ a0_2)) ≤ LIM)) (nam ([] ++ a0_2) fun l0 =>
   grd (decide (ni (List.length ([] ++ a0_4)) ≤ LIM)) (nam ([] ++ a0_4) fun l1 =>
    some ((.agg [(.int .i64 a0_0), (.int .i64 a0_1), (.os (1, 0) l0), (.int .i64 a0_3), (.os (2, 0) l1)]), []))) := by
  exact (Vn_eq Try.func56 rfl _).trans (by kernel_rfl)

theorem Llaws_sameTexts_4_eq (p0 : List D) (p1 : List D) (p2 : Int) : Llaws_sameTexts_4 p0 p1 p2 =
  br (decide (p2 < ni (List.length p0)))
   (grd (decide (0 ≤ p2) && decide (p2 < ni (List.length p0))) (oget p0 (Int.toNat p2) fun x0 =>
    asS x0 fun s1 => grd (decide (0 ≤ p2) && decide (p2 < ni (List.length p1))) (oget p1 (Int.toNat p2) fun x2 =>
      asS x2 fun s3 => br (!strEq s1 s3)
        (some ((.bool false), []))
        (Llaws_sameTexts_4 p0 p1 (IntKind.wrap IntKind.i64 (p2 + 1))))))
   (some ((.bool true), [])) := by
  exact (Rn_eq _ _ _).trans (by kernel_rfl)
theorem elaws_sameTexts (a0_ : List D) (a1_ : List D) : V 25 [.rs (1, 0) a0_, .rs (1, 0) a1_] =
  br (ni (List.length a0_) != ni (List.length a1_))
   (some ((.bool false), []))
   (Llaws_sameTexts_4 a0_ a1_ (0)) := by
  exact (Vn_eq Try.func25 rfl _).trans (by kernel_rfl)

theorem Lspec_LinkOk_4_eq (p0 : Int) (p1 : Int) (p2 : Int) (p3 : List D) (p4 : Int) (p5 : List D) : Lspec_LinkOk_4 p0 p1 p2 p3 p4 p5 =
  br (decide (p0 < ni (List.length p5)))
   (grd (decide (0 ≤ p0) && decide (p0 < ni (List.length p5))) (oget p5 (Int.toNat p0) fun x9 =>
    asAgg x9 fun l10 => oget l10 0 fun x11 =>
      asI .i64 x11 fun n12 => ocall V 47 [(.int .i64 (IntKind.wrap IntKind.i64 (p4 + 4))), (.int .i64 p1)] fun x13 l14 =>
        asI .i64 x13 fun n15 => unn l14 (ocall V 46 [(.int .i64 n12), (.int .i64 (IntKind.wrap IntKind.i64 (p4 + 1))), (.int .i64 (IntKind.wrap IntKind.i64 (n15 - 1)))] fun x16 l17 =>
          asB x16 fun b18 => unn l17 (br (!b18)
            (some ((.bool false), []))
            (br (decide (p0 > 0))
             (grd (decide (0 ≤ IntKind.wrap IntKind.i64 (p0 - 1)) && decide (IntKind.wrap IntKind.i64 (p0 - 1) < ni (List.length p5))) (oget p5 (Int.toNat (IntKind.wrap IntKind.i64 (p0 - 1))) fun x19 =>
              asAgg x19 fun l20 => oget l20 0 fun x21 =>
                asI .i64 x21 fun n22 => br (decide (n22 ≥ n12))
                  (some ((.bool false), []))
                  (Lspec_LinkOk_4 (IntKind.wrap IntKind.i64 (p0 + 1)) p1 p2 p3 p4 p5)))
             (Lspec_LinkOk_4 (IntKind.wrap IntKind.i64 (p0 + 1)) p1 p2 p3 p4 p5))))))
   (some ((.bool true), [])) := by
  exact (Rn_eq _ _ _).trans (by kernel_rfl)
theorem espec_LinkOk (a0_0 : Int) (a0_1 : Int) (a0_2 : List D) (a0_3 : Int) (a0_4 : List D) : V 14 [.agg [.int .i64 a0_0, .int .i64 a0_1, .rs (1, 0) a0_2, .int .i64 a0_3, .rs (2, 0) a0_4]] =
  ocall V 46 [(.int .i64 a0_0), (.int .i64 (0)), (.int .i64 (100000))] fun x0 l1 =>
   asB x0 fun b2 => unn l1 (br (!b2)
     (some ((.bool false), []))
     (ocall V 46 [(.int .i64 a0_3), (.int .i64 (0)), (.int .i64 a0_0)] fun x3 l4 =>
      asB x3 fun b5 => unn l4 (br (!b5)
        (some ((.bool false), []))
        (ocall V 46 [(.int .i64 a0_1), (.int .i64 (0)), (.int .i64 a0_3)] fun x6 l7 =>
         asB x6 fun b8 => unn l7 (br (!b8)
           (some ((.bool false), []))
           (br (ni (List.length a0_2) != IntKind.wrap IntKind.i64 (a0_0 - a0_1))
            (some ((.bool false), []))
            (br (decide (ni (List.length a0_2) > 30))
             (some ((.bool false), []))
             (Lspec_LinkOk_4 (0) a0_0 a0_1 a0_2 a0_3 a0_4)))))))) := by
  exact (Vn_eq Try.func14 rfl _).trans (by kernel_rfl)

theorem espec_LinkAck (a0_0 : Int) (a0_1 : Int) (a0_2 : List D) (a0_3 : Int) (a0_4 : List D) (a1_ : Int) : V 24 [.agg [.int .i64 a0_0, .int .i64 a0_1, .rs (1, 0) a0_2, .int .i64 a0_3, .rs (2, 0) a0_4], .int .i64 a1_] =
  ocall V 14 [(.agg [(.int .i64 a0_0), (.int .i64 a0_1), (.rs (1, 0) a0_2), (.int .i64 a0_3), (.rs (2, 0) a0_4)])] fun x0 l1 =>
   asB x0 fun b2 => unn l1 (br (!b2)
     (some ((.tup [(.agg [(.int .i64 (0)), (.int .i64 (0)), (.os (1, 0) []), (.int .i64 (0)), (.os (2, 0) [])]), (.bool false)]), []))
     (ocall V 56 [(.agg [(.int .i64 a0_0), (.int .i64 a0_1), (.rs (1, 0) a0_2), (.int .i64 a0_3), (.rs (2, 0) a0_4)])] fun x3 l4 =>
      asAgg x3 fun l5 => unc l5 fun x6 l7 => asI .i64 x6 fun n8 => unc l7 fun x9 l10 => asI .i64 x9 fun n11 => unc l10 fun x12 l13 => asOs (1, 0) x12 fun l14 => unc l13 fun x15 l16 => asI .i64 x15 fun n17 => unc l16 fun x18 l19 => asOs (2, 0) x18 fun l20 => unn l19 (unn l4 (ocall V 46 [(.int .i64 a1_), (.int .i64 (IntKind.wrap IntKind.i64 (a0_1 + 1))), (.int .i64 a0_3)] fun x21 l22 =>
                  asB x21 fun b23 => unn l22 (br (!b23)
                    (some ((.tup [(.agg [(.int .i64 n8), (.int .i64 n11), (.os (1, 0) l14), (.int .i64 n17), (.os (2, 0) l20)]), (.bool false)]), []))
                    (grd (cutOk (List.length a0_2) (some (IntKind.wrap IntKind.i64 (a1_ - a0_1))) none) (grd (decide (ni (List.length ([] ++ cutL a0_2 (IntKind.wrap IntKind.i64 (a1_ - a0_1)))) ≤ LIM)) (nam ([] ++ cutL a0_2 (IntKind.wrap IntKind.i64 (a1_ - a0_1))) fun l24 =>
                     some ((.tup [(.agg [(.int .i64 n8), (.int .i64 a1_), (.os (1, 0) l24), (.int .i64 n17), (.os (2, 0) l20)]), (.bool true)]), []))))))))) := by
  exact (Vn_eq Try.func24 rfl _).trans (by kernel_rfl)

theorem elaws_heldLink (a0_0 : Int) (a0_1 : Int) (a0_2 : List D) (a0_3 : Int) (a0_4 : List D) (a1_ : Int) : V 36 [.agg [.int .i64 a0_0, .int .i64 a0_1, .rs (1, 0) a0_2, .int .i64 a0_3, .rs (2, 0) a0_4], .int .i64 a1_] =
  ocall V 43 [(.rs (1, 0) a0_2), (.int .i64 a1_)] fun x0 l1 =>
   asI .i64 x0 fun n2 => unn l1 (br (decide (n2 < 0))
     (some ((.int .i64 (-1)), []))
     (ocall V 32 [(.rs (2, 0) a0_4), (.int .i64 n2)] fun x3 l4 =>
      asI .i64 x3 fun n5 => unn l4 (br (decide (n5 < 0))
        (some ((.int .i64 (-1)), []))
        (some ((.int .i64 n5), []))))) := by
  exact (Vn_eq Try.func36 rfl _).trans (by kernel_rfl)

theorem espec_l1Min (a0_ : Int) (a1_ : Int) : V 47 [.int .i64 a0_, .int .i64 a1_] =
  br (decide (a0_ < a1_))
   (some ((.int .i64 a0_), []))
   (some ((.int .i64 a1_), [])) := by
  exact (Vn_eq Try.func47 rfl _).trans (by kernel_rfl)

theorem elaws_eqPiece (a0_0 : Int) (a0_1 : ByteArray) (a1_0 : Int) (a1_1 : ByteArray) : V 58 [.agg [.int .i64 a0_0, .str a0_1], .agg [.int .i64 a1_0, .str a1_1]] =
  br (a0_0 != a1_0)
   (some ((.bool false), []))
   (br (!strEq a0_1 a1_1)
    (some ((.bool false), []))
    (some ((.bool true), []))) := by
  exact (Vn_eq Try.func58 rfl _).trans (by kernel_rfl)

theorem elaws_FnExactLinkOk (a0_0 : Int) (a0_1 : Int) (a0_2 : List D) (a0_3 : Int) (a0_4 : List D) : V 3 [.agg [.int .i64 a0_0, .int .i64 a0_1, .rs (1, 0) a0_2, .int .i64 a0_3, .rs (2, 0) a0_4]] =
  ocall V 13 [(.agg [(.int .i64 a0_0), (.int .i64 a0_1), (.rs (1, 0) a0_2), (.int .i64 a0_3), (.rs (2, 0) a0_4)]), (.int .i64 (1048576))] fun x0 l1 =>
   asI .i64 x0 fun n2 => unn l1 (br (decide (n2 < 0))
     (some ((.bool true), []))
     (ocall V 15 [(.agg [(.int .i64 a0_0), (.int .i64 a0_1), (.rs (1, 0) a0_2), (.int .i64 a0_3), (.rs (2, 0) a0_4)])] fun x3 l4 =>
      asAgg x3 fun l5 => unc l5 fun x6 l7 => asI .i64 x6 fun n8 => unc l7 fun x9 l10 => asI .i64 x9 fun n11 => unc l10 fun x12 l13 => asOs (1, 0) x12 fun l14 => unc l13 fun x15 l16 => asI .i64 x15 fun n17 => unc l16 fun x18 l19 => asOs (2, 0) x18 fun l20 => unn l19 (unn l4 (ocall V 14 [(.agg [(.int .i64 n8), (.int .i64 n11), (.rs (1, 0) l14), (.int .i64 n17), (.rs (2, 0) l20)])] fun x21 l22 =>
                  asB x21 fun b23 => unn l22 (ocall V 15 [(.agg [(.int .i64 a0_0), (.int .i64 a0_1), (.rs (1, 0) a0_2), (.int .i64 a0_3), (.rs (2, 0) a0_4)])] fun x24 l25 =>
                    asAgg x24 fun l26 => unc l26 fun x27 l28 => asI .i64 x27 fun n29 => unc l28 fun x30 l31 => asI .i64 x30 fun n32 => unc l31 fun x33 l34 => asOs (1, 0) x33 fun l35 => unc l34 fun x36 l37 => asI .i64 x36 fun n38 => unc l37 fun x39 l40 => asOs (2, 0) x39 fun l41 => unn l40 (unn l25 (ocall V 16 [(.agg [(.int .i64 n29), (.int .i64 n32), (.rs (1, 0) l35), (.int .i64 n38), (.rs (2, 0) l41)])] fun x42 l43 =>
                                asB x42 fun b44 => unn l43 (br (!b44 == b23)
                                  (some ((.bool false), []))
                                  (ocall V 15 [(.agg [(.int .i64 a0_0), (.int .i64 a0_1), (.rs (1, 0) a0_2), (.int .i64 a0_3), (.rs (2, 0) a0_4)])] fun x45 l46 =>
                                   asAgg x45 fun l47 => unc l47 fun x48 l49 => asI .i64 x48 fun n50 => unc l49 fun x51 l52 => asI .i64 x51 fun n53 => unc l52 fun x54 l55 => asOs (1, 0) x54 fun l56 => unc l55 fun x57 l58 => asI .i64 x57 fun n59 => unc l58 fun x60 l61 => asOs (2, 0) x60 fun l62 => unn l61 (unn l46 (ocall V 17 [(.agg [(.int .i64 n29), (.int .i64 n32), (.rs (1, 0) l35), (.int .i64 n38), (.rs (2, 0) l41)]), (.agg [(.int .i64 n50), (.int .i64 n53), (.rs (1, 0) l56), (.int .i64 n59), (.rs (2, 0) l62)])] fun x63 l64 =>
                                               asB x63 fun b65 => unn l64 (br (!b65)
                                                 (some ((.bool false), []))
                                                 (some ((.bool true), [])))))))))))))) := by
  exact (Vn_eq Try.func3 rfl _).trans (by kernel_rfl)

theorem elaws_toLink (a0_0 : Int) (a0_1 : Int) (a0_2 : List D) (a0_3 : Int) (a0_4 : List D) : V 15 [.agg [.int .i64 a0_0, .int .i64 a0_1, .rs (1, 0) a0_2, .int .i64 a0_3, .rs (2, 0) a0_4]] =
  ocall V 48 [(.rs (1, 0) a0_2)] fun x0 l1 =>
   asOs (1, 0) x0 fun l2 => unn l1 (ocall V 49 [(.rs (2, 0) a0_4)] fun x3 l4 =>
     asOs (2, 0) x3 fun l5 => unn l4 (some ((.agg [(.int .i64 a0_0), (.int .i64 a0_1), (.os (1, 0) l2), (.int .i64 a0_3), (.os (2, 0) l5)]), []))) := by
  exact (Vn_eq Try.func15 rfl _).trans (by kernel_rfl)

theorem eimpl_LinkSend (a0_0 : Int) (a0_1 : Int) (a0_2 : List D) (a0_3 : Int) (a0_4 : List D) (a1_ : ByteArray) : V 27 [.agg [.int .i64 a0_0, .int .i64 a0_1, .rs (1, 0) a0_2, .int .i64 a0_3, .rs (2, 0) a0_4], .str a1_] =
  ocall V 16 [(.agg [(.int .i64 a0_0), (.int .i64 a0_1), (.rs (1, 0) a0_2), (.int .i64 a0_3), (.rs (2, 0) a0_4)])] fun x0 l1 =>
   asB x0 fun b2 => unn l1 (br (!b2)
     (some ((.tup [(.agg [(.int .i64 (0)), (.int .i64 (0)), (.os (1, 0) []), (.int .i64 (0)), (.os (2, 0) [])]), (.bool false)]), []))
     (ocall V 54 [(.agg [(.int .i64 a0_0), (.int .i64 a0_1), (.rs (1, 0) a0_2), (.int .i64 a0_3), (.rs (2, 0) a0_4)])] fun x3 l4 =>
      asAgg x3 fun l5 => unc l5 fun x6 l7 => asI .i64 x6 fun n8 => unc l7 fun x9 l10 => asI .i64 x9 fun n11 => unc l10 fun x12 l13 => asOs (1, 0) x12 fun l14 => unc l13 fun x15 l16 => asI .i64 x15 fun n17 => unc l16 fun x18 l19 => asOs (2, 0) x18 fun l20 => unn l19 (unn l4 (grd (decide (ni (List.length (l14 ++ [D.str a1_])) ≤ LIM)) (nam (l14 ++ [D.str a1_]) fun l21 =>
                  ocall V 16 [(.agg [(.int .i64 (IntKind.wrap IntKind.i64 (n8 + 1))), (.int .i64 n11), (.rs (1, 0) l21), (.int .i64 n17), (.rs (2, 0) l20)])] fun x22 l23 =>
                   asB x22 fun b24 => unn l23 (br (!b24)
                     (ocall V 54 [(.agg [(.int .i64 a0_0), (.int .i64 a0_1), (.rs (1, 0) a0_2), (.int .i64 a0_3), (.rs (2, 0) a0_4)])] fun x25 l26 =>
                      asAgg x25 fun l27 => unc l27 fun x28 l29 => asI .i64 x28 fun n30 => unc l29 fun x31 l32 => asI .i64 x31 fun n33 => unc l32 fun x34 l35 => asOs (1, 0) x34 fun l36 => unc l35 fun x37 l38 => asI .i64 x37 fun n39 => unc l38 fun x40 l41 => asOs (2, 0) x40 fun l42 => unn l41 (unn l26 (some ((.tup [(.agg [(.int .i64 n30), (.int .i64 n33), (.os (1, 0) l36), (.int .i64 n39), (.os (2, 0) l42)]), (.bool false)]), []))))
                     (some ((.tup [(.agg [(.int .i64 (IntKind.wrap IntKind.i64 (n8 + 1))), (.int .i64 n11), (.os (1, 0) l21), (.int .i64 n17), (.os (2, 0) l20)]), (.bool true)]), [])))))))) := by
  exact (Vn_eq Try.func27 rfl _).trans (by kernel_rfl)

theorem Llaws_eqStringS_4_eq (p0 : List D) (p1 : List D) (p2 : Int) : Llaws_eqStringS_4 p0 p1 p2 =
  br (decide (p2 < ni (List.length p0)))
   (grd (decide (0 ≤ p2) && decide (p2 < ni (List.length p0))) (oget p0 (Int.toNat p2) fun x0 =>
    asS x0 fun s1 => grd (decide (0 ≤ p2) && decide (p2 < ni (List.length p1))) (oget p1 (Int.toNat p2) fun x2 =>
      asS x2 fun s3 => br (!strEq s1 s3)
        (some ((.bool false), []))
        (Llaws_eqStringS_4 p0 p1 (IntKind.wrap IntKind.i64 (p2 + 1))))))
   (some ((.bool true), [])) := by
  exact (Rn_eq _ _ _).trans (by kernel_rfl)
theorem elaws_eqStringS (a0_ : List D) (a1_ : List D) : V 41 [.rs (1, 0) a0_, .rs (1, 0) a1_] =
  br (ni (List.length a0_) != ni (List.length a1_))
   (some ((.bool false), []))
   (Llaws_eqStringS_4 a0_ a1_ (0)) := by
  exact (Vn_eq Try.func41 rfl _).trans (by kernel_rfl)

theorem Llaws_toStringS_3_eq (p0 : List D) (p1 : Int) (p2 : List D) : Llaws_toStringS_3 p0 p1 p2 =
  br (decide (p1 < ni (List.length p0)))
   (grd (decide (0 ≤ p1) && decide (p1 < ni (List.length p0))) (oget p0 (Int.toNat p1) fun x0 =>
    asS x0 fun s1 => grd (decide (0 ≤ p1) && decide (p1 < ni (List.length p2))) (oget p2 (Int.toNat p1) fun x2 =>
      nam (List.set p2 (Int.toNat p1) (D.str s1)) fun l3 =>
       Llaws_toStringS_3 p0 (IntKind.wrap IntKind.i64 (p1 + 1)) l3)))
   (some ((.os (1, 0) p2), [])) := by
  exact (Rn_eq _ _ _).trans (by kernel_rfl)
theorem elaws_toStringS (a0_ : List D) : V 48 [.rs (1, 0) a0_] =
  grd (decide (0 ≤ ni (List.length a0_)) && decide (ni (List.length a0_) ≤ LIM)) (Llaws_toStringS_3 a0_ (0) (List.replicate (Int.toNat (ni (List.length a0_))) (D.str { data := #[] }))) := by
  exact (Vn_eq Try.func48 rfl _).trans (by kernel_rfl)

theorem Llaws_markText_4_eq (p0 : Int) (p1 : ByteArray) : Llaws_markText_4 p0 p1 =
  br (decide (p0 > 0))
   (obytes ([D.int IntKind.u8 (IntKind.wrap IntKind.u8 (IntKind.wrap IntKind.i64 (48 + Int.tmod p0 (10))))]) fun s0 => grd (decide (ni (ByteArray.size s0 + ByteArray.size p1) ≤ LIM)) (Llaws_markText_4 (IntKind.wrap IntKind.i64 (Int.tdiv p0 (10))) (s0 ++ p1)))
   (grd (decide (ni (ByteArray.size { data := #[109] } + ByteArray.size p1) ≤ LIM)) (some ((.str ({ data := #[109] } ++ p1)), []))) := by
  exact (Rn_eq _ _ _).trans (by kernel_rfl)
theorem elaws_markText (a0_ : Int) : V 59 [.int .i64 a0_] =
  br (decide (a0_ ≤ 0))
   (some ((.str ({ data := #[109, 48] })), []))
   (Llaws_markText_4 a0_ ({ data := #[] })) := by
  exact (Vn_eq Try.func59 rfl _).trans (by kernel_rfl)

theorem elaws_FnExactLinkShow (a0_0 : Int) (a0_1 : Int) (a0_2 : List D) (a0_3 : Int) (a0_4 : List D) : V 7 [.agg [.int .i64 a0_0, .int .i64 a0_1, .rs (1, 0) a0_2, .int .i64 a0_3, .rs (2, 0) a0_4]] =
  ocall V 13 [(.agg [(.int .i64 a0_0), (.int .i64 a0_1), (.rs (1, 0) a0_2), (.int .i64 a0_3), (.rs (2, 0) a0_4)]), (.int .i64 (1048576))] fun x0 l1 =>
   asI .i64 x0 fun n2 => unn l1 (br (decide (n2 < 0))
     (some ((.bool true), []))
     (ocall V 15 [(.agg [(.int .i64 a0_0), (.int .i64 a0_1), (.rs (1, 0) a0_2), (.int .i64 a0_3), (.rs (2, 0) a0_4)])] fun x3 l4 =>
      asAgg x3 fun l5 => unc l5 fun x6 l7 => asI .i64 x6 fun n8 => unc l7 fun x9 l10 => asI .i64 x9 fun n11 => unc l10 fun x12 l13 => asOs (1, 0) x12 fun l14 => unc l13 fun x15 l16 => asI .i64 x15 fun n17 => unc l16 fun x18 l19 => asOs (2, 0) x18 fun l20 => unn l19 (unn l4 (ocall V 21 [(.agg [(.int .i64 n8), (.int .i64 n11), (.rs (1, 0) l14), (.int .i64 n17), (.rs (2, 0) l20)])] fun x21 l22 =>
                  asOs (2, 0) x21 fun l23 => unn l22 (ocall V 15 [(.agg [(.int .i64 a0_0), (.int .i64 a0_1), (.rs (1, 0) a0_2), (.int .i64 a0_3), (.rs (2, 0) a0_4)])] fun x24 l25 =>
                    asAgg x24 fun l26 => unc l26 fun x27 l28 => asI .i64 x27 fun n29 => unc l28 fun x30 l31 => asI .i64 x30 fun n32 => unc l31 fun x33 l34 => asOs (1, 0) x33 fun l35 => unc l34 fun x36 l37 => asI .i64 x36 fun n38 => unc l37 fun x39 l40 => asOs (2, 0) x39 fun l41 => unn l40 (unn l25 (ocall V 20 [(.agg [(.int .i64 n29), (.int .i64 n32), (.rs (1, 0) l35), (.int .i64 n38), (.rs (2, 0) l41)])] fun x42 l43 =>
                                asOs (2, 0) x42 fun l44 => unn l43 (ocall V 29 [(.rs (2, 0) l44), (.rs (2, 0) l23)] fun x45 l46 =>
                                  asB x45 fun b47 => unn l46 (br (!b47)
                                    (some ((.bool false), []))
                                    (ocall V 15 [(.agg [(.int .i64 a0_0), (.int .i64 a0_1), (.rs (1, 0) a0_2), (.int .i64 a0_3), (.rs (2, 0) a0_4)])] fun x48 l49 =>
                                     asAgg x48 fun l50 => unc l50 fun x51 l52 => asI .i64 x51 fun n53 => unc l52 fun x54 l55 => asI .i64 x54 fun n56 => unc l55 fun x57 l58 => asOs (1, 0) x57 fun l59 => unc l58 fun x60 l61 => asI .i64 x60 fun n62 => unc l61 fun x63 l64 => asOs (2, 0) x63 fun l65 => unn l64 (unn l49 (ocall V 17 [(.agg [(.int .i64 n29), (.int .i64 n32), (.rs (1, 0) l35), (.int .i64 n38), (.rs (2, 0) l41)]), (.agg [(.int .i64 n53), (.int .i64 n56), (.rs (1, 0) l59), (.int .i64 n62), (.rs (2, 0) l65)])] fun x66 l67 =>
                                                 asB x66 fun b68 => unn l67 (br (!b68)
                                                   (some ((.bool false), []))
                                                   (ocall V 30 [(.agg [(.int .i64 n29), (.int .i64 n32), (.os (1, 0) l35), (.int .i64 n38), (.os (2, 0) l41)]), (.int .i64 (1))] fun x69 l70 =>
                                                    asI .i64 x69 fun n71 => unc l70 fun x72 l73 => asAgg x72 fun l74 => unc l74 fun x75 l76 => asI .i64 x75 fun n77 => unc l76 fun x78 l79 => asI .i64 x78 fun n80 => unc l79 fun x81 l82 => asOs (1, 0) x81 fun l83 => unc l82 fun x84 l85 => asI .i64 x84 fun n86 => unc l85 fun x87 l88 => asOs (2, 0) x87 fun l89 => unn l88 (unn l73 (br (decide (n71 < 0))
                                                                  (some ((.bool false), []))
                                                                  (ocall V 29 [(.rs (2, 0) l44), (.rs (2, 0) l23)] fun x90 l91 =>
                                                                   asB x90 fun b92 => unn l91 (br (!b92)
                                                                     (some ((.bool false), []))
                                                                     (ocall V 31 [(.os (2, 0) l44), (.int .i64 (1))] fun x93 l94 =>
                                                                      asI .i64 x93 fun n95 => unc l94 fun x96 l97 => asOs (2, 0) x96 fun l98 => unn l97 (ocall V 32 [(.rs (2, 0) l98), (.int .i64 (1))] fun x99 l100 =>
                                                                          asI .i64 x99 fun n101 => unn l100 (br (decide (n101 < 0))
                                                                            (some ((.bool false), []))
                                                                            (br (n101 != n95)
                                                                             (some ((.bool false), []))
                                                                             (ocall V 15 [(.agg [(.int .i64 a0_0), (.int .i64 a0_1), (.rs (1, 0) a0_2), (.int .i64 a0_3), (.rs (2, 0) a0_4)])] fun x102 l103 =>
                                                                              asAgg x102 fun l104 => unc l104 fun x105 l106 => asI .i64 x105 fun n107 => unc l106 fun x108 l109 => asI .i64 x108 fun n110 => unc l109 fun x111 l112 => asOs (1, 0) x111 fun l113 => unc l112 fun x114 l115 => asI .i64 x114 fun n116 => unc l115 fun x117 l118 => asOs (2, 0) x117 fun l119 => unn l118 (unn l103 (ocall V 20 [(.agg [(.int .i64 n107), (.int .i64 n110), (.rs (1, 0) l113), (.int .i64 n116), (.rs (2, 0) l119)])] fun x120 l121 =>
                                                                                          asOs (2, 0) x120 fun l122 => unn l121 (ocall V 29 [(.rs (2, 0) l122), (.rs (2, 0) l23)] fun x123 l124 =>
                                                                                            asB x123 fun b125 => unn l124 (br (!b125)
                                                                                              (some ((.bool false), []))
                                                                                              (ocall V 32 [(.rs (2, 0) l98), (.int .i64 (1))] fun x126 l127 =>
                                                                                               asI .i64 x126 fun n128 => unn l127 (br (decide (n128 < 0))
                                                                                                 (some ((.bool false), []))
                                                                                                 (br (n128 != n95)
                                                                                                  (some ((.bool false), []))
                                                                                                  (some ((.bool true), [])))))))))))))))))))))))))))))))) := by
  exact (Vn_eq Try.func7 rfl _).trans (by kernel_rfl)

theorem Limpl_LinkOk_4_eq (p0 : List D) (p1 : Int) (p2 : Int) (p3 : Int) (p4 : Int) (p5 : List D) (p6 : Int) (p7 : List D) : Limpl_LinkOk_4 p0 p1 p2 p3 p4 p5 p6 p7 =
  br (decide (p2 < p1))
   (grd (decide (0 ≤ p2) && decide (p2 < ni (List.length p0))) (oget p0 (Int.toNat p2) fun x9 =>
    asAgg x9 fun l10 => unc l10 fun x11 l12 => asI .i64 x11 fun n13 => unc l12 fun x14 l15 => asS x14 fun s16 => unn l15 (ocall V 50 [(.int .i64 n13), (.int .i64 (IntKind.wrap IntKind.i64 (p6 + 1))), (.int .i64 (IntKind.wrap IntKind.i64 (mnI (IntKind.wrap IntKind.i64 (p6 + 4)) p3 - 1)))] fun x17 l18 =>
          asB x17 fun b19 => unn l18 (br (!b19)
            (some ((.bool false), []))
            (br (decide (p2 > 0))
             (grd (decide (0 ≤ IntKind.wrap IntKind.i64 (p2 - 1)) && decide (IntKind.wrap IntKind.i64 (p2 - 1) < ni (List.length p7))) (oget p7 (Int.toNat (IntKind.wrap IntKind.i64 (p2 - 1))) fun x20 =>
              asAgg x20 fun l21 => oget l21 0 fun x22 =>
                asI .i64 x22 fun n23 => br (decide (n23 ≥ n13))
                  (some ((.bool false), []))
                  (Limpl_LinkOk_4 p0 p1 (IntKind.wrap IntKind.i64 (p2 + 1)) p3 p4 p5 p6 p7)))
             (Limpl_LinkOk_4 p0 p1 (IntKind.wrap IntKind.i64 (p2 + 1)) p3 p4 p5 p6 p7))))))
   (some ((.bool true), [])) := by
  exact (Rn_eq _ _ _).trans (by kernel_rfl)
theorem eimpl_LinkOk (a0_0 : Int) (a0_1 : Int) (a0_2 : List D) (a0_3 : Int) (a0_4 : List D) : V 16 [.agg [.int .i64 a0_0, .int .i64 a0_1, .rs (1, 0) a0_2, .int .i64 a0_3, .rs (2, 0) a0_4]] =
  ocall V 50 [(.int .i64 a0_0), (.int .i64 (0)), (.int .i64 (100000))] fun x0 l1 =>
   asB x0 fun b2 => unn l1 (br (!b2)
     (some ((.bool false), []))
     (ocall V 50 [(.int .i64 a0_3), (.int .i64 (0)), (.int .i64 a0_0)] fun x3 l4 =>
      asB x3 fun b5 => unn l4 (br (!b5)
        (some ((.bool false), []))
        (ocall V 50 [(.int .i64 a0_1), (.int .i64 (0)), (.int .i64 a0_3)] fun x6 l7 =>
         asB x6 fun b8 => unn l7 (br (!b8)
           (some ((.bool false), []))
           (br (ni (List.length a0_2) != IntKind.wrap IntKind.i64 (a0_0 - a0_1))
            (some ((.bool false), []))
            (br (decide (ni (List.length a0_2) > 30))
             (some ((.bool false), []))
             (Limpl_LinkOk_4 a0_4 (ni (List.length a0_4)) (0) a0_0 a0_1 a0_2 a0_3 a0_4)))))))) := by
  exact (Vn_eq Try.func16 rfl _).trans (by kernel_rfl)

theorem espec_LinkSend (a0_0 : Int) (a0_1 : Int) (a0_2 : List D) (a0_3 : Int) (a0_4 : List D) (a1_ : ByteArray) : V 28 [.agg [.int .i64 a0_0, .int .i64 a0_1, .rs (1, 0) a0_2, .int .i64 a0_3, .rs (2, 0) a0_4], .str a1_] =
  ocall V 14 [(.agg [(.int .i64 a0_0), (.int .i64 a0_1), (.rs (1, 0) a0_2), (.int .i64 a0_3), (.rs (2, 0) a0_4)])] fun x0 l1 =>
   asB x0 fun b2 => unn l1 (br (!b2)
     (some ((.tup [(.agg [(.int .i64 (0)), (.int .i64 (0)), (.os (1, 0) []), (.int .i64 (0)), (.os (2, 0) [])]), (.bool false)]), []))
     (ocall V 56 [(.agg [(.int .i64 a0_0), (.int .i64 a0_1), (.rs (1, 0) a0_2), (.int .i64 a0_3), (.rs (2, 0) a0_4)])] fun x3 l4 =>
      asAgg x3 fun l5 => unc l5 fun x6 l7 => asI .i64 x6 fun n8 => unc l7 fun x9 l10 => asI .i64 x9 fun n11 => unc l10 fun x12 l13 => asOs (1, 0) x12 fun l14 => unc l13 fun x15 l16 => asI .i64 x15 fun n17 => unc l16 fun x18 l19 => asOs (2, 0) x18 fun l20 => unn l19 (unn l4 (grd (decide (ni (List.length (l14 ++ [D.str a1_])) ≤ LIM)) (nam (l14 ++ [D.str a1_]) fun l21 =>
                  ocall V 14 [(.agg [(.int .i64 (IntKind.wrap IntKind.i64 (a0_0 + 1))), (.int .i64 n11), (.rs (1, 0) l21), (.int .i64 n17), (.rs (2, 0) l20)])] fun x22 l23 =>
                   asB x22 fun b24 => unn l23 (br (!b24)
                     (ocall V 56 [(.agg [(.int .i64 a0_0), (.int .i64 a0_1), (.rs (1, 0) a0_2), (.int .i64 a0_3), (.rs (2, 0) a0_4)])] fun x25 l26 =>
                      asAgg x25 fun l27 => unc l27 fun x28 l29 => asI .i64 x28 fun n30 => unc l29 fun x31 l32 => asI .i64 x31 fun n33 => unc l32 fun x34 l35 => asOs (1, 0) x34 fun l36 => unc l35 fun x37 l38 => asI .i64 x37 fun n39 => unc l38 fun x40 l41 => asOs (2, 0) x40 fun l42 => unn l41 (unn l26 (some ((.tup [(.agg [(.int .i64 n30), (.int .i64 n33), (.os (1, 0) l36), (.int .i64 n39), (.os (2, 0) l42)]), (.bool false)]), []))))
                     (some ((.tup [(.agg [(.int .i64 (IntKind.wrap IntKind.i64 (a0_0 + 1))), (.int .i64 n11), (.os (1, 0) l21), (.int .i64 n17), (.os (2, 0) l20)]), (.bool true)]), [])))))))) := by
  exact (Vn_eq Try.func28 rfl _).trans (by kernel_rfl)

theorem Llaws_markStringS_2_eq (p0 : Int) (p1 : Int) (p2 : List D) : Llaws_markStringS_2 p0 p1 p2 =
  br (decide (p1 < ni (List.length p2)))
   (ocall V 59 [(.int .i64 p0)] fun x0 l1 =>
    asS x0 fun s2 => unn l1 (grd (decide (0 ≤ p1) && decide (p1 < ni (List.length p2))) (oget p2 (Int.toNat p1) fun x3 =>
      nam (List.set p2 (Int.toNat p1) (D.str s2)) fun l4 =>
       Llaws_markStringS_2 (IntKind.wrap IntKind.i64 (p0 + 1)) (IntKind.wrap IntKind.i64 (p1 + 1)) l4)))
   (some ((.int .i64 p0), [(.os (1, 0) p2)])) := by
  exact (Rn_eq _ _ _).trans (by kernel_rfl)
theorem elaws_markStringS (a0_ : List D) (a1_ : Int) : V 42 [.os (1, 0) a0_, .int .i64 a1_] =
  Llaws_markStringS_2 a1_ (0) a0_ := by
  exact (Vn_eq Try.func42 rfl _).trans (by kernel_rfl)

theorem Llaws_toPieceS_3_eq (p0 : List D) (p1 : Int) (p2 : List D) : Llaws_toPieceS_3 p0 p1 p2 =
  br (decide (p1 < ni (List.length p0)))
   (grd (decide (0 ≤ p1) && decide (p1 < ni (List.length p0))) (oget p0 (Int.toNat p1) fun x0 =>
    asAgg x0 fun l1 => unc l1 fun x2 l3 => asI .i64 x2 fun n4 => unc l3 fun x5 l6 => asS x5 fun s7 => unn l6 (ocall V 40 [(.agg [(.int .i64 n4), (.str s7)])] fun x8 l9 =>
          asAgg x8 fun l10 => unc l10 fun x11 l12 => asI .i64 x11 fun n13 => unc l12 fun x14 l15 => asS x14 fun s16 => unn l15 (unn l9 (grd (decide (0 ≤ p1) && decide (p1 < ni (List.length p2))) (oget p2 (Int.toNat p1) fun x17 =>
                nam (List.set p2 (Int.toNat p1) (D.agg [D.int IntKind.i64 n13, D.str s16])) fun l18 =>
                 Llaws_toPieceS_3 p0 (IntKind.wrap IntKind.i64 (p1 + 1)) l18))))))
   (some ((.os (2, 0) p2), [])) := by
  exact (Rn_eq _ _ _).trans (by kernel_rfl)
theorem elaws_toPieceS (a0_ : List D) : V 49 [.rs (2, 0) a0_] =
  grd (decide (0 ≤ ni (List.length a0_)) && decide (ni (List.length a0_) ≤ LIM)) (Llaws_toPieceS_3 a0_ (0) (List.replicate (Int.toNat (ni (List.length a0_))) (D.agg [D.int IntKind.i64 (0), D.str { data := #[] }]))) := by
  exact (Vn_eq Try.func49 rfl _).trans (by kernel_rfl)

theorem eslices_Clone_impl_Piece_impl_Piece (a0_ : List D) : V 63 [.rs (2, 0) a0_] =
  nilb a0_
   (some ((.os (2, 0) []), []))
   (grd (decide (ni (List.length ([] ++ a0_)) ≤ LIM)) (nam ([] ++ a0_) fun l0 =>
    some ((.os (2, 0) l0), []))) := by
  exact (Vn_eq Try.func63 rfl _).trans (by kernel_rfl)

theorem elaws_FnExactLinkAck (a0_0 : Int) (a0_1 : Int) (a0_2 : List D) (a0_3 : Int) (a0_4 : List D) (a1_ : Int) : V 9 [.agg [.int .i64 a0_0, .int .i64 a0_1, .rs (1, 0) a0_2, .int .i64 a0_3, .rs (2, 0) a0_4], .int .i64 a1_] =
  ocall V 13 [(.agg [(.int .i64 a0_0), (.int .i64 a0_1), (.rs (1, 0) a0_2), (.int .i64 a0_3), (.rs (2, 0) a0_4)]), (.int .i64 (1048576))] fun x0 l1 =>
   asI .i64 x0 fun n2 => unn l1 (br (decide (n2 < 0))
     (some ((.bool true), []))
     (ocall V 15 [(.agg [(.int .i64 a0_0), (.int .i64 a0_1), (.rs (1, 0) a0_2), (.int .i64 a0_3), (.rs (2, 0) a0_4)])] fun x3 l4 =>
      asAgg x3 fun l5 => unc l5 fun x6 l7 => asI .i64 x6 fun n8 => unc l7 fun x9 l10 => asI .i64 x9 fun n11 => unc l10 fun x12 l13 => asOs (1, 0) x12 fun l14 => unc l13 fun x15 l16 => asI .i64 x15 fun n17 => unc l16 fun x18 l19 => asOs (2, 0) x18 fun l20 => unn l19 (unn l4 (ocall V 24 [(.agg [(.int .i64 n8), (.int .i64 n11), (.rs (1, 0) l14), (.int .i64 n17), (.rs (2, 0) l20)]), (.int .i64 a1_)] fun x21 l22 =>
                  asTup x21 fun l23 => unc l23 fun x24 l25 => asAgg x24 fun l26 => unc l26 fun x27 l28 => asI .i64 x27 fun n29 => unc l28 fun x30 l31 => asI .i64 x30 fun n32 => unc l31 fun x33 l34 => asOs (1, 0) x33 fun l35 => unc l34 fun x36 l37 => asI .i64 x36 fun n38 => unc l37 fun x39 l40 => asOs (2, 0) x39 fun l41 => unn l40 (unc l25 fun x42 l43 => asB x42 fun b44 => unn l43 (unn l22 (ocall V 15 [(.agg [(.int .i64 a0_0), (.int .i64 a0_1), (.rs (1, 0) a0_2), (.int .i64 a0_3), (.rs (2, 0) a0_4)])] fun x45 l46 =>
                                  asAgg x45 fun l47 => unc l47 fun x48 l49 => asI .i64 x48 fun n50 => unc l49 fun x51 l52 => asI .i64 x51 fun n53 => unc l52 fun x54 l55 => asOs (1, 0) x54 fun l56 => unc l55 fun x57 l58 => asI .i64 x57 fun n59 => unc l58 fun x60 l61 => asOs (2, 0) x60 fun l62 => unn l61 (unn l46 (ocall V 23 [(.agg [(.int .i64 n50), (.int .i64 n53), (.rs (1, 0) l56), (.int .i64 n59), (.rs (2, 0) l62)]), (.int .i64 a1_)] fun x63 l64 =>
                                              asTup x63 fun l65 => unc l65 fun x66 l67 => asAgg x66 fun l68 => unc l68 fun x69 l70 => asI .i64 x69 fun n71 => unc l70 fun x72 l73 => asI .i64 x72 fun n74 => unc l73 fun x75 l76 => asOs (1, 0) x75 fun l77 => unc l76 fun x78 l79 => asI .i64 x78 fun n80 => unc l79 fun x81 l82 => asOs (2, 0) x81 fun l83 => unn l82 (unc l67 fun x84 l85 => asB x84 fun b86 => unn l85 (unn l64 (ocall V 17 [(.agg [(.int .i64 n71), (.int .i64 n74), (.rs (1, 0) l77), (.int .i64 n80), (.rs (2, 0) l83)]), (.agg [(.int .i64 n29), (.int .i64 n32), (.rs (1, 0) l35), (.int .i64 n38), (.rs (2, 0) l41)])] fun x87 l88 =>
                                                              asB x87 fun b89 => unn l88 (br (!b89)
                                                                (some ((.bool false), []))
                                                                (br (!b86 == b44)
                                                                 (some ((.bool false), []))
                                                                 (ocall V 15 [(.agg [(.int .i64 a0_0), (.int .i64 a0_1), (.rs (1, 0) a0_2), (.int .i64 a0_3), (.rs (2, 0) a0_4)])] fun x90 l91 =>
                                                                  asAgg x90 fun l92 => unc l92 fun x93 l94 => asI .i64 x93 fun n95 => unc l94 fun x96 l97 => asI .i64 x96 fun n98 => unc l97 fun x99 l100 => asOs (1, 0) x99 fun l101 => unc l100 fun x102 l103 => asI .i64 x102 fun n104 => unc l103 fun x105 l106 => asOs (2, 0) x105 fun l107 => unn l106 (unn l91 (ocall V 17 [(.agg [(.int .i64 n50), (.int .i64 n53), (.rs (1, 0) l56), (.int .i64 n59), (.rs (2, 0) l62)]), (.agg [(.int .i64 n95), (.int .i64 n98), (.rs (1, 0) l101), (.int .i64 n104), (.rs (2, 0) l107)])] fun x108 l109 =>
                                                                              asB x108 fun b110 => unn l109 (br (!b110)
                                                                                (some ((.bool false), []))
                                                                                (ocall V 30 [(.agg [(.int .i64 n50), (.int .i64 n53), (.os (1, 0) l56), (.int .i64 n59), (.os (2, 0) l62)]), (.int .i64 (1))] fun x111 l112 =>
                                                                                 asI .i64 x111 fun n113 => unc l112 fun x114 l115 => asAgg x114 fun l116 => unc l116 fun x117 l118 => asI .i64 x117 fun n119 => unc l118 fun x120 l121 => asI .i64 x120 fun n122 => unc l121 fun x123 l124 => asOs (1, 0) x123 fun l125 => unc l124 fun x126 l127 => asI .i64 x126 fun n128 => unc l127 fun x129 l130 => asOs (2, 0) x129 fun l131 => unn l130 (unn l115 (br (decide (n113 < 0))
                                                                                               (some ((.bool false), []))
                                                                                               (ocall V 17 [(.agg [(.int .i64 n71), (.int .i64 n74), (.rs (1, 0) l77), (.int .i64 n80), (.rs (2, 0) l83)]), (.agg [(.int .i64 n29), (.int .i64 n32), (.rs (1, 0) l35), (.int .i64 n38), (.rs (2, 0) l41)])] fun x132 l133 =>
                                                                                                asB x132 fun b134 => unn l133 (br (!b134)
                                                                                                  (some ((.bool false), []))
                                                                                                  (br (!b86 == b44)
                                                                                                   (some ((.bool false), []))
                                                                                                   (ocall V 30 [(.agg [(.int .i64 n71), (.int .i64 n74), (.os (1, 0) l77), (.int .i64 n80), (.os (2, 0) l83)]), (.int .i64 (1))] fun x135 l136 =>
                                                                                                    asI .i64 x135 fun n137 => unc l136 fun x138 l139 => asAgg x138 fun l140 => unc l140 fun x141 l142 => asI .i64 x141 fun n143 => unc l142 fun x144 l145 => asI .i64 x144 fun n146 => unc l145 fun x147 l148 => asOs (1, 0) x147 fun l149 => unc l148 fun x150 l151 => asI .i64 x150 fun n152 => unc l151 fun x153 l154 => asOs (2, 0) x153 fun l155 => unn l154 (unn l139 (ocall V 36 [(.agg [(.int .i64 n71), (.int .i64 n74), (.rs (1, 0) l149), (.int .i64 n80), (.rs (2, 0) l155)]), (.int .i64 (1))] fun x156 l157 =>
                                                                                                                  asI .i64 x156 fun n158 => unn l157 (br (decide (n158 < 0))
                                                                                                                    (some ((.bool false), []))
                                                                                                                    (br (n158 != n137)
                                                                                                                     (some ((.bool false), []))
                                                                                                                     (ocall V 15 [(.agg [(.int .i64 a0_0), (.int .i64 a0_1), (.rs (1, 0) a0_2), (.int .i64 a0_3), (.rs (2, 0) a0_4)])] fun x159 l160 =>
                                                                                                                      asAgg x159 fun l161 => unc l161 fun x162 l163 => asI .i64 x162 fun n164 => unc l163 fun x165 l166 => asI .i64 x165 fun n167 => unc l166 fun x168 l169 => asOs (1, 0) x168 fun l170 => unc l169 fun x171 l172 => asI .i64 x171 fun n173 => unc l172 fun x174 l175 => asOs (2, 0) x174 fun l176 => unn l175 (unn l160 (ocall V 23 [(.agg [(.int .i64 n164), (.int .i64 n167), (.rs (1, 0) l170), (.int .i64 n173), (.rs (2, 0) l176)]), (.int .i64 a1_)] fun x177 l178 =>
                                                                                                                                  asTup x177 fun l179 => unc l179 fun x180 l181 => asAgg x180 fun l182 => unc l182 fun x183 l184 => asI .i64 x183 fun n185 => unc l184 fun x186 l187 => asI .i64 x186 fun n188 => unc l187 fun x189 l190 => asOs (1, 0) x189 fun l191 => unc l190 fun x192 l193 => asI .i64 x192 fun n194 => unc l193 fun x195 l196 => asOs (2, 0) x195 fun l197 => unn l196 (unc l181 fun x198 l199 => asB x198 fun b200 => unn l199 (unn l178 (ocall V 17 [(.agg [(.int .i64 n185), (.int .i64 n188), (.rs (1, 0) l191), (.int .i64 n194), (.rs (2, 0) l197)]), (.agg [(.int .i64 n29), (.int .i64 n32), (.rs (1, 0) l35), (.int .i64 n38), (.rs (2, 0) l41)])] fun x201 l202 =>
                                                                                                                                                  asB x201 fun b203 => unn l202 (br (!b203)
                                                                                                                                                    (some ((.bool false), []))
                                                                                                                                                    (br (!b200 == b44)
                                                                                                                                                     (some ((.bool false), []))
                                                                                                                                                     (ocall V 36 [(.agg [(.int .i64 n71), (.int .i64 n74), (.rs (1, 0) l149), (.int .i64 n80), (.rs (2, 0) l155)]), (.int .i64 (1))] fun x204 l205 =>
                                                                                                                                                      asI .i64 x204 fun n206 => unn l205 (br (decide (n206 < 0))
                                                                                                                                                        (some ((.bool false), []))
                                                                                                                                                        (br (n206 != n137)
                                                                                                                                                         (some ((.bool false), []))
                                                                                                                                                         (some ((.bool true), [])))))))))))))))))))))))))))))))))))))))))) := by
  exact (Vn_eq Try.func9 rfl _).trans (by kernel_rfl)

theorem elaws_eqLink (a0_0 : Int) (a0_1 : Int) (a0_2 : List D) (a0_3 : Int) (a0_4 : List D) (a1_0 : Int) (a1_1 : Int) (a1_2 : List D) (a1_3 : Int) (a1_4 : List D) : V 17 [.agg [.int .i64 a0_0, .int .i64 a0_1, .rs (1, 0) a0_2, .int .i64 a0_3, .rs (2, 0) a0_4], .agg [.int .i64 a1_0, .int .i64 a1_1, .rs (1, 0) a1_2, .int .i64 a1_3, .rs (2, 0) a1_4]] =
  br (a0_0 != a1_0)
   (some ((.bool false), []))
   (br (a0_1 != a1_1)
    (some ((.bool false), []))
    (ocall V 41 [(.rs (1, 0) a0_2), (.rs (1, 0) a1_2)] fun x0 l1 =>
     asB x0 fun b2 => unn l1 (br (!b2)
       (some ((.bool false), []))
       (br (a0_3 != a1_3)
        (some ((.bool false), []))
        (ocall V 29 [(.rs (2, 0) a0_4), (.rs (2, 0) a1_4)] fun x3 l4 =>
         asB x3 fun b5 => unn l4 (br (!b5)
           (some ((.bool false), []))
           (some ((.bool true), [])))))))) := by
  exact (Vn_eq Try.func17 rfl _).trans (by kernel_rfl)

theorem Llaws_eqPieceS_4_eq (p0 : List D) (p1 : List D) (p2 : Int) : Llaws_eqPieceS_4 p0 p1 p2 =
  br (decide (p2 < ni (List.length p0)))
   (grd (decide (0 ≤ p2) && decide (p2 < ni (List.length p0))) (oget p0 (Int.toNat p2) fun x0 =>
    asAgg x0 fun l1 => unc l1 fun x2 l3 => asI .i64 x2 fun n4 => unc l3 fun x5 l6 => asS x5 fun s7 => unn l6 (grd (decide (0 ≤ p2) && decide (p2 < ni (List.length p1))) (oget p1 (Int.toNat p2) fun x8 =>
          asAgg x8 fun l9 => unc l9 fun x10 l11 => asI .i64 x10 fun n12 => unc l11 fun x13 l14 => asS x13 fun s15 => unn l14 (ocall V 58 [(.agg [(.int .i64 n4), (.str s7)]), (.agg [(.int .i64 n12), (.str s15)])] fun x16 l17 =>
                asB x16 fun b18 => unn l17 (br (!b18)
                  (some ((.bool false), []))
                  (Llaws_eqPieceS_4 p0 p1 (IntKind.wrap IntKind.i64 (p2 + 1)))))))))
   (some ((.bool true), [])) := by
  exact (Rn_eq _ _ _).trans (by kernel_rfl)
theorem elaws_eqPieceS (a0_ : List D) (a1_ : List D) : V 29 [.rs (2, 0) a0_, .rs (2, 0) a1_] =
  br (ni (List.length a0_) != ni (List.length a1_))
   (some ((.bool false), []))
   (Llaws_eqPieceS_4 a0_ a1_ (0)) := by
  exact (Vn_eq Try.func29 rfl _).trans (by kernel_rfl)

theorem Llaws_heldStringS_2_eq (p0 : List D) (p1 : Int) (p2 : Int) : Llaws_heldStringS_2 p0 p1 p2 =
  br (decide (p2 < ni (List.length p0)))
   (grd (decide (0 ≤ p2) && decide (p2 < ni (List.length p0))) (oget p0 (Int.toNat p2) fun x0 =>
    asS x0 fun s1 => ocall V 59 [(.int .i64 p1)] fun x2 l3 =>
      asS x2 fun s4 => unn l3 (br (!strEq s1 s4)
        (some ((.int .i64 (-1)), []))
        (Llaws_heldStringS_2 p0 (IntKind.wrap IntKind.i64 (p1 + 1)) (IntKind.wrap IntKind.i64 (p2 + 1))))))
   (some ((.int .i64 p1), [])) := by
  exact (Rn_eq _ _ _).trans (by kernel_rfl)
theorem elaws_heldStringS (a0_ : List D) (a1_ : Int) : V 43 [.rs (1, 0) a0_, .int .i64 a1_] =
  Llaws_heldStringS_2 a0_ a1_ (0) := by
  exact (Vn_eq Try.func43 rfl _).trans (by kernel_rfl)

theorem eimpl_within (a0_ : Int) (a1_ : Int) (a2_ : Int) : V 50 [.int .i64 a0_, .int .i64 a1_, .int .i64 a2_] =
  br (decide (a0_ ≥ a1_))
   (some ((.bool (decide (a0_ ≤ a2_))), []))
   (some ((.bool false), [])) := by
  exact (Vn_eq Try.func50 rfl _).trans (by kernel_rfl)

theorem elaws_szPiece (a0_0 : Int) (a0_1 : ByteArray) (a1_ : Int) : V 39 [.agg [.int .i64 a0_0, .str a0_1], .int .i64 a1_] =
  br (decide (IntKind.wrap IntKind.i64 (a1_ - ni (ByteArray.size a0_1)) < 0))
   (some ((.int .i64 (-1)), []))
   (some ((.int .i64 (IntKind.wrap IntKind.i64 (a1_ - ni (ByteArray.size a0_1)))), [])) := by
  exact (Vn_eq Try.func39 rfl _).trans (by kernel_rfl)

theorem elaws_FnExactLinkSend (a0_0 : Int) (a0_1 : Int) (a0_2 : List D) (a0_3 : Int) (a0_4 : List D) (a1_ : ByteArray) : V 10 [.agg [.int .i64 a0_0, .int .i64 a0_1, .rs (1, 0) a0_2, .int .i64 a0_3, .rs (2, 0) a0_4], .str a1_] =
  br (decide (ni (ByteArray.size a1_) > 1048576))
   (some ((.bool true), []))
   (ocall V 13 [(.agg [(.int .i64 a0_0), (.int .i64 a0_1), (.rs (1, 0) a0_2), (.int .i64 a0_3), (.rs (2, 0) a0_4)]), (.int .i64 (1048576))] fun x0 l1 =>
    asI .i64 x0 fun n2 => unn l1 (br (decide (n2 < 0))
      (some ((.bool true), []))
      (ocall V 15 [(.agg [(.int .i64 a0_0), (.int .i64 a0_1), (.rs (1, 0) a0_2), (.int .i64 a0_3), (.rs (2, 0) a0_4)])] fun x3 l4 =>
       asAgg x3 fun l5 => unc l5 fun x6 l7 => asI .i64 x6 fun n8 => unc l7 fun x9 l10 => asI .i64 x9 fun n11 => unc l10 fun x12 l13 => asOs (1, 0) x12 fun l14 => unc l13 fun x15 l16 => asI .i64 x15 fun n17 => unc l16 fun x18 l19 => asOs (2, 0) x18 fun l20 => unn l19 (unn l4 (ocall V 28 [(.agg [(.int .i64 n8), (.int .i64 n11), (.rs (1, 0) l14), (.int .i64 n17), (.rs (2, 0) l20)]), (.str a1_)] fun x21 l22 =>
                   asTup x21 fun l23 => unc l23 fun x24 l25 => asAgg x24 fun l26 => unc l26 fun x27 l28 => asI .i64 x27 fun n29 => unc l28 fun x30 l31 => asI .i64 x30 fun n32 => unc l31 fun x33 l34 => asOs (1, 0) x33 fun l35 => unc l34 fun x36 l37 => asI .i64 x36 fun n38 => unc l37 fun x39 l40 => asOs (2, 0) x39 fun l41 => unn l40 (unc l25 fun x42 l43 => asB x42 fun b44 => unn l43 (unn l22 (ocall V 15 [(.agg [(.int .i64 a0_0), (.int .i64 a0_1), (.rs (1, 0) a0_2), (.int .i64 a0_3), (.rs (2, 0) a0_4)])] fun x45 l46 =>
                                   asAgg x45 fun l47 => unc l47 fun x48 l49 => asI .i64 x48 fun n50 => unc l49 fun x51 l52 => asI .i64 x51 fun n53 => unc l52 fun x54 l55 => asOs (1, 0) x54 fun l56 => unc l55 fun x57 l58 => asI .i64 x57 fun n59 => unc l58 fun x60 l61 => asOs (2, 0) x60 fun l62 => unn l61 (unn l46 (ocall V 27 [(.agg [(.int .i64 n50), (.int .i64 n53), (.rs (1, 0) l56), (.int .i64 n59), (.rs (2, 0) l62)]), (.str a1_)] fun x63 l64 =>
                                               asTup x63 fun l65 => unc l65 fun x66 l67 => asAgg x66 fun l68 => unc l68 fun x69 l70 => asI .i64 x69 fun n71 => unc l70 fun x72 l73 => asI .i64 x72 fun n74 => unc l73 fun x75 l76 => asOs (1, 0) x75 fun l77 => unc l76 fun x78 l79 => asI .i64 x78 fun n80 => unc l79 fun x81 l82 => asOs (2, 0) x81 fun l83 => unn l82 (unc l67 fun x84 l85 => asB x84 fun b86 => unn l85 (unn l64 (ocall V 17 [(.agg [(.int .i64 n71), (.int .i64 n74), (.rs (1, 0) l77), (.int .i64 n80), (.rs (2, 0) l83)]), (.agg [(.int .i64 n29), (.int .i64 n32), (.rs (1, 0) l35), (.int .i64 n38), (.rs (2, 0) l41)])] fun x87 l88 =>
                                                               asB x87 fun b89 => unn l88 (br (!b89)
                                                                 (some ((.bool false), []))
                                                                 (br (!b86 == b44)
                                                                  (some ((.bool false), []))
                                                                  (ocall V 15 [(.agg [(.int .i64 a0_0), (.int .i64 a0_1), (.rs (1, 0) a0_2), (.int .i64 a0_3), (.rs (2, 0) a0_4)])] fun x90 l91 =>
                                                                   asAgg x90 fun l92 => unc l92 fun x93 l94 => asI .i64 x93 fun n95 => unc l94 fun x96 l97 => asI .i64 x96 fun n98 => unc l97 fun x99 l100 => asOs (1, 0) x99 fun l101 => unc l100 fun x102 l103 => asI .i64 x102 fun n104 => unc l103 fun x105 l106 => asOs (2, 0) x105 fun l107 => unn l106 (unn l91 (ocall V 17 [(.agg [(.int .i64 n50), (.int .i64 n53), (.rs (1, 0) l56), (.int .i64 n59), (.rs (2, 0) l62)]), (.agg [(.int .i64 n95), (.int .i64 n98), (.rs (1, 0) l101), (.int .i64 n104), (.rs (2, 0) l107)])] fun x108 l109 =>
                                                                               asB x108 fun b110 => unn l109 (br (!b110)
                                                                                 (some ((.bool false), []))
                                                                                 (ocall V 30 [(.agg [(.int .i64 n50), (.int .i64 n53), (.os (1, 0) l56), (.int .i64 n59), (.os (2, 0) l62)]), (.int .i64 (1))] fun x111 l112 =>
                                                                                  asI .i64 x111 fun n113 => unc l112 fun x114 l115 => asAgg x114 fun l116 => unc l116 fun x117 l118 => asI .i64 x117 fun n119 => unc l118 fun x120 l121 => asI .i64 x120 fun n122 => unc l121 fun x123 l124 => asOs (1, 0) x123 fun l125 => unc l124 fun x126 l127 => asI .i64 x126 fun n128 => unc l127 fun x129 l130 => asOs (2, 0) x129 fun l131 => unn l130 (unn l115 (br (decide (n113 < 0))
                                                                                                (some ((.bool false), []))
                                                                                                (ocall V 17 [(.agg [(.int .i64 n71), (.int .i64 n74), (.rs (1, 0) l77), (.int .i64 n80), (.rs (2, 0) l83)]), (.agg [(.int .i64 n29), (.int .i64 n32), (.rs (1, 0) l35), (.int .i64 n38), (.rs (2, 0) l41)])] fun x132 l133 =>
                                                                                                 asB x132 fun b134 => unn l133 (br (!b134)
                                                                                                   (some ((.bool false), []))
                                                                                                   (br (!b86 == b44)
                                                                                                    (some ((.bool false), []))
                                                                                                    (ocall V 30 [(.agg [(.int .i64 n71), (.int .i64 n74), (.os (1, 0) l77), (.int .i64 n80), (.os (2, 0) l83)]), (.int .i64 (1))] fun x135 l136 =>
                                                                                                     asI .i64 x135 fun n137 => unc l136 fun x138 l139 => asAgg x138 fun l140 => unc l140 fun x141 l142 => asI .i64 x141 fun n143 => unc l142 fun x144 l145 => asI .i64 x144 fun n146 => unc l145 fun x147 l148 => asOs (1, 0) x147 fun l149 => unc l148 fun x150 l151 => asI .i64 x150 fun n152 => unc l151 fun x153 l154 => asOs (2, 0) x153 fun l155 => unn l154 (unn l139 (ocall V 36 [(.agg [(.int .i64 n71), (.int .i64 n74), (.rs (1, 0) l149), (.int .i64 n80), (.rs (2, 0) l155)]), (.int .i64 (1))] fun x156 l157 =>
                                                                                                                   asI .i64 x156 fun n158 => unn l157 (br (decide (n158 < 0))
                                                                                                                     (some ((.bool false), []))
                                                                                                                     (br (n158 != n137)
                                                                                                                      (some ((.bool false), []))
                                                                                                                      (ocall V 15 [(.agg [(.int .i64 a0_0), (.int .i64 a0_1), (.rs (1, 0) a0_2), (.int .i64 a0_3), (.rs (2, 0) a0_4)])] fun x159 l160 =>
                                                                                                                       asAgg x159 fun l161 => unc l161 fun x162 l163 => asI .i64 x162 fun n164 => unc l163 fun x165 l166 => asI .i64 x165 fun n167 => unc l166 fun x168 l169 => asOs (1, 0) x168 fun l170 => unc l169 fun x171 l172 => asI .i64 x171 fun n173 => unc l172 fun x174 l175 => asOs (2, 0) x174 fun l176 => unn l175 (unn l160 (ocall V 27 [(.agg [(.int .i64 n164), (.int .i64 n167), (.rs (1, 0) l170), (.int .i64 n173), (.rs (2, 0) l176)]), (.str a1_)] fun x177 l178 =>
                                                                                                                                   asTup x177 fun l179 => unc l179 fun x180 l181 => asAgg x180 fun l182 => unc l182 fun x183 l184 => asI .i64 x183 fun n185 => unc l184 fun x186 l187 => asI .i64 x186 fun n188 => unc l187 fun x189 l190 => asOs (1, 0) x189 fun l191 => unc l190 fun x192 l193 => asI .i64 x192 fun n194 => unc l193 fun x195 l196 => asOs (2, 0) x195 fun l197 => unn l196 (unc l181 fun x198 l199 => asB x198 fun b200 => unn l199 (unn l178 (ocall V 17 [(.agg [(.int .i64 n185), (.int .i64 n188), (.rs (1, 0) l191), (.int .i64 n194), (.rs (2, 0) l197)]), (.agg [(.int .i64 n29), (.int .i64 n32), (.rs (1, 0) l35), (.int .i64 n38), (.rs (2, 0) l41)])] fun x201 l202 =>
                                                                                                                                                   asB x201 fun b203 => unn l202 (br (!b203)
                                                                                                                                                     (some ((.bool false), []))
                                                                                                                                                     (br (!b200 == b44)
                                                                                                                                                      (some ((.bool false), []))
                                                                                                                                                      (ocall V 36 [(.agg [(.int .i64 n71), (.int .i64 n74), (.rs (1, 0) l149), (.int .i64 n80), (.rs (2, 0) l155)]), (.int .i64 (1))] fun x204 l205 =>
                                                                                                                                                       asI .i64 x204 fun n206 => unn l205 (br (decide (n206 < 0))
                                                                                                                                                         (some ((.bool false), []))
                                                                                                                                                         (br (n206 != n137)
                                                                                                                                                          (some ((.bool false), []))
                                                                                                                                                          (some ((.bool true), []))))))))))))))))))))))))))))))))))))))))))) := by
  exact (Vn_eq Try.func10 rfl _).trans (by kernel_rfl)

theorem Limpl_LinkShow_5_eq (p0 : List D) (p1 : Int) (p2 : Int) (p3 : Int) (p4 : Int) (p5 : List D) (p6 : Int) (p7 : List D) (p8 : List D) : Limpl_LinkShow_5 p0 p1 p2 p3 p4 p5 p6 p7 p8 =
  br (decide (p2 < p1))
   (grd (decide (0 ≤ p2) && decide (p2 < ni (List.length p0))) (oget p0 (Int.toNat p2) fun x3 =>
    asS x3 fun s4 => grd (decide (ni (List.length (p8 ++ [D.agg [D.int IntKind.i64 (IntKind.wrap IntKind.i64 (p4 + p2)), D.str s4]])) ≤ LIM)) (nam (p8 ++ [D.agg [D.int IntKind.i64 (IntKind.wrap IntKind.i64 (p4 + p2)), D.str s4]]) fun l5 =>
      Limpl_LinkShow_5 p0 p1 (IntKind.wrap IntKind.i64 (p2 + 1)) p3 p4 p5 p6 p7 l5)))
   (some ((.os (2, 0) p8), [])) := by
  exact (Rn_eq _ _ _).trans (by kernel_rfl)
theorem eimpl_LinkShow (a0_0 : Int) (a0_1 : Int) (a0_2 : List D) (a0_3 : Int) (a0_4 : List D) : V 20 [.agg [.int .i64 a0_0, .int .i64 a0_1, .rs (1, 0) a0_2, .int .i64 a0_3, .rs (2, 0) a0_4]] =
  ocall V 16 [(.agg [(.int .i64 a0_0), (.int .i64 a0_1), (.rs (1, 0) a0_2), (.int .i64 a0_3), (.rs (2, 0) a0_4)])] fun x0 l1 =>
   asB x0 fun b2 => unn l1 (br (!b2)
     (some ((.os (2, 0) []), []))
     (grd (cutOk (List.length a0_2) none (some (mnI (4) (ni (List.length a0_2))))) (Limpl_LinkShow_5 (cutH a0_2 (mnI (4) (ni (List.length a0_2)))) (ni (List.length (cutH a0_2 (mnI (4) (ni (List.length a0_2)))))) (0) a0_0 a0_1 a0_2 a0_3 a0_4 []))) := by
  exact (Vn_eq Try.func20 rfl _).trans (by kernel_rfl)

theorem elaws_markLink (a0_0 : Int) (a0_1 : Int) (a0_2 : List D) (a0_3 : Int) (a0_4 : List D) (a1_ : Int) : V 30 [.agg [.int .i64 a0_0, .int .i64 a0_1, .os (1, 0) a0_2, .int .i64 a0_3, .os (2, 0) a0_4], .int .i64 a1_] =
  ocall V 42 [(.os (1, 0) a0_2), (.int .i64 a1_)] fun x0 l1 =>
   asI .i64 x0 fun n2 => unc l1 fun x3 l4 => asOs (1, 0) x3 fun l5 => unn l4 (ocall V 31 [(.os (2, 0) a0_4), (.int .i64 n2)] fun x6 l7 =>
       asI .i64 x6 fun n8 => unc l7 fun x9 l10 => asOs (2, 0) x9 fun l11 => unn l10 (some ((.int .i64 n8), [(.agg [(.int .i64 a0_0), (.int .i64 a0_1), (.os (1, 0) l5), (.int .i64 a0_3), (.os (2, 0) l11)])]))) := by
  exact (Vn_eq Try.func30 rfl _).trans (by kernel_rfl)

theorem Llaws_szStringS_5_eq (p0 : List D) (p1 : Int) (p2 : Int) : Llaws_szStringS_5 p0 p1 p2 =
  br (decide (p2 < ni (List.length p0)))
   (grd (decide (0 ≤ p2) && decide (p2 < ni (List.length p0))) (oget p0 (Int.toNat p2) fun x0 =>
    asS x0 fun s1 => br (decide (IntKind.wrap IntKind.i64 (p1 - ni (ByteArray.size s1)) < 0))
      (some ((.int .i64 (-1)), []))
      (Llaws_szStringS_5 p0 (IntKind.wrap IntKind.i64 (p1 - ni (ByteArray.size s1))) (IntKind.wrap IntKind.i64 (p2 + 1)))))
   (some ((.int .i64 p1), [])) := by
  exact (Rn_eq _ _ _).trans (by kernel_rfl)
theorem elaws_szStringS (a0_ : List D) (a1_ : Int) : V 44 [.rs (1, 0) a0_, .int .i64 a1_] =
  br (decide (IntKind.wrap IntKind.i64 (a1_ - ni (List.length a0_)) < 0))
   (some ((.int .i64 (-1)), []))
   (Llaws_szStringS_5 a0_ (IntKind.wrap IntKind.i64 (a1_ - ni (List.length a0_))) (0)) := by
  exact (Vn_eq Try.func44 rfl _).trans (by kernel_rfl)

theorem eimpl_copyLink (a0_0 : Int) (a0_1 : Int) (a0_2 : List D) (a0_3 : Int) (a0_4 : List D) : V 54 [.agg [.int .i64 a0_0, .int .i64 a0_1, .rs (1, 0) a0_2, .int .i64 a0_3, .rs (2, 0) a0_4]] =
  ocall V 55 [(.rs (1, 0) a0_2)] fun x0 l1 =>
   asOs (1, 0) x0 fun l2 => unn l1 (ocall V 63 [(.rs (2, 0) a0_4)] fun x3 l4 =>
     asOs (2, 0) x3 fun l5 => unn l4 (some ((.agg [(.int .i64 a0_0), (.int .i64 a0_1), (.os (1, 0) l2), (.int .i64 a0_3), (.os (2, 0) l5)]), []))) := by
  exact (Vn_eq Try.func54 rfl _).trans (by kernel_rfl)

theorem elaws_toPiece (a0_0 : Int) (a0_1 : ByteArray) : V 40 [.agg [.int .i64 a0_0, .str a0_1]] =
  some ((.agg [(.int .i64 a0_0), (.str a0_1)]), []) := by
  exact (Vn_eq Try.func40 rfl _).trans (by kernel_rfl)

theorem Lspec_LinkShow_3_eq (p0 : Int) (p1 : Int) (p2 : Int) (p3 : List D) (p4 : Int) (p5 : List D) (p6 : List D) : Lspec_LinkShow_3 p0 p1 p2 p3 p4 p5 p6 =
  br (decide (p0 < ni (List.length p3)))
   (br (decide (p0 < 4))
    (ocall V 14 [(.agg [(.int .i64 p1), (.int .i64 p2), (.rs (1, 0) p3), (.int .i64 p4), (.rs (2, 0) p5)])] fun x0 l1 =>
     asB x0 fun b2 => unn l1 (br b2
       (grd (decide (0 ≤ p0) && decide (p0 < ni (List.length p3))) (oget p3 (Int.toNat p0) fun x3 =>
        asS x3 fun s4 => grd (decide (ni (List.length (p6 ++ [D.agg [D.int IntKind.i64 (IntKind.wrap IntKind.i64 (p2 + p0)), D.str s4]])) ≤ LIM)) (nam (p6 ++ [D.agg [D.int IntKind.i64 (IntKind.wrap IntKind.i64 (p2 + p0)), D.str s4]]) fun l5 =>
          Lspec_LinkShow_3 (IntKind.wrap IntKind.i64 (p0 + 1)) p1 p2 p3 p4 p5 l5)))
       (some ((.os (2, 0) p6), []))))
    (some ((.os (2, 0) p6), [])))
   (some ((.os (2, 0) p6), [])) := by
  exact (Rn_eq _ _ _).trans (by kernel_rfl)
theorem espec_LinkShow (a0_0 : Int) (a0_1 : Int) (a0_2 : List D) (a0_3 : Int) (a0_4 : List D) : V 21 [.agg [.int .i64 a0_0, .int .i64 a0_1, .rs (1, 0) a0_2, .int .i64 a0_3, .rs (2, 0) a0_4]] =
  Lspec_LinkShow_3 (0) a0_0 a0_1 a0_2 a0_3 a0_4 [] := by
  exact (Vn_eq Try.func21 rfl _).trans (by kernel_rfl)

theorem Llaws_markPieceS_2_eq (p0 : Int) (p1 : Int) (p2 : List D) : Llaws_markPieceS_2 p0 p1 p2 =
  br (decide (p1 < ni (List.length p2)))
   (grd (decide (0 ≤ p1) && decide (p1 < ni (List.length p2))) (oget p2 (Int.toNat p1) fun x0 =>
    asAgg x0 fun l1 => nam (List.set p2 (Int.toNat p1) (D.agg (List.take 0 l1 ++ [D.int IntKind.i64 p0] ++ List.drop 1 l1))) fun l2 =>
      ocall V 59 [(.int .i64 (IntKind.wrap IntKind.i64 (p0 + 1)))] fun x3 l4 =>
       asS x3 fun s5 => unn l4 (grd (decide (0 ≤ p1) && decide (p1 < ni (List.length l2))) (oget l2 (Int.toNat p1) fun x6 =>
         asAgg x6 fun l7 => nam (List.set l2 (Int.toNat p1) (D.agg (List.take 1 l7 ++ [D.str s5] ++ List.drop 2 l7))) fun l8 =>
           Llaws_markPieceS_2 (IntKind.wrap IntKind.i64 (IntKind.wrap IntKind.i64 (p0 + 1) + 1)) (IntKind.wrap IntKind.i64 (p1 + 1)) l8))))
   (some ((.int .i64 p0), [(.os (2, 0) p2)])) := by
  exact (Rn_eq _ _ _).trans (by kernel_rfl)
theorem elaws_markPieceS (a0_ : List D) (a1_ : Int) : V 31 [.os (2, 0) a0_, .int .i64 a1_] =
  Llaws_markPieceS_2 a1_ (0) a0_ := by
  exact (Vn_eq Try.func31 rfl _).trans (by kernel_rfl)

theorem Llaws_szPieceS_5_eq (p0 : List D) (p1 : Int) (p2 : Int) : Llaws_szPieceS_5 p0 p1 p2 =
  br (decide (p2 < ni (List.length p0)))
   (grd (decide (0 ≤ p2) && decide (p2 < ni (List.length p0))) (oget p0 (Int.toNat p2) fun x0 =>
    asAgg x0 fun l1 => unc l1 fun x2 l3 => asI .i64 x2 fun n4 => unc l3 fun x5 l6 => asS x5 fun s7 => unn l6 (ocall V 39 [(.agg [(.int .i64 n4), (.str s7)]), (.int .i64 p1)] fun x8 l9 =>
          asI .i64 x8 fun n10 => unn l9 (br (decide (n10 < 0))
            (some ((.int .i64 (-1)), []))
            (Llaws_szPieceS_5 p0 n10 (IntKind.wrap IntKind.i64 (p2 + 1)))))))
   (some ((.int .i64 p1), [])) := by
  exact (Rn_eq _ _ _).trans (by kernel_rfl)
theorem elaws_szPieceS (a0_ : List D) (a1_ : Int) : V 45 [.rs (2, 0) a0_, .int .i64 a1_] =
  br (decide (IntKind.wrap IntKind.i64 (a1_ - ni (List.length a0_)) < 0))
   (some ((.int .i64 (-1)), []))
   (Llaws_szPieceS_5 a0_ (IntKind.wrap IntKind.i64 (a1_ - ni (List.length a0_))) (0)) := by
  exact (Vn_eq Try.func45 rfl _).trans (by kernel_rfl)

theorem eslices_Clone_string_string (a0_ : List D) : V 55 [.rs (1, 0) a0_] =
  nilb a0_
   (some ((.os (1, 0) []), []))
   (grd (decide (ni (List.length ([] ++ a0_)) ≤ LIM)) (nam ([] ++ a0_) fun l0 =>
    some ((.os (1, 0) l0), []))) := by
  exact (Vn_eq Try.func55 rfl _).trans (by kernel_rfl)

theorem elaws_big (a0_ : List D) : V 18 [.rs (1, 0) a0_] =
  some ((.bool (decide (ni (List.length a0_) > 1048576))), []) := by
  exact (Vn_eq Try.func18 rfl _).trans (by kernel_rfl)


end Go.Eng
