/- the functions as the interpreter has them -/
import Derived.Test.YtnibbejbclmanaaZFn
namespace Go.Eng
open Go.Proofs Go.Proofs.Try
set_option maxRecDepth 100000

noncomputable def Llaws_FnDropped_8 (p0 : List D) (p1 : Int) (p2 : Int) (p3 : List D) (p4 : List D) : Option Ret := R 10 Try.f10 [] (headAt Try.f10 8) ⟨[.d (.rs (1, 0) p0), .undef, .undef, .asl 0 none, .d (.int .i64 p1), .asl 1 none, .d (.int .i64 p2), .undef, .undef, .undef, .undef, .undef, .undef, .undef, .undef, .undef, .undef, .undef, .undef, .undef, .undef, .undef, .undef, .undef, .undef, .undef, .undef, .undef, .undef, .undef, .undef, .undef, .undef, .undef, .undef, .undef, .undef, .undef, .undef, .undef, .undef, .undef, .undef, .undef, .undef, .undef, .undef, .undef, .undef, .undef, .undef, .undef, .undef, .undef, .undef, .undef, .undef, .undef, .undef, .undef, .undef, .undef, .undef, .undef, .undef, .undef, .undef, .undef, .undef, .undef, .undef, .undef, .undef, .undef, .undef, .undef, .undef, .undef, .undef, .undef, .undef, .undef, .undef, .undef, .undef, .undef, .undef, .undef, .undef, .undef, .undef, .undef, .undef, .undef, .undef, .undef, .undef, .undef, .undef, .undef, .undef, .undef, .undef, .undef, .undef, .undef, .undef, .undef, .undef, .undef, .undef, .undef, .undef, .undef, .undef, .undef, .undef, .undef, .undef, .undef, .undef, .undef, .undef, .undef, .undef, .undef, .undef, .undef, .undef, .undef], [(0, some (.arr (3, 0) p3)), (1, some (.arr (3, 0) p4))], 2, []⟩
noncomputable def Llaws_FnLease_11 (p0 : Int) (p1 : Int) (p2 : Int) (p3 : Int) (p4 : List D) (p5 : Int) (p6 : Int) : Option Ret := R 9 Try.f9 [] (headAt Try.f9 11) ⟨[.undef, .undef, .undef, .undef, .d (.int .i64 p0), .d (.int .i64 p1), .d (.int .i64 p2), .asl 0 none, .ref 1 0 0, .undef, .undef, .undef, .undef, .d (.int .i64 p3), .undef, .undef, .undef, .undef, .undef, .undef, .undef, .undef, .undef, .undef, .undef, .undef, .undef, .undef, .undef, .undef, .undef, .undef, .undef, .undef, .undef, .undef, .undef, .undef, .undef, .undef, .undef, .undef, .undef, .undef, .undef, .undef, .undef, .undef, .undef, .undef, .undef, .undef, .undef, .undef, .undef, .undef, .undef, .undef, .undef, .undef, .undef, .undef, .undef, .undef, .undef, .undef, .undef, .undef, .undef, .undef, .undef, .undef, .undef, .undef, .undef, .undef, .undef, .undef, .undef, .undef, .undef, .undef, .undef, .undef, .undef, .undef, .undef, .undef, .undef, .undef, .undef, .undef, .undef, .undef, .undef, .undef, .undef, .undef, .undef, .undef, .undef, .undef, .undef, .undef, .undef, .undef, .undef, .undef, .undef, .undef, .undef, .undef, .undef, .undef, .undef, .undef, .undef, .undef, .undef, .undef, .undef, .undef, .undef, .undef, .undef, .undef, .undef, .undef, .undef, .undef, .undef, .undef, .undef, .undef, .undef, .undef, .undef, .undef, .undef, .undef, .undef, .undef, .undef], [(0, some (.arr (3, 0) p4)), (1, some (.var [.d (.int .i64 p5), .d (.int .i64 p6)]))], 2, []⟩
noncomputable def Llaws_FnLease_14 (p0 : Int) (p1 : Int) (p2 : Int) (p3 : Int) (p4 : Int) (p5 : List D) (p6 : Int) (p7 : Int) : Option Ret := R 9 Try.f9 [] (headAt Try.f9 14) ⟨[.undef, .undef, .undef, .undef, .d (.int .i64 p0), .d (.int .i64 p1), .d (.int .i64 p2), .asl 0 none, .ref 1 0 0, .undef, .undef, .undef, .undef, .d (.int .i64 p3), .d (.int .i64 p4), .undef, .undef, .undef, .undef, .undef, .undef, .undef, .undef, .undef, .undef, .undef, .undef, .undef, .undef, .undef, .undef, .undef, .undef, .undef, .undef, .undef, .undef, .undef, .undef, .undef, .undef, .undef, .undef, .undef, .undef, .undef, .undef, .undef, .undef, .undef, .undef, .undef, .undef, .undef, .undef, .undef, .undef, .undef, .undef, .undef, .undef, .undef, .undef, .undef, .undef, .undef, .undef, .undef, .undef, .undef, .undef, .undef, .undef, .undef, .undef, .undef, .undef, .undef, .undef, .undef, .undef, .undef, .undef, .undef, .undef, .undef, .undef, .undef, .undef, .undef, .undef, .undef, .undef, .undef, .undef, .undef, .undef, .undef, .undef, .undef, .undef, .undef, .undef, .undef, .undef, .undef, .undef, .undef, .undef, .undef, .undef, .undef, .undef, .undef, .undef, .undef, .undef, .undef, .undef, .undef, .undef, .undef, .undef, .undef, .undef, .undef, .undef, .undef, .undef, .undef, .undef, .undef, .undef, .undef, .undef, .undef, .undef, .undef, .undef, .undef, .undef, .undef, .undef], [(0, some (.arr (3, 0) p5)), (1, some (.var [.d (.int .i64 p6), .d (.int .i64 p7)]))], 2, []⟩
noncomputable def Lspec_l1New_3 (p0 : List D) (p1 : Int) (p2 : Int) : Option Ret := R 46 Try.f46 [] (headAt Try.f46 3) ⟨[.d (.rs (1, 0) p0), .undef, .undef, .d (.int .i64 p1), .d (.int .i64 p2), .undef, .undef, .undef, .undef, .undef, .undef, .undef, .undef, .undef, .undef, .undef, .undef, .undef, .undef, .undef, .undef, .undef, .undef, .undef, .undef, .undef, .undef, .undef, .undef, .undef, .undef, .undef], [], 0, []⟩
noncomputable def Lspec_l11Draw_6 (p0 : Int) (p1 : Int) (p2 : List D) (p3 : Int) (p4 : Int) (p5 : List D) : Option Ret := R 47 Try.f47 [67] (headAt Try.f47 6) ⟨[.ref 0 0 0, .undef, .undef, .asl 1 none, .d (.int .i64 p0), .d (.int .i64 p1), .undef, .undef, .undef, .undef, .undef, .undef, .undef, .undef, .undef, .undef, .undef, .undef, .undef, .undef, .undef, .undef, .undef, .undef, .undef, .undef, .undef, .undef, .undef, .undef, .undef, .undef, .undef, .undef, .undef, .undef, .undef, .undef, .undef, .undef, .undef, .undef, .undef, .undef, .undef, .undef, .undef, .undef, .undef], [(0, some (.var [.d (.rs (1, 0) p2), .d (.int .i64 p3), .d (.int .i64 p4)])), (1, some (.arr (3, 0) p5))], 2, [.ref 0 0 0]⟩
theorem espec_l1Byte (a0_0 : List D) (a0_1 : Int) (a0_2 : Int) : V 53 [.op [.rs (1, 0) a0_0, .int .i64 a0_1, .int .i64 a0_2]] =
  br (decide (a0_1 < ni (List.length a0_0)))
   (grd (decide (0 ≤ a0_1) && decide (a0_1 < ni (List.length a0_0))) (oget a0_0 (Int.toNat a0_1) fun x0 =>
    asI .u8 x0 fun n1 => some ((.int .i64 (IntKind.wrap IntKind.i64 (ni (BitVec.toNat (BitVec.ofInt (IntKind.bits IntKind.i64) (IntKind.wrap IntKind.i64 (IntKind.wrap IntKind.i64 (ni (BitVec.toNat (BitVec.ofInt (IntKind.bits IntKind.i64) (IntKind.wrap IntKind.i64 (ni (BitVec.toNat (BitVec.ofInt (IntKind.bits IntKind.i64) (Int.fdiv (IntKind.wrap IntKind.i64 (IntKind.wrap IntKind.i64 (a0_2 * 6364136223846793005) + 1442695040888963407)) (2 ^ min (Int.toNat (33)) (IntKind.bits IntKind.i64))) ^^^ BitVec.ofInt (IntKind.bits IntKind.i64) (Int.fdiv (IntKind.wrap IntKind.i64 (IntKind.wrap IntKind.i64 (a0_2 * 6364136223846793005) + 1442695040888963407)) (2 ^ min (Int.toNat (45)) (IntKind.bits IntKind.i64))))))) &&& BitVec.ofInt (IntKind.bits IntKind.i64) (255)))) + IntKind.wrap IntKind.i64 n1)) &&& BitVec.ofInt (IntKind.bits IntKind.i64) (255)))))), [(.op [(.rs (1, 0) a0_0), (.int .i64 (IntKind.wrap IntKind.i64 (a0_1 + 1))), (.int .i64 (IntKind.wrap IntKind.i64 (IntKind.wrap IntKind.i64 (a0_2 * 6364136223846793005) + 1442695040888963407)))])])))
   (some ((.int .i64 (IntKind.wrap IntKind.i64 (ni (BitVec.toNat (BitVec.ofInt (IntKind.bits IntKind.i64) (IntKind.wrap IntKind.i64 (ni (BitVec.toNat (BitVec.ofInt (IntKind.bits IntKind.i64) (Int.fdiv (IntKind.wrap IntKind.i64 (IntKind.wrap IntKind.i64 (a0_2 * 6364136223846793005) + 1442695040888963407)) (2 ^ min (Int.toNat (33)) (IntKind.bits IntKind.i64))) ^^^ BitVec.ofInt (IntKind.bits IntKind.i64) (Int.fdiv (IntKind.wrap IntKind.i64 (IntKind.wrap IntKind.i64 (a0_2 * 6364136223846793005) + 1442695040888963407)) (2 ^ min (Int.toNat (45)) (IntKind.bits IntKind.i64))))))) &&& BitVec.ofInt (IntKind.bits IntKind.i64) (255)))))), [(.op [(.rs (1, 0) a0_0), (.int .i64 a0_1), (.int .i64 (IntKind.wrap IntKind.i64 (IntKind.wrap IntKind.i64 (a0_2 * 6364136223846793005) + 1442695040888963407)))])])) := by
  exact (Vn_eq Try.func53 rfl _).trans (by kernel_rfl)

theorem espec_l11DrawNow (a0_0 : List D) (a0_1 : Int) (a0_2 : Int) : V 49 [.op [.rs (1, 0) a0_0, .int .i64 a0_1, .int .i64 a0_2]] =
  ocall V 50 [(.op [(.rs (1, 0) a0_0), (.int .i64 a0_1), (.int .i64 a0_2)]), (.int .i64 (12))] fun x0 l1 =>
   asB x0 fun b2 => unc l1 fun x3 l4 => asOp x3 fun l5 => unc l5 fun x6 l7 => asRs (1, 0) x6 fun l8 => unc l7 fun x9 l10 => asI .i64 x9 fun n11 => unc l10 fun x12 l13 => asI .i64 x12 fun n14 => unn l13 (unn l4 (br b2
             (ocall V 54 [(.op [(.rs (1, 0) l8), (.int .i64 n11), (.int .i64 n14)]), (.rs (1, 0) [(.int .i64 (-1)), (.int .i64 (1000000000)), (.int .i64 (999999980)), (.int .i64 (1000000001))])] fun x15 l16 =>
              asI .i64 x15 fun n17 => unc l16 fun x18 l19 => asOp x18 fun l20 => unc l20 fun x21 l22 => asRs (1, 0) x21 fun l23 => unc l22 fun x24 l25 => asI .i64 x24 fun n26 => unc l25 fun x27 l28 => asI .i64 x27 fun n29 => unn l28 (unn l19 (some ((.int .i64 n17), [(.op [(.rs (1, 0) l23), (.int .i64 n26), (.int .i64 n29)])]))))
             (ocall V 48 [(.op [(.rs (1, 0) l8), (.int .i64 n11), (.int .i64 n14)]), (.int .i64 (70))] fun x30 l31 =>
              asI .i64 x30 fun n32 => unc l31 fun x33 l34 => asOp x33 fun l35 => unc l35 fun x36 l37 => asRs (1, 0) x36 fun l38 => unc l37 fun x39 l40 => asI .i64 x39 fun n41 => unc l40 fun x42 l43 => asI .i64 x42 fun n44 => unn l43 (unn l34 (some ((.int .i64 n32), [(.op [(.rs (1, 0) l38), (.int .i64 n41), (.int .i64 n44)])])))))) := by
  exact (Vn_eq Try.func49 rfl _).trans (by kernel_rfl)

theorem espec_l1Below (a0_0 : List D) (a0_1 : Int) (a0_2 : Int) (a1_ : Int) : V 48 [.op [.rs (1, 0) a0_0, .int .i64 a0_1, .int .i64 a0_2], .int .i64 a1_] =
  br (decide (a1_ ≤ 0))
   (some ((.int .i64 (0)), [(.op [(.rs (1, 0) a0_0), (.int .i64 a0_1), (.int .i64 a0_2)])]))
   (br (decide (a1_ ≤ 256))
    (ocall V 53 [(.op [(.rs (1, 0) a0_0), (.int .i64 a0_1), (.int .i64 a0_2)])] fun x0 l1 =>
     asI .i64 x0 fun n2 => unc l1 fun x3 l4 => asOp x3 fun l5 => unc l5 fun x6 l7 => asRs (1, 0) x6 fun l8 => unc l7 fun x9 l10 => asI .i64 x9 fun n11 => unc l10 fun x12 l13 => asI .i64 x12 fun n14 => unn l13 (unn l4 (grd (!decide (a1_ = 0)) (some ((.int .i64 (Int.tmod n2 a1_)), [(.op [(.rs (1, 0) l8), (.int .i64 n11), (.int .i64 n14)])])))))
    (ocall V 53 [(.op [(.rs (1, 0) a0_0), (.int .i64 a0_1), (.int .i64 a0_2)])] fun x15 l16 =>
     asI .i64 x15 fun n17 => unc l16 fun x18 l19 => asOp x18 fun l20 => unc l20 fun x21 l22 => asRs (1, 0) x21 fun l23 => unc l22 fun x24 l25 => asI .i64 x24 fun n26 => unc l25 fun x27 l28 => asI .i64 x27 fun n29 => unn l28 (unn l19 (ocall V 53 [(.op [(.rs (1, 0) l23), (.int .i64 n26), (.int .i64 n29)])] fun x30 l31 =>
               asI .i64 x30 fun n32 => unc l31 fun x33 l34 => asOp x33 fun l35 => unc l35 fun x36 l37 => asRs (1, 0) x36 fun l38 => unc l37 fun x39 l40 => asI .i64 x39 fun n41 => unc l40 fun x42 l43 => asI .i64 x42 fun n44 => unn l43 (unn l34 (ocall V 53 [(.op [(.rs (1, 0) l38), (.int .i64 n41), (.int .i64 n44)])] fun x45 l46 =>
                         asI .i64 x45 fun n47 => unc l46 fun x48 l49 => asOp x48 fun l50 => unc l50 fun x51 l52 => asRs (1, 0) x51 fun l53 => unc l52 fun x54 l55 => asI .i64 x54 fun n56 => unc l55 fun x57 l58 => asI .i64 x57 fun n59 => unn l58 (unn l49 (ocall V 53 [(.op [(.rs (1, 0) l53), (.int .i64 n56), (.int .i64 n59)])] fun x60 l61 =>
                                   asI .i64 x60 fun n62 => unc l61 fun x63 l64 => asOp x63 fun l65 => unc l65 fun x66 l67 => asRs (1, 0) x66 fun l68 => unc l67 fun x69 l70 => asI .i64 x69 fun n71 => unc l70 fun x72 l73 => asI .i64 x72 fun n74 => unn l73 (unn l64 (grd (!decide (a1_ = 0)) (some ((.int .i64 (Int.tmod (IntKind.wrap IntKind.i64 (IntKind.wrap IntKind.i64 (IntKind.wrap IntKind.i64 (IntKind.wrap IntKind.i64 (n17 * 16777216) + IntKind.wrap IntKind.i64 (n32 * 65536)) + IntKind.wrap IntKind.i64 (n47 * 256)) + n62)) a1_)), [(.op [(.rs (1, 0) l68), (.int .i64 n71), (.int .i64 n74)])])))))))))))) := by
  exact (Vn_eq Try.func48 rfl _).trans (by kernel_rfl)

theorem elaws_big (a0_ : List D) : V 30 [.rs (1, 0) a0_] =
  some ((.bool (decide (ni (List.length a0_) > 1048576))), []) := by
  exact (Vn_eq Try.func30 rfl _).trans (by kernel_rfl)

theorem Llaws_FnDropped_8_eq (p0 : List D) (p1 : Int) (p2 : Int) (p3 : List D) (p4 : List D) : Llaws_FnDropped_8 p0 p1 p2 p3 p4 =
  br (decide (p2 < ni (List.length p4)))
   (grd (decide (0 ≤ p2) && decide (p2 < ni (List.length p4))) (oget p4 (Int.toNat p2) fun x18 =>
    asAgg x18 fun l19 => oget l19 2 fun x20 =>
      asI .i64 x20 fun n21 => br (decide (n21 < p1))
        (some ((.bool false), []))
        (grd (decide (0 ≤ p2) && decide (p2 < ni (List.length p4))) (oget p4 (Int.toNat p2) fun x22 =>
         asAgg x22 fun l23 => oget l23 0 fun x24 =>
           asI .i64 x24 fun n25 => ocall V 20 [(.rs (3, 0) p4), (.int .i64 n25), (.int .i64 p1)] fun x26 l27 =>
             asB x26 fun b28 => unn l27 (br (!b28)
               (some ((.bool false), []))
               (grd (decide (0 ≤ p2) && decide (p2 < ni (List.length p4))) (oget p4 (Int.toNat p2) fun x29 =>
                asAgg x29 fun l30 => oget l30 0 fun x31 =>
                  asI .i64 x31 fun n32 => ocall V 20 [(.rs (3, 0) p3), (.int .i64 n32), (.int .i64 p1)] fun x33 l34 =>
                    asB x33 fun b35 => unn l34 (br (!b35)
                      (some ((.bool false), []))
                      (Llaws_FnDropped_8 p0 p1 (IntKind.wrap IntKind.i64 (p2 + 1)) p3 p4)))))))))
   (ocall V 33 [(.rs (1, 0) p0)] fun x36 l37 =>
    asTup x36 fun l38 => unc l38 fun x39 l40 => asOs (3, 0) x39 fun l41 => unc l40 fun x42 l43 => asI .i64 x42 fun n44 => unc l43 fun x45 l46 => asI .i64 x45 fun n47 => unn l46 (unn l37 (ocall V 34 [(.rs (1, 0) p0)] fun x48 l49 =>
            asTup x48 fun l50 => unc l50 fun x51 l52 => asOs (3, 0) x51 fun l53 => unc l52 fun x54 l55 => asI .i64 x54 fun n56 => unc l55 fun x57 l58 => asI .i64 x57 fun n59 => unc l58 fun x60 l61 => asI .i64 x60 fun n62 => unn l61 (unn l49 (ocall V 26 [(.rs (3, 0) l53), (.int .i64 n56), (.int .i64 n59), (.int .i64 n62)] fun x63 l64 =>
                      asTup x63 fun l65 => unc l65 fun x66 l67 => asOs (3, 0) x66 fun l68 => unc l67 fun x69 l70 => asB x69 fun b71 => unn l70 (unn l64 (ocall V 25 [(.rs (3, 0) l53), (.int .i64 n56), (.int .i64 n59), (.int .i64 n62)] fun x72 l73 =>
                            asTup x72 fun l74 => unc l74 fun x75 l76 => asOs (3, 0) x75 fun l77 => unc l76 fun x78 l79 => asB x78 fun b80 => unn l79 (unn l73 (ocall V 35 [(.rs (1, 0) p0)] fun x81 l82 =>
                                  asTup x81 fun l83 => unc l83 fun x84 l85 => asAgg x84 fun l86 => unc l86 fun x87 l88 => asI .i64 x87 fun n89 => unc l88 fun x90 l91 => asI .i64 x90 fun n92 => unn l91 (unc l85 fun x93 l94 => asI .i64 x93 fun n95 => unn l94 (unn l82 (ocall V 20 [(.rs (3, 0) l41), (.int .i64 n44), (.int .i64 n47)] fun x96 l97 =>
                                            asB x96 fun b98 => unn l97 (ocall V 19 [(.rs (3, 0) l41), (.int .i64 n44), (.int .i64 n47)] fun x99 l100 =>
                                              asB x99 fun b101 => unn l100 (br (b98 == b101)
                                                (br (b71 == b80)
                                                 (ocall V 13 [(.agg [(.int .i64 n89), (.int .i64 n92)]), (.int .i64 n95)] fun x102 l103 =>
                                                  asB x102 fun b104 => unn l103 (some ((.bool (b104 == decide (n92 ≥ n95))), [])))
                                                 (some ((.bool false), [])))
                                                (some ((.bool false), [])))))))))))))))) := by
  exact (Rn_eq _ _ _).trans (by kernel_rfl)
theorem elaws_FnDropped (a0_ : List D) : V 10 [.rs (1, 0) a0_] =
  ocall V 30 [(.rs (1, 0) a0_)] fun x0 l1 =>
   asB x0 fun b2 => unn l1 (br b2
     (some ((.bool true), []))
     (ocall V 32 [(.rs (1, 0) a0_)] fun x3 l4 =>
      asTup x3 fun l5 => unc l5 fun x6 l7 => asOs (3, 0) x6 fun l8 => unc l7 fun x9 l10 => asI .i64 x9 fun n11 => unn l10 (unn l4 (ocall V 22 [(.rs (3, 0) l8), (.int .i64 n11)] fun x12 l13 =>
            asOs (3, 0) x12 fun l14 => unn l13 (ocall V 21 [(.rs (3, 0) l8), (.int .i64 n11)] fun x15 l16 =>
              asOs (3, 0) x15 fun l17 => unn l16 (br (ni (List.length l14) != ni (List.length l17))
                (some ((.bool false), []))
                (Llaws_FnDropped_8 a0_ n11 (0) l8 l14))))))) := by
  exact (Vn_eq Try.func10 rfl _).trans (by kernel_rfl)

theorem espec_l1Once (a0_0 : List D) (a0_1 : Int) (a0_2 : Int) (a1_ : Int) : V 50 [.op [.rs (1, 0) a0_0, .int .i64 a0_1, .int .i64 a0_2], .int .i64 a1_] =
  ocall V 48 [(.op [(.rs (1, 0) a0_0), (.int .i64 a0_1), (.int .i64 a0_2)]), (.int .i64 a1_)] fun x0 l1 =>
   asI .i64 x0 fun n2 => unc l1 fun x3 l4 => asOp x3 fun l5 => unc l5 fun x6 l7 => asRs (1, 0) x6 fun l8 => unc l7 fun x9 l10 => asI .i64 x9 fun n11 => unc l10 fun x12 l13 => asI .i64 x12 fun n14 => unn l13 (unn l4 (some ((.bool (n2 == 0)), [(.op [(.rs (1, 0) l8), (.int .i64 n11), (.int .i64 n14)])]))) := by
  exact (Vn_eq Try.func50 rfl _).trans (by kernel_rfl)

theorem Llaws_FnLease_11_eq (p0 : Int) (p1 : Int) (p2 : Int) (p3 : Int) (p4 : List D) (p5 : Int) (p6 : Int) : Llaws_FnLease_11 p0 p1 p2 p3 p4 p5 p6 =
  br (decide (p3 ≤ 3))
   (Llaws_FnLease_14 p0 p1 p2 p3 p2 p4 p5 p6)
   (ocall V 26 [(.rs (3, 0) p4), (.int .i64 p0), (.int .i64 p1), (.int .i64 p2)] fun x60 l61 =>
    asTup x60 fun l62 => unc l62 fun x63 l64 => asOs (3, 0) x63 fun l65 => unc l64 fun x66 l67 => asB x66 fun b68 => unn l67 (unn l61 (ocall V 26 [(.rs (3, 0) l65), (.int .i64 p0), (.int .i64 p1), (.int .i64 p2)] fun x69 l70 =>
          asTup x69 fun l71 => unc l71 fun x72 l73 => asOs (3, 0) x72 fun l74 => unc l73 fun x75 l76 => asB x75 fun b77 => unn l76 (unn l70 (br b68
                (br (!b77)
                 (ocall V 17 [(.rs (3, 0) p4)] fun x78 l79 =>
                  asB x78 fun b80 => unn l79 (br b80
                    (some ((.bool (ni (List.length l65) == IntKind.wrap IntKind.i64 (ni (List.length p4) - 1))), []))
                    (some ((.bool false), []))))
                 (some ((.bool false), [])))
                (some ((.bool false), []))))))) := by
  exact (Rn_eq _ _ _).trans (by kernel_rfl)
theorem Llaws_FnLease_14_eq (p0 : Int) (p1 : Int) (p2 : Int) (p3 : Int) (p4 : Int) (p5 : List D) (p6 : Int) (p7 : Int) : Llaws_FnLease_14 p0 p1 p2 p3 p4 p5 p6 p7 =
  br (decide (p4 ≤ IntKind.wrap IntKind.i64 (IntKind.wrap IntKind.i64 (p2 + 20) + 2)))
   (ocall V 13 [(.agg [(.int .i64 p6), (.int .i64 p7)]), (.int .i64 p4)] fun x81 l82 =>
    asB x81 fun b83 => unn l82 (br b83
      (ocall V 20 [(.rs (3, 0) p5), (.int .i64 p0), (.int .i64 (IntKind.wrap IntKind.i64 (p4 + p3)))] fun x84 l85 =>
       asB x84 fun b86 => unn l85 (br (!b86)
         (some ((.bool false), []))
         (ocall V 22 [(.rs (3, 0) p5), (.int .i64 (IntKind.wrap IntKind.i64 (p4 + p3)))] fun x87 l88 =>
          asOs (3, 0) x87 fun l89 => unn l88 (ocall V 20 [(.rs (3, 0) l89), (.int .i64 p0), (.int .i64 (IntKind.wrap IntKind.i64 (p4 + p3)))] fun x90 l91 =>
            asB x90 fun b92 => unn l91 (br (!b92)
              (some ((.bool false), []))
              (Llaws_FnLease_14 p0 p1 p2 p3 (IntKind.wrap IntKind.i64 (p4 + 1)) p5 p6 p7))))))
      (Llaws_FnLease_14 p0 p1 p2 p3 (IntKind.wrap IntKind.i64 (p4 + 1)) p5 p6 p7)))
   (Llaws_FnLease_11 p0 p1 p2 (IntKind.wrap IntKind.i64 (p3 + 1)) p5 p6 p7) := by
  exact (Rn_eq _ _ _).trans (by kernel_rfl)
theorem elaws_FnLease (a0_ : List D) : V 9 [.rs (1, 0) a0_] =
  ocall V 30 [(.rs (1, 0) a0_)] fun x0 l1 =>
   asB x0 fun b2 => unn l1 (br b2
     (some ((.bool true), []))
     (ocall V 31 [(.rs (1, 0) a0_)] fun x3 l4 =>
      asTup x3 fun l5 => unc l5 fun x6 l7 => asOs (3, 0) x6 fun l8 => unc l7 fun x9 l10 => asI .i64 x9 fun n11 => unc l10 fun x12 l13 => asI .i64 x12 fun n14 => unc l13 fun x15 l16 => asI .i64 x15 fun n17 => unn l16 (unn l4 (ocall V 28 [(.rs (3, 0) l8), (.int .i64 n11), (.int .i64 n14), (.int .i64 n17)] fun x18 l19 =>
                asTup x18 fun l20 => unc l20 fun x21 l22 => asOs (3, 0) x21 fun l23 => unc l22 fun x24 l25 => asAgg x24 fun l26 => unc l26 fun x27 l28 => asI .i64 x27 fun n29 => unc l28 fun x30 l31 => asI .i64 x30 fun n32 => unn l31 (unc l25 fun x33 l34 => asB x33 fun b35 => unn l34 (unn l19 (ocall V 27 [(.rs (3, 0) l8), (.int .i64 n11), (.int .i64 n14), (.int .i64 n17)] fun x36 l37 =>
                            asTup x36 fun l38 => unc l38 fun x39 l40 => asOs (3, 0) x39 fun l41 => unc l40 fun x42 l43 => asAgg x42 fun l44 => unc l44 fun x45 l46 => asI .i64 x45 fun n47 => unc l46 fun x48 l49 => asI .i64 x48 fun n50 => unn l49 (unc l43 fun x51 l52 => asB x51 fun b53 => unn l52 (unn l37 (br (!b35 == b53)
                                        (some ((.bool false), []))
                                        (br (!(n29 == n47 && (n32 == n50 && true)))
                                         (some ((.bool false), []))
                                         (ocall V 17 [(.rs (3, 0) l8)] fun x54 l55 =>
                                          asB x54 fun b56 => unn l55 (ocall V 15 [(.rs (3, 0) l8)] fun x57 l58 =>
                                            asB x57 fun b59 => unn l58 (br (!b56 == b59)
                                              (some ((.bool false), []))
                                              (br (!b35)
                                               (br (ni (List.length l23) == ni (List.length l8))
                                                (some ((.bool true), []))
                                                (some ((.bool (ni (List.length l23) == 0)), [])))
                                               (Llaws_FnLease_11 n11 n14 n17 (-3) l23 n29 n32)))))))))))))))) := by
  exact (Vn_eq Try.func9 rfl _).trans (by kernel_rfl)

theorem espec_l1PickInt (a0_0 : List D) (a0_1 : Int) (a0_2 : Int) (a1_ : List D) : V 54 [.op [.rs (1, 0) a0_0, .int .i64 a0_1, .int .i64 a0_2], .rs (1, 0) a1_] =
  ocall V 48 [(.op [(.rs (1, 0) a0_0), (.int .i64 a0_1), (.int .i64 a0_2)]), (.int .i64 (ni (List.length a1_)))] fun x0 l1 =>
   asI .i64 x0 fun n2 => unc l1 fun x3 l4 => asOp x3 fun l5 => unc l5 fun x6 l7 => asRs (1, 0) x6 fun l8 => unc l7 fun x9 l10 => asI .i64 x9 fun n11 => unc l10 fun x12 l13 => asI .i64 x12 fun n14 => unn l13 (unn l4 (grd (decide (0 ≤ n2) && decide (n2 < ni (List.length a1_))) (oget a1_ (Int.toNat n2) fun x15 =>
             asI .i64 x15 fun n16 => some ((.int .i64 n16), [(.op [(.rs (1, 0) l8), (.int .i64 n11), (.int .i64 n14)])])))) := by
  exact (Vn_eq Try.func54 rfl _).trans (by kernel_rfl)

theorem Lspec_l1New_3_eq (p0 : List D) (p1 : Int) (p2 : Int) : Lspec_l1New_3 p0 p1 p2 =
  br (decide (p2 < ni (List.length p0)))
   (br (decide (p2 < 4000))
    (grd (decide (0 ≤ p2) && decide (p2 < ni (List.length p0))) (oget p0 (Int.toNat p2) fun x0 =>
     asI .u8 x0 fun n1 => Lspec_l1New_3 p0 (IntKind.wrap IntKind.i64 (ni (BitVec.toNat (BitVec.ofInt (IntKind.bits IntKind.i64) (IntKind.wrap IntKind.i64 (IntKind.wrap IntKind.i64 (IntKind.wrap IntKind.i64 (p1 * 131) + IntKind.wrap IntKind.i64 n1) + 7)) &&& BitVec.ofInt (IntKind.bits IntKind.i64) (1073741823))))) (IntKind.wrap IntKind.i64 (p2 + 1))))
    (some ((.op [(.rs (1, 0) p0), (.int .i64 (0)), (.int .i64 p1)]), [])))
   (some ((.op [(.rs (1, 0) p0), (.int .i64 (0)), (.int .i64 p1)]), [])) := by
  exact (Rn_eq _ _ _).trans (by kernel_rfl)
theorem espec_l1New (a0_ : List D) : V 46 [.rs (1, 0) a0_] =
  Lspec_l1New_3 a0_ (IntKind.wrap IntKind.i64 (17000 + ni (List.length a0_))) (0) := by
  exact (Vn_eq Try.func46 rfl _).trans (by kernel_rfl)

theorem Lspec_l11Draw_6_eq (p0 : Int) (p1 : Int) (p2 : List D) (p3 : Int) (p4 : Int) (p5 : List D) : Lspec_l11Draw_6 p0 p1 p2 p3 p4 p5 =
  br (decide (p1 < p0))
   (ocall V 48 [(.op [(.rs (1, 0) p2), (.int .i64 p3), (.int .i64 p4)]), (.int .i64 (4))] fun x30 l31 =>
    asI .i64 x30 fun n32 => unc l31 fun x33 l34 => asOp x33 fun l35 => unc l35 fun x36 l37 => asRs (1, 0) x36 fun l38 => unc l37 fun x39 l40 => asI .i64 x39 fun n41 => unc l40 fun x42 l43 => asI .i64 x42 fun n44 => unn l43 (unn l34 (ocall V 48 [(.op [(.rs (1, 0) l38), (.int .i64 n41), (.int .i64 n44)]), (.int .i64 (10))] fun x45 l46 =>
              asI .i64 x45 fun n47 => unc l46 fun x48 l49 => asOp x48 fun l50 => unc l50 fun x51 l52 => asRs (1, 0) x51 fun l53 => unc l52 fun x54 l55 => asI .i64 x54 fun n56 => unc l55 fun x57 l58 => asI .i64 x57 fun n59 => unn l58 (unn l49 (ocall V 48 [(.op [(.rs (1, 0) l53), (.int .i64 n56), (.int .i64 n59)]), (.int .i64 (40))] fun x60 l61 =>
                        asI .i64 x60 fun n62 => unc l61 fun x63 l64 => asOp x63 fun l65 => unc l65 fun x66 l67 => asRs (1, 0) x66 fun l68 => unc l67 fun x69 l70 => asI .i64 x69 fun n71 => unc l70 fun x72 l73 => asI .i64 x72 fun n74 => unn l73 (unn l64 (ocall V 27 [(.rs (3, 0) p5), (.int .i64 (IntKind.wrap IntKind.i64 (1 + n32))), (.int .i64 n47), (.int .i64 n62)] fun x75 l76 =>
                                  asTup x75 fun l77 => unc l77 fun x78 l79 => asOs (3, 0) x78 fun l80 => unc l79 fun x81 l82 => asAgg x81 fun l83 => unc l83 fun x84 l85 => asI .i64 x84 fun n86 => unc l85 fun x87 l88 => asI .i64 x87 fun n89 => unn l88 (unc l82 fun x90 l91 => asB x90 fun b92 => unn l91 (unn l76 (br b92
                                              (Lspec_l11Draw_6 p0 (IntKind.wrap IntKind.i64 (p1 + 1)) l68 n71 n74 l80)
                                              (Lspec_l11Draw_6 p0 (IntKind.wrap IntKind.i64 (p1 + 1)) l68 n71 n74 p5)))))))))))
   (ocall V 50 [(.op [(.rs (1, 0) p2), (.int .i64 p3), (.int .i64 p4)]), (.int .i64 (12))] fun x93 l94 =>
    asB x93 fun b95 => unc l94 fun x96 l97 => asOp x96 fun l98 => unc l98 fun x99 l100 => asRs (1, 0) x99 fun l101 => unc l100 fun x102 l103 => asI .i64 x102 fun n104 => unc l103 fun x105 l106 => asI .i64 x105 fun n107 => unn l106 (unn l97 (br b95
              (ocall V 48 [(.op [(.rs (1, 0) l101), (.int .i64 n104), (.int .i64 n107)]), (.int .i64 (3))] fun x108 l109 =>
               asI .i64 x108 fun n110 => unc l109 fun x111 l112 => asOp x111 fun l113 => unc l113 fun x114 l115 => asRs (1, 0) x114 fun l116 => unc l115 fun x117 l118 => asI .i64 x117 fun n119 => unc l118 fun x120 l121 => asI .i64 x120 fun n122 => unn l121 (unn l112 (ocall V 48 [(.op [(.rs (1, 0) l116), (.int .i64 n119), (.int .i64 n122)]), (.int .i64 (12))] fun x123 l124 =>
                         asI .i64 x123 fun n125 => unc l124 fun x126 l127 => asOp x126 fun l128 => unc l128 fun x129 l130 => asRs (1, 0) x129 fun l131 => unc l130 fun x132 l133 => asI .i64 x132 fun n134 => unc l133 fun x135 l136 => asI .i64 x135 fun n137 => unn l136 (unn l127 (ocall V 48 [(.op [(.rs (1, 0) l131), (.int .i64 n134), (.int .i64 n137)]), (.int .i64 (40))] fun x138 l139 =>
                                   asI .i64 x138 fun n140 => unc l139 fun x141 l142 => asOp x141 fun l143 => unc l143 fun x144 l145 => asRs (1, 0) x144 fun l146 => unc l145 fun x147 l148 => asI .i64 x147 fun n149 => unc l148 fun x150 l151 => asI .i64 x150 fun n152 => unn l151 (unn l142 (grd (decide (ni (List.length (p5 ++ [D.agg [D.int IntKind.i64 n110, D.int IntKind.i64 (IntKind.wrap IntKind.i64 (n125 - 1)), D.int IntKind.i64 (IntKind.wrap IntKind.i64 (n140 - 1))]])) ≤ LIM)) (nam (p5 ++ [D.agg [D.int IntKind.i64 n110, D.int IntKind.i64 (IntKind.wrap IntKind.i64 (n125 - 1)), D.int IntKind.i64 (IntKind.wrap IntKind.i64 (n140 - 1))]]) fun l153 =>
                                             some ((.os (3, 0) l153), [(.op [(.rs (1, 0) l146), (.int .i64 n149), (.int .i64 n152)])])))))))))
              (some ((.os (3, 0) p5), [(.op [(.rs (1, 0) l101), (.int .i64 n104), (.int .i64 n107)])]))))) := by
  exact (Rn_eq _ _ _).trans (by kernel_rfl)
theorem espec_l11Draw (a0_0 : List D) (a0_1 : Int) (a0_2 : Int) : V 47 [.op [.rs (1, 0) a0_0, .int .i64 a0_1, .int .i64 a0_2]] =
  ocall V 48 [(.op [(.rs (1, 0) a0_0), (.int .i64 a0_1), (.int .i64 a0_2)]), (.int .i64 (7))] fun x0 l1 =>
   asI .i64 x0 fun n2 => unc l1 fun x3 l4 => asOp x3 fun l5 => unc l5 fun x6 l7 => asRs (1, 0) x6 fun l8 => unc l7 fun x9 l10 => asI .i64 x9 fun n11 => unc l10 fun x12 l13 => asI .i64 x12 fun n14 => unn l13 (unn l4 (ocall V 50 [(.op [(.rs (1, 0) l8), (.int .i64 n11), (.int .i64 n14)]), (.int .i64 (30))] fun x15 l16 =>
             asB x15 fun b17 => unc l16 fun x18 l19 => asOp x18 fun l20 => unc l20 fun x21 l22 => asRs (1, 0) x21 fun l23 => unc l22 fun x24 l25 => asI .i64 x24 fun n26 => unc l25 fun x27 l28 => asI .i64 x27 fun n29 => unn l28 (unn l19 (br b17
                       (Lspec_l11Draw_6 (60) (0) l23 n26 n29 [])
                       (Lspec_l11Draw_6 n2 (0) l23 n26 n29 []))))) := by
  exact (Vn_eq Try.func47 rfl _).trans (by kernel_rfl)

theorem espec_DrawLeaseAsk (a0_ : List D) : V 31 [.rs (1, 0) a0_] =
  ocall V 46 [(.rs (1, 0) a0_)] fun x0 l1 =>
   asOp x0 fun l2 => unc l2 fun x3 l4 => asRs (1, 0) x3 fun l5 => unc l4 fun x6 l7 => asI .i64 x6 fun n8 => unc l7 fun x9 l10 => asI .i64 x9 fun n11 => unn l10 (unn l1 (ocall V 47 [(.op [(.rs (1, 0) l5), (.int .i64 n8), (.int .i64 n11)])] fun x12 l13 =>
           asOs (3, 0) x12 fun l14 => unc l13 fun x15 l16 => asOp x15 fun l17 => unc l17 fun x18 l19 => asRs (1, 0) x18 fun l20 => unc l19 fun x21 l22 => asI .i64 x21 fun n23 => unc l22 fun x24 l25 => asI .i64 x24 fun n26 => unn l25 (unn l16 (ocall V 48 [(.op [(.rs (1, 0) l20), (.int .i64 n23), (.int .i64 n26)]), (.int .i64 (6))] fun x27 l28 =>
                     asI .i64 x27 fun n29 => unc l28 fun x30 l31 => asOp x30 fun l32 => unc l32 fun x33 l34 => asRs (1, 0) x33 fun l35 => unc l34 fun x36 l37 => asI .i64 x36 fun n38 => unc l37 fun x39 l40 => asI .i64 x39 fun n41 => unn l40 (unn l31 (ocall V 48 [(.op [(.rs (1, 0) l35), (.int .i64 n38), (.int .i64 n41)]), (.int .i64 (12))] fun x42 l43 =>
                               asI .i64 x42 fun n44 => unc l43 fun x45 l46 => asOp x45 fun l47 => unc l47 fun x48 l49 => asRs (1, 0) x48 fun l50 => unc l49 fun x51 l52 => asI .i64 x51 fun n53 => unc l52 fun x54 l55 => asI .i64 x54 fun n56 => unn l55 (unn l46 (ocall V 49 [(.op [(.rs (1, 0) l50), (.int .i64 n53), (.int .i64 n56)])] fun x57 l58 =>
                                         asI .i64 x57 fun n59 => unc l58 fun x60 l61 => asOp x60 fun l62 => unc l62 fun x63 l64 => asRs (1, 0) x63 fun l65 => unc l64 fun x66 l67 => asI .i64 x66 fun n68 => unc l67 fun x69 l70 => asI .i64 x69 fun n71 => unn l70 (unn l61 (some ((.tup [(.os (3, 0) l14), (.int .i64 n29), (.int .i64 (IntKind.wrap IntKind.i64 (n44 - 1))), (.int .i64 n59)]), []))))))))))) := by
  exact (Vn_eq Try.func31 rfl _).trans (by kernel_rfl)

theorem espec_DrawLeaseDrop (a0_ : List D) : V 32 [.rs (1, 0) a0_] =
  ocall V 46 [(.rs (1, 0) a0_)] fun x0 l1 =>
   asOp x0 fun l2 => unc l2 fun x3 l4 => asRs (1, 0) x3 fun l5 => unc l4 fun x6 l7 => asI .i64 x6 fun n8 => unc l7 fun x9 l10 => asI .i64 x9 fun n11 => unn l10 (unn l1 (ocall V 47 [(.op [(.rs (1, 0) l5), (.int .i64 n8), (.int .i64 n11)])] fun x12 l13 =>
           asOs (3, 0) x12 fun l14 => unc l13 fun x15 l16 => asOp x15 fun l17 => unc l17 fun x18 l19 => asRs (1, 0) x18 fun l20 => unc l19 fun x21 l22 => asI .i64 x21 fun n23 => unc l22 fun x24 l25 => asI .i64 x24 fun n26 => unn l25 (unn l16 (ocall V 49 [(.op [(.rs (1, 0) l20), (.int .i64 n23), (.int .i64 n26)])] fun x27 l28 =>
                     asI .i64 x27 fun n29 => unc l28 fun x30 l31 => asOp x30 fun l32 => unc l32 fun x33 l34 => asRs (1, 0) x33 fun l35 => unc l34 fun x36 l37 => asI .i64 x36 fun n38 => unc l37 fun x39 l40 => asI .i64 x39 fun n41 => unn l40 (unn l31 (some ((.tup [(.os (3, 0) l14), (.int .i64 n29)]), []))))))) := by
  exact (Vn_eq Try.func32 rfl _).trans (by kernel_rfl)

theorem espec_DrawKept (a0_ : List D) : V 33 [.rs (1, 0) a0_] =
  ocall V 46 [(.rs (1, 0) a0_)] fun x0 l1 =>
   asOp x0 fun l2 => unc l2 fun x3 l4 => asRs (1, 0) x3 fun l5 => unc l4 fun x6 l7 => asI .i64 x6 fun n8 => unc l7 fun x9 l10 => asI .i64 x9 fun n11 => unn l10 (unn l1 (ocall V 47 [(.op [(.rs (1, 0) l5), (.int .i64 n8), (.int .i64 n11)])] fun x12 l13 =>
           asOs (3, 0) x12 fun l14 => unc l13 fun x15 l16 => asOp x15 fun l17 => unc l17 fun x18 l19 => asRs (1, 0) x18 fun l20 => unc l19 fun x21 l22 => asI .i64 x21 fun n23 => unc l22 fun x24 l25 => asI .i64 x24 fun n26 => unn l25 (unn l16 (ocall V 48 [(.op [(.rs (1, 0) l20), (.int .i64 n23), (.int .i64 n26)]), (.int .i64 (6))] fun x27 l28 =>
                     asI .i64 x27 fun n29 => unc l28 fun x30 l31 => asOp x30 fun l32 => unc l32 fun x33 l34 => asRs (1, 0) x33 fun l35 => unc l34 fun x36 l37 => asI .i64 x36 fun n38 => unc l37 fun x39 l40 => asI .i64 x39 fun n41 => unn l40 (unn l31 (ocall V 49 [(.op [(.rs (1, 0) l35), (.int .i64 n38), (.int .i64 n41)])] fun x42 l43 =>
                               asI .i64 x42 fun n44 => unc l43 fun x45 l46 => asOp x45 fun l47 => unc l47 fun x48 l49 => asRs (1, 0) x48 fun l50 => unc l49 fun x51 l52 => asI .i64 x51 fun n53 => unc l52 fun x54 l55 => asI .i64 x54 fun n56 => unn l55 (unn l46 (some ((.tup [(.os (3, 0) l14), (.int .i64 n29), (.int .i64 n44)]), []))))))))) := by
  exact (Vn_eq Try.func33 rfl _).trans (by kernel_rfl)

theorem espec_DrawLeaseGive (a0_ : List D) : V 34 [.rs (1, 0) a0_] =
  ocall V 46 [(.rs (1, 0) a0_)] fun x0 l1 =>
   asOp x0 fun l2 => unc l2 fun x3 l4 => asRs (1, 0) x3 fun l5 => unc l4 fun x6 l7 => asI .i64 x6 fun n8 => unc l7 fun x9 l10 => asI .i64 x9 fun n11 => unn l10 (unn l1 (ocall V 47 [(.op [(.rs (1, 0) l5), (.int .i64 n8), (.int .i64 n11)])] fun x12 l13 =>
           asOs (3, 0) x12 fun l14 => unc l13 fun x15 l16 => asOp x15 fun l17 => unc l17 fun x18 l19 => asRs (1, 0) x18 fun l20 => unc l19 fun x21 l22 => asI .i64 x21 fun n23 => unc l22 fun x24 l25 => asI .i64 x24 fun n26 => unn l25 (unn l16 (ocall V 48 [(.op [(.rs (1, 0) l20), (.int .i64 n23), (.int .i64 n26)]), (.int .i64 (4))] fun x27 l28 =>
                     asI .i64 x27 fun n29 => unc l28 fun x30 l31 => asOp x30 fun l32 => unc l32 fun x33 l34 => asRs (1, 0) x33 fun l35 => unc l34 fun x36 l37 => asI .i64 x36 fun n38 => unc l37 fun x39 l40 => asI .i64 x39 fun n41 => unn l40 (unn l31 (ocall V 48 [(.op [(.rs (1, 0) l35), (.int .i64 n38), (.int .i64 n41)]), (.int .i64 (10))] fun x42 l43 =>
                               asI .i64 x42 fun n44 => unc l43 fun x45 l46 => asOp x45 fun l47 => unc l47 fun x48 l49 => asRs (1, 0) x48 fun l50 => unc l49 fun x51 l52 => asI .i64 x51 fun n53 => unc l52 fun x54 l55 => asI .i64 x54 fun n56 => unn l55 (unn l46 (br (decide (ni (List.length l14) > 0))
                                         (ocall V 50 [(.op [(.rs (1, 0) l50), (.int .i64 n53), (.int .i64 n56)]), (.int .i64 (4))] fun x57 l58 =>
                                          asB x57 fun b59 => unc l58 fun x60 l61 => asOp x60 fun l62 => unc l62 fun x63 l64 => asRs (1, 0) x63 fun l65 => unc l64 fun x66 l67 => asI .i64 x66 fun n68 => unc l67 fun x69 l70 => asI .i64 x69 fun n71 => unn l70 (unn l61 (br (!b59)
                                                    (ocall V 48 [(.op [(.rs (1, 0) l65), (.int .i64 n68), (.int .i64 n71)]), (.int .i64 (ni (List.length l14)))] fun x72 l73 =>
                                                     asI .i64 x72 fun n74 => unc l73 fun x75 l76 => asOp x75 fun l77 => unc l77 fun x78 l79 => asRs (1, 0) x78 fun l80 => unc l79 fun x81 l82 => asI .i64 x81 fun n83 => unc l82 fun x84 l85 => asI .i64 x84 fun n86 => unn l85 (unn l76 (grd (decide (0 ≤ n74) && decide (n74 < ni (List.length l14))) (oget l14 (Int.toNat n74) fun x87 =>
                                                               asAgg x87 fun l88 => unc l88 fun x89 l90 => asI .i64 x89 fun n91 => unc l90 fun x92 l93 => asI .i64 x92 fun n94 => unc l93 fun x95 l96 => asI .i64 x95 fun n97 => unn l96 (ocall V 49 [(.op [(.rs (1, 0) l80), (.int .i64 n83), (.int .i64 n86)])] fun x98 l99 =>
                                                                       asI .i64 x98 fun n100 => unc l99 fun x101 l102 => asOp x101 fun l103 => unc l103 fun x104 l105 => asRs (1, 0) x104 fun l106 => unc l105 fun x107 l108 => asI .i64 x107 fun n109 => unc l108 fun x110 l111 => asI .i64 x110 fun n112 => unn l111 (unn l102 (some ((.tup [(.os (3, 0) l14), (.int .i64 n91), (.int .i64 n94), (.int .i64 n100)]), []))))))))
                                                    (ocall V 49 [(.op [(.rs (1, 0) l65), (.int .i64 n68), (.int .i64 n71)])] fun x113 l114 =>
                                                     asI .i64 x113 fun n115 => unc l114 fun x116 l117 => asOp x116 fun l118 => unc l118 fun x119 l120 => asRs (1, 0) x119 fun l121 => unc l120 fun x122 l123 => asI .i64 x122 fun n124 => unc l123 fun x125 l126 => asI .i64 x125 fun n127 => unn l126 (unn l117 (some ((.tup [(.os (3, 0) l14), (.int .i64 (IntKind.wrap IntKind.i64 (1 + n29))), (.int .i64 n44), (.int .i64 n115)]), [])))))))
                                         (ocall V 49 [(.op [(.rs (1, 0) l50), (.int .i64 n53), (.int .i64 n56)])] fun x128 l129 =>
                                          asI .i64 x128 fun n130 => unc l129 fun x131 l132 => asOp x131 fun l133 => unc l133 fun x134 l135 => asRs (1, 0) x134 fun l136 => unc l135 fun x137 l138 => asI .i64 x137 fun n139 => unc l138 fun x140 l141 => asI .i64 x140 fun n142 => unn l141 (unn l132 (some ((.tup [(.os (3, 0) l14), (.int .i64 (IntKind.wrap IntKind.i64 (1 + n29))), (.int .i64 n44), (.int .i64 n130)]), [])))))))))))) := by
  exact (Vn_eq Try.func34 rfl _).trans (by kernel_rfl)

theorem espec_DrawGripGood (a0_ : List D) : V 35 [.rs (1, 0) a0_] =
  ocall V 46 [(.rs (1, 0) a0_)] fun x0 l1 =>
   asOp x0 fun l2 => unc l2 fun x3 l4 => asRs (1, 0) x3 fun l5 => unc l4 fun x6 l7 => asI .i64 x6 fun n8 => unc l7 fun x9 l10 => asI .i64 x9 fun n11 => unn l10 (unn l1 (ocall V 48 [(.op [(.rs (1, 0) l5), (.int .i64 n8), (.int .i64 n11)]), (.int .i64 (20))] fun x12 l13 =>
           asI .i64 x12 fun n14 => unc l13 fun x15 l16 => asOp x15 fun l17 => unc l17 fun x18 l19 => asRs (1, 0) x18 fun l20 => unc l19 fun x21 l22 => asI .i64 x21 fun n23 => unc l22 fun x24 l25 => asI .i64 x24 fun n26 => unn l25 (unn l16 (ocall V 48 [(.op [(.rs (1, 0) l20), (.int .i64 n23), (.int .i64 n26)]), (.int .i64 (20))] fun x27 l28 =>
                     asI .i64 x27 fun n29 => unc l28 fun x30 l31 => asOp x30 fun l32 => unc l32 fun x33 l34 => asRs (1, 0) x33 fun l35 => unc l34 fun x36 l37 => asI .i64 x36 fun n38 => unc l37 fun x39 l40 => asI .i64 x39 fun n41 => unn l40 (unn l31 (some ((.tup [(.agg [(.int .i64 (1)), (.int .i64 n14)]), (.int .i64 n29)]), []))))))) := by
  exact (Vn_eq Try.func35 rfl _).trans (by kernel_rfl)


end Go.Eng
