/- the functions as the interpreter has them -/
import Derived.Test.YtgoidfkdnkjojaaFn0
namespace Go.Eng
open Go.Proofs Go.Proofs.Try
set_option maxRecDepth 100000
theorem Lspec_l7Into_3_eq (p0 : List D) (p1 : Int) (p2 : List D) (p3 : List D) (p4 : List D) : Lspec_l7Into_3 p0 p1 p2 p3 p4 =
  br (decide (p1 < ni (List.length p2)))
   (grd (decide (0 ≤ p1) && decide (p1 < ni (List.length p0))) (oget p0 (Int.toNat p1) fun x0 =>
    asB x0 fun b1 => br (!b1)
      (Lspec_l7Into_3 p0 (IntKind.wrap IntKind.i64 (p1 + 1)) p2 p3 p4)
      (grd (decide (0 ≤ p1) && decide (p1 < ni (List.length p2))) (oget p2 (Int.toNat p1) fun x2 =>
       asAgg x2 fun l3 => unc l3 fun x4 l5 => asI .i64 x4 fun n6 => unc l5 fun x7 l8 => asI .i64 x7 fun n9 => unc l8 fun x10 l11 => asS x10 fun s12 => unc l11 fun x13 l14 => asI .i64 x13 fun n15 => unc l14 fun x16 l17 => asI .i64 x16 fun n18 => unn l17 (br (n6 == 5)
                   (grd (decide (0 ≤ n15) && decide (n15 < ni (List.length p3))) (oget p3 (Int.toNat n15) fun x19 =>
                    asI .i64 x19 fun n20 => grd (decide (0 ≤ n18) && decide (n18 < ni (List.length p3))) (oget p3 (Int.toNat n18) fun x21 =>
                      asI .i64 x21 fun n22 => ocall V 75 [(.op [(.os (5, 0) p4)]), (.agg [(.int .i64 n6), (.int .i64 n9), (.str s12), (.int .i64 n20), (.int .i64 n22)])] fun x23 l24 =>
                        asI .i64 x23 fun n25 => unc l24 fun x26 l27 => asOp x26 fun l28 => unc l28 fun x29 l30 => asOs (5, 0) x29 fun l31 => unn l30 (unn l27 (grd (decide (0 ≤ p1) && decide (p1 < ni (List.length p3))) (oget p3 (Int.toNat p1) fun _ =>
                              nam (List.set p3 (Int.toNat p1) (D.int IntKind.i64 n25)) fun l33 =>
                               Lspec_l7Into_3 p0 (IntKind.wrap IntKind.i64 (p1 + 1)) p2 l33 l31))))))
                   (br (n6 == 6)
                    (br (n6 == 6)
                     (grd (decide (0 ≤ n15) && decide (n15 < ni (List.length p3))) (oget p3 (Int.toNat n15) fun x34 =>
                      asI .i64 x34 fun n35 => ocall V 75 [(.op [(.os (5, 0) p4)]), (.agg [(.int .i64 n6), (.int .i64 n9), (.str s12), (.int .i64 n35), (.int .i64 n18)])] fun x36 l37 =>
                        asI .i64 x36 fun n38 => unc l37 fun x39 l40 => asOp x39 fun l41 => unc l41 fun x42 l43 => asOs (5, 0) x42 fun l44 => unn l43 (unn l40 (grd (decide (0 ≤ p1) && decide (p1 < ni (List.length p3))) (oget p3 (Int.toNat p1) fun _ =>
                              nam (List.set p3 (Int.toNat p1) (D.int IntKind.i64 n38)) fun l46 =>
                               Lspec_l7Into_3 p0 (IntKind.wrap IntKind.i64 (p1 + 1)) p2 l46 l44)))))
                     (ocall V 75 [(.op [(.os (5, 0) p4)]), (.agg [(.int .i64 n6), (.int .i64 n9), (.str s12), (.int .i64 n15), (.int .i64 n18)])] fun x47 l48 =>
                      asI .i64 x47 fun n49 => unc l48 fun x50 l51 => asOp x50 fun l52 => unc l52 fun x53 l54 => asOs (5, 0) x53 fun l55 => unn l54 (unn l51 (grd (decide (0 ≤ p1) && decide (p1 < ni (List.length p3))) (oget p3 (Int.toNat p1) fun _ =>
                            nam (List.set p3 (Int.toNat p1) (D.int IntKind.i64 n49)) fun l57 =>
                             Lspec_l7Into_3 p0 (IntKind.wrap IntKind.i64 (p1 + 1)) p2 l57 l55)))))
                    (br (n6 == 7)
                     (grd (decide (0 ≤ n15) && decide (n15 < ni (List.length p3))) (oget p3 (Int.toNat n15) fun x58 =>
                      asI .i64 x58 fun n59 => ocall V 75 [(.op [(.os (5, 0) p4)]), (.agg [(.int .i64 n6), (.int .i64 n9), (.str s12), (.int .i64 n59), (.int .i64 n18)])] fun x60 l61 =>
                        asI .i64 x60 fun n62 => unc l61 fun x63 l64 => asOp x63 fun l65 => unc l65 fun x66 l67 => asOs (5, 0) x66 fun l68 => unn l67 (unn l64 (grd (decide (0 ≤ p1) && decide (p1 < ni (List.length p3))) (oget p3 (Int.toNat p1) fun _ =>
                              nam (List.set p3 (Int.toNat p1) (D.int IntKind.i64 n62)) fun l70 =>
                               Lspec_l7Into_3 p0 (IntKind.wrap IntKind.i64 (p1 + 1)) p2 l70 l68)))))
                     (ocall V 75 [(.op [(.os (5, 0) p4)]), (.agg [(.int .i64 n6), (.int .i64 n9), (.str s12), (.int .i64 n15), (.int .i64 n18)])] fun x71 l72 =>
                      asI .i64 x71 fun n73 => unc l72 fun x74 l75 => asOp x74 fun l76 => unc l76 fun x77 l78 => asOs (5, 0) x77 fun l79 => unn l78 (unn l75 (grd (decide (0 ≤ p1) && decide (p1 < ni (List.length p3))) (oget p3 (Int.toNat p1) fun _ =>
                            nam (List.set p3 (Int.toNat p1) (D.int IntKind.i64 n73)) fun l81 =>
                             Lspec_l7Into_3 p0 (IntKind.wrap IntKind.i64 (p1 + 1)) p2 l81 l79)))))))))))
   (some ((.os (1, 0) p3), [(.op [(.os (5, 0) p4)])])) := by
  exact (Rn_eq _ _ _).trans (by kernel_rfl)
theorem espec_l2DrawAtom (a0_0 : List D) (a0_1 : Int) (a0_2 : Int) : V 170 [.op [.rs (1, 0) a0_0, .int .i64 a0_1, .int .i64 a0_2]] =
  ocall V 85 [(.op [(.rs (1, 0) a0_0), (.int .i64 a0_1), (.int .i64 a0_2)]), (.int .i64 (8))] fun x0 l1 =>
   asI .i64 x0 fun n2 => unc l1 fun x3 l4 => asOp x3 fun l5 => unc l5 fun x6 l7 => asRs (1, 0) x6 fun l8 => unc l7 fun x9 l10 => asI .i64 x9 fun n11 => unc l10 fun x12 l13 => asI .i64 x12 fun n14 => unn l13 (unn l4 (br (n2 == 0)
             (some ((.agg [(.int .i64 (1)), (.int .i64 (0)), (.str ({ data := #[] })), (.int .i64 (0)), (.int .i64 (0))]), [(.op [(.rs (1, 0) l8), (.int .i64 n11), (.int .i64 n14)])]))
             (br (n2 == 1)
              (ocall V 85 [(.op [(.rs (1, 0) l8), (.int .i64 n11), (.int .i64 n14)]), (.int .i64 (2))] fun x15 l16 =>
               asI .i64 x15 fun n17 => unc l16 fun x18 l19 => asOp x18 fun l20 => unc l20 fun x21 l22 => asRs (1, 0) x21 fun l23 => unc l22 fun x24 l25 => asI .i64 x24 fun n26 => unc l25 fun x27 l28 => asI .i64 x27 fun n29 => unn l28 (unn l19 (some ((.agg [(.int .i64 (2)), (.int .i64 n17), (.str ({ data := #[] })), (.int .i64 (0)), (.int .i64 (0))]), [(.op [(.rs (1, 0) l23), (.int .i64 n26), (.int .i64 n29)])]))))
              (br (n2 == 2)
               (ocall V 122 [(.op [(.rs (1, 0) l8), (.int .i64 n11), (.int .i64 n14)]), (.rs (1, 0) [(.str ({ data := #[97] })), (.str ({ data := #[98, 99] })), (.str ({ data := #[120] })), (.str ({ data := #[102] })), (.str ({ data := #[43] })), (.str ({ data := #[108, 105, 115, 116] }))])] fun x30 l31 =>
                asS x30 fun s32 => unc l31 fun x33 l34 => asOp x33 fun l35 => unc l35 fun x36 l37 => asRs (1, 0) x36 fun l38 => unc l37 fun x39 l40 => asI .i64 x39 fun n41 => unc l40 fun x42 l43 => asI .i64 x42 fun n44 => unn l43 (unn l34 (some ((.agg [(.int .i64 (4)), (.int .i64 (0)), (.str s32), (.int .i64 (0)), (.int .i64 (0))]), [(.op [(.rs (1, 0) l38), (.int .i64 n41), (.int .i64 n44)])]))))
               (br (n2 == 3)
                (ocall V 85 [(.op [(.rs (1, 0) l8), (.int .i64 n11), (.int .i64 n14)]), (.int .i64 (5))] fun x45 l46 =>
                 asI .i64 x45 fun n47 => unc l46 fun x48 l49 => asOp x48 fun l50 => unc l50 fun x51 l52 => asRs (1, 0) x51 fun l53 => unc l52 fun x54 l55 => asI .i64 x54 fun n56 => unc l55 fun x57 l58 => asI .i64 x57 fun n59 => unn l58 (unn l49 (some ((.agg [(.int .i64 (9)), (.int .i64 n47), (.str ({ data := #[] })), (.int .i64 (0)), (.int .i64 (0))]), [(.op [(.rs (1, 0) l53), (.int .i64 n56), (.int .i64 n59)])]))))
                (br (n2 == 4)
                 (ocall V 85 [(.op [(.rs (1, 0) l8), (.int .i64 n11), (.int .i64 n14)]), (.int .i64 (5))] fun x60 l61 =>
                  asI .i64 x60 fun n62 => unc l61 fun x63 l64 => asOp x63 fun l65 => unc l65 fun x66 l67 => asRs (1, 0) x66 fun l68 => unc l67 fun x69 l70 => asI .i64 x69 fun n71 => unc l70 fun x72 l73 => asI .i64 x72 fun n74 => unn l73 (unn l64 (some ((.agg [(.int .i64 (8)), (.int .i64 n62), (.str ({ data := #[] })), (.int .i64 (0)), (.int .i64 (0))]), [(.op [(.rs (1, 0) l68), (.int .i64 n71), (.int .i64 n74)])]))))
                 (ocall V 85 [(.op [(.rs (1, 0) l8), (.int .i64 n11), (.int .i64 n14)]), (.int .i64 (12))] fun x75 l76 =>
                  asI .i64 x75 fun n77 => unc l76 fun x78 l79 => asOp x78 fun l80 => unc l80 fun x81 l82 => asRs (1, 0) x81 fun l83 => unc l82 fun x84 l85 => asI .i64 x84 fun n86 => unc l85 fun x87 l88 => asI .i64 x87 fun n89 => unn l88 (unn l79 (some ((.agg [(.int .i64 (3)), (.int .i64 (IntKind.wrap IntKind.i64 (n77 - 3))), (.str ({ data := #[] })), (.int .i64 (0)), (.int .i64 (0))]), [(.op [(.rs (1, 0) l83), (.int .i64 n86), (.int .i64 n89)])])))))))))) := by
  exact (Vn_eq Try.func170 rfl _).trans (by kernel_rfl)
theorem Lspec_l3Write_24_eq (p0 : ByteArray) (p1 : List D) (p2 : Int) (p3 : Int) (p4 : ByteArray) (p5 : Int) (p6 : Int) : Lspec_l3Write_24 p0 p1 p2 p3 p4 p5 p6 =
  grd (decide (0 ≤ p6) && decide (p6 < ni (List.length p1))) (oget p1 (Int.toNat p6) fun x35 =>
   asAgg x35 fun l36 => oget l36 0 fun x37 =>
     asI .i64 x37 fun n38 => br (n38 == 5)
       (br (decide (ni (ByteArray.size p0) ≤ 400))
        (grd (decide (0 ≤ p6) && decide (p6 < ni (List.length p1))) (oget p1 (Int.toNat p6) fun x39 =>
         asAgg x39 fun l40 => unc l40 fun x41 l42 => asI .i64 x41 fun n43 => unc l42 fun x44 l45 => asI .i64 x44 fun n46 => unc l45 fun x47 l48 => asS x47 fun s49 => unc l48 fun x50 l51 => asI .i64 x50 fun n52 => unc l51 fun x53 l54 => asI .i64 x53 fun n55 => unn l54 (grd (decide (ni (ByteArray.size p0 + ByteArray.size { data := #[32] }) ≤ LIM)) (ocall V 69 [(.agg [(.rs (5, 0) p1)]), (.int .i64 n52), (.str (p0 ++ { data := #[32] }))] fun x56 l57 =>
                     asS x56 fun s58 => unn l57 (Lspec_l3Write_24 s58 p1 n43 n46 s49 n52 n55)))))
        (grd (decide (0 ≤ p6) && decide (p6 < ni (List.length p1))) (oget p1 (Int.toNat p6) fun x59 =>
         asAgg x59 fun l60 => oget l60 0 fun x61 =>
           asI .i64 x61 fun n62 => br (n62 != 1)
             (grd (decide (ni (ByteArray.size p0 + ByteArray.size { data := #[32, 46, 32] }) ≤ LIM)) (ocall V 69 [(.agg [(.rs (5, 0) p1)]), (.int .i64 p6), (.str (p0 ++ { data := #[32, 46, 32] }))] fun x63 l64 =>
              asS x63 fun s65 => unn l64 (grd (decide (ni (ByteArray.size s65 + ByteArray.size { data := #[41] }) ≤ LIM)) (some ((.str (s65 ++ { data := #[41] })), [])))))
             (grd (decide (ni (ByteArray.size p0 + ByteArray.size { data := #[41] }) ≤ LIM)) (some ((.str (p0 ++ { data := #[41] })), []))))))
       (grd (decide (0 ≤ p6) && decide (p6 < ni (List.length p1))) (oget p1 (Int.toNat p6) fun x66 =>
        asAgg x66 fun l67 => oget l67 0 fun x68 =>
          asI .i64 x68 fun n69 => br (n69 != 1)
            (grd (decide (ni (ByteArray.size p0 + ByteArray.size { data := #[32, 46, 32] }) ≤ LIM)) (ocall V 69 [(.agg [(.rs (5, 0) p1)]), (.int .i64 p6), (.str (p0 ++ { data := #[32, 46, 32] }))] fun x70 l71 =>
             asS x70 fun s72 => unn l71 (grd (decide (ni (ByteArray.size s72 + ByteArray.size { data := #[41] }) ≤ LIM)) (some ((.str (s72 ++ { data := #[41] })), [])))))
            (grd (decide (ni (ByteArray.size p0 + ByteArray.size { data := #[41] }) ≤ LIM)) (some ((.str (p0 ++ { data := #[41] })), [])))))) := by
  exact (Rn_eq _ _ _).trans (by kernel_rfl)
theorem espec_l1Byte (a0_0 : List D) (a0_1 : Int) (a0_2 : Int) : V 145 [.op [.rs (1, 0) a0_0, .int .i64 a0_1, .int .i64 a0_2]] =
  grd (!decide (33 < 0)) (grd (!decide (45 < 0)) (br (decide (a0_1 < ni (List.length a0_0)))
   (grd (decide (0 ≤ a0_1) && decide (a0_1 < ni (List.length a0_0))) (oget a0_0 (Int.toNat a0_1) fun x0 =>
    asI .u8 x0 fun n1 => some ((.int .i64 (IntKind.wrap IntKind.i64 (ni (BitVec.toNat (BitVec.ofInt (IntKind.bits IntKind.i64) (IntKind.wrap IntKind.i64 (IntKind.wrap IntKind.i64 (ni (BitVec.toNat (BitVec.ofInt (IntKind.bits IntKind.i64) (IntKind.wrap IntKind.i64 (ni (BitVec.toNat (BitVec.ofInt (IntKind.bits IntKind.i64) (Int.fdiv (IntKind.wrap IntKind.i64 (IntKind.wrap IntKind.i64 (a0_2 * 6364136223846793005) + 1442695040888963407)) (2 ^ min (Int.toNat (33)) (IntKind.bits IntKind.i64))) ^^^ BitVec.ofInt (IntKind.bits IntKind.i64) (Int.fdiv (IntKind.wrap IntKind.i64 (IntKind.wrap IntKind.i64 (a0_2 * 6364136223846793005) + 1442695040888963407)) (2 ^ min (Int.toNat (45)) (IntKind.bits IntKind.i64))))))) &&& BitVec.ofInt (IntKind.bits IntKind.i64) (255)))) + IntKind.wrap IntKind.i64 n1)) &&& BitVec.ofInt (IntKind.bits IntKind.i64) (255)))))), [(.op [(.rs (1, 0) a0_0), (.int .i64 (IntKind.wrap IntKind.i64 (a0_1 + 1))), (.int .i64 (IntKind.wrap IntKind.i64 (IntKind.wrap IntKind.i64 (a0_2 * 6364136223846793005) + 1442695040888963407)))])])))
   (some ((.int .i64 (IntKind.wrap IntKind.i64 (ni (BitVec.toNat (BitVec.ofInt (IntKind.bits IntKind.i64) (IntKind.wrap IntKind.i64 (ni (BitVec.toNat (BitVec.ofInt (IntKind.bits IntKind.i64) (Int.fdiv (IntKind.wrap IntKind.i64 (IntKind.wrap IntKind.i64 (a0_2 * 6364136223846793005) + 1442695040888963407)) (2 ^ min (Int.toNat (33)) (IntKind.bits IntKind.i64))) ^^^ BitVec.ofInt (IntKind.bits IntKind.i64) (Int.fdiv (IntKind.wrap IntKind.i64 (IntKind.wrap IntKind.i64 (a0_2 * 6364136223846793005) + 1442695040888963407)) (2 ^ min (Int.toNat (45)) (IntKind.bits IntKind.i64))))))) &&& BitVec.ofInt (IntKind.bits IntKind.i64) (255)))))), [(.op [(.rs (1, 0) a0_0), (.int .i64 a0_1), (.int .i64 (IntKind.wrap IntKind.i64 (IntKind.wrap IntKind.i64 (a0_2 * 6364136223846793005) + 1442695040888963407)))])])))) := by
  exact (Vn_eq Try.func145 rfl _).trans (by kernel_rfl)
theorem Limpl_reach_8_eq (p0 : Int) (p1 : List D) (p2 : List D) : Limpl_reach_8 p0 p1 p2 =
  br (decide (p0 ≥ 0))
   (grd (decide (0 ≤ p0) && decide (p0 < ni (List.length p2))) (oget p2 (Int.toNat p0) fun x4 =>
    asB x4 fun b5 => br (!b5)
      (Limpl_reach_8 (IntKind.wrap IntKind.i64 (p0 - 1)) p1 p2)
      (grd (decide (0 ≤ p0) && decide (p0 < ni (List.length p1))) (oget p1 (Int.toNat p0) fun x6 =>
       asAgg x6 fun l7 => unc l7 fun x8 l9 => asI .i64 x8 fun n10 => unc l9 fun x11 l12 => asI .i64 x11 fun _ => unc l12 fun x14 l15 => asS x14 fun _ => unc l15 fun x17 l18 => asI .i64 x17 fun n19 => unc l18 fun x20 l21 => asI .i64 x20 fun n22 => unn l21 (br (n10 == 5)
                   (grd (decide (0 ≤ n19) && decide (n19 < ni (List.length p2))) (oget p2 (Int.toNat n19) fun _ =>
                    nam (List.set p2 (Int.toNat n19) (D.bool true)) fun l24 =>
                     grd (decide (0 ≤ n22) && decide (n22 < ni (List.length l24))) (oget l24 (Int.toNat n22) fun _ =>
                      nam (List.set l24 (Int.toNat n22) (D.bool true)) fun l26 =>
                       Limpl_reach_8 (IntKind.wrap IntKind.i64 (p0 - 1)) p1 l26)))
                   (br (n10 == 6)
                    (br (n10 == 6)
                     (grd (decide (0 ≤ n19) && decide (n19 < ni (List.length p2))) (oget p2 (Int.toNat n19) fun _ =>
                      nam (List.set p2 (Int.toNat n19) (D.bool true)) fun l28 =>
                       Limpl_reach_8 (IntKind.wrap IntKind.i64 (p0 - 1)) p1 l28))
                     (Limpl_reach_8 (IntKind.wrap IntKind.i64 (p0 - 1)) p1 p2))
                    (br (n10 == 7)
                     (grd (decide (0 ≤ n19) && decide (n19 < ni (List.length p2))) (oget p2 (Int.toNat n19) fun _ =>
                      nam (List.set p2 (Int.toNat n19) (D.bool true)) fun l30 =>
                       Limpl_reach_8 (IntKind.wrap IntKind.i64 (p0 - 1)) p1 l30))
                     (Limpl_reach_8 (IntKind.wrap IntKind.i64 (p0 - 1)) p1 p2))))))))
   (some ((.os (1, 0) p2), [])) := by
  exact (Rn_eq _ _ _).trans (by kernel_rfl)
theorem espec_DrawSizeOf (a0_ : List D) : V 64 [.rs (1, 0) a0_] =
  ocall V 52 [(.rs (1, 0) a0_)] fun x0 l1 =>
   asOp x0 fun l2 => unc l2 fun x3 l4 => asRs (1, 0) x3 fun l5 => unc l4 fun x6 l7 => asI .i64 x6 fun n8 => unc l7 fun x9 l10 => asI .i64 x9 fun n11 => unn l10 (unn l1 (ocall V 53 [(.op [(.rs (1, 0) l5), (.int .i64 n8), (.int .i64 n11)])] fun x12 l13 =>
           asAgg x12 fun l14 => unc l14 fun x15 l16 => asOs (5, 0) x15 fun l17 => unn l16 (unc l13 fun x18 l19 => asOp x18 fun l20 => unc l20 fun x21 l22 => asRs (1, 0) x21 fun l23 => unc l22 fun x24 l25 => asI .i64 x24 fun n26 => unc l25 fun x27 l28 => asI .i64 x27 fun n29 => unn l28 (unn l19 (ocall V 63 [(.op [(.rs (1, 0) l23), (.int .i64 n26), (.int .i64 n29)]), (.int .i64 (12))] fun x30 l31 =>
                       asB x30 fun b32 => unc l31 fun x33 l34 => asOp x33 fun l35 => unc l35 fun x36 l37 => asRs (1, 0) x36 fun l38 => unc l37 fun x39 l40 => asI .i64 x39 fun n41 => unc l40 fun x42 l43 => asI .i64 x42 fun n44 => unn l43 (unn l34 (br b32
                                 (Lspec_DrawSizeOf_6 (0) l38 n41 n44 ([D.agg [D.int IntKind.i64 (1), D.int IntKind.i64 (0), D.str { data := #[] }, D.int IntKind.i64 (0), D.int IntKind.i64 (0)]]))
                                 (ocall V 66 [(.op [(.rs (1, 0) l38), (.int .i64 n41), (.int .i64 n44)]), (.agg [(.rs (5, 0) l17)])] fun x45 l46 =>
                                  asI .i64 x45 fun n47 => unc l46 fun x48 l49 => asOp x48 fun l50 => unc l50 fun x51 l52 => asRs (1, 0) x51 fun _ => unc l52 fun x54 l55 => asI .i64 x54 fun _ => unc l55 fun x57 l58 => asI .i64 x57 fun _ => unn l58 (unn l49 (some ((.tup [(.agg [(.rs (5, 0) l17)]), (.int .i64 n47)]), []))))))))))) := by
  exact (Vn_eq Try.func64 rfl _).trans (by kernel_rfl)
theorem Lspec_l2DrawRight_4v1_eq (p0 : Int) (p1 : Int) (p2 : List D) (p3 : Int) (p4 : Int) (p5 : List D) : Lspec_l2DrawRight_4v1 p0 p1 p2 p3 p4 p5 =
  br (decide (p1 < p0))
   (ocall V 148 [(.op [(.rs (1, 0) p2), (.int .i64 p3), (.int .i64 p4)]), (.int .i64 p1)] fun x54 l55 =>
    asAgg x54 fun l56 => unc l56 fun x57 l58 => asI .i64 x57 fun n59 => unc l58 fun x60 l61 => asI .i64 x60 fun n62 => unc l61 fun x63 l64 => asS x63 fun s65 => unc l64 fun x66 l67 => asI .i64 x66 fun n68 => unc l67 fun x69 l70 => asI .i64 x69 fun n71 => unn l70 (unc l55 fun x72 l73 => asOp x72 fun l74 => unc l74 fun x75 l76 => asRs (1, 0) x75 fun l77 => unc l76 fun x78 l79 => asI .i64 x78 fun n80 => unc l79 fun x81 l82 => asI .i64 x81 fun n83 => unn l82 (unn l73 (ocall V 75 [(.op [(.os (5, 0) p5)]), (.agg [(.int .i64 n59), (.int .i64 n62), (.str s65), (.int .i64 n68), (.int .i64 n71)])] fun x84 l85 =>
                        asI .i64 x84 fun _ => unc l85 fun x87 l88 => asOp x87 fun l89 => unc l89 fun x90 l91 => asOs (5, 0) x90 fun l92 => unn l91 (unn l88 (Lspec_l2DrawRight_4v1 p0 (IntKind.wrap IntKind.i64 (p1 + 1)) l77 n80 n83 l92))))))
   (some ((.agg [(.os (5, 0) p5)]), [(.op [(.rs (1, 0) p2), (.int .i64 p3), (.int .i64 p4)])])) := by
  exact (Rn_eq _ _ _).trans (by kernel_rfl)
theorem espec_DrawKeep (a0_ : List D) : V 12 [.rs (1, 0) a0_] =
  ocall V 52 [(.rs (1, 0) a0_)] fun x0 l1 =>
   asOp x0 fun l2 => unc l2 fun x3 l4 => asRs (1, 0) x3 fun l5 => unc l4 fun x6 l7 => asI .i64 x6 fun n8 => unc l7 fun x9 l10 => asI .i64 x9 fun n11 => unn l10 (unn l1 (ocall V 53 [(.op [(.rs (1, 0) l5), (.int .i64 n8), (.int .i64 n11)])] fun x12 l13 =>
           asAgg x12 fun l14 => unc l14 fun x15 l16 => asOs (5, 0) x15 fun l17 => unn l16 (unc l13 fun x18 l19 => asOp x18 fun l20 => unc l20 fun x21 l22 => asRs (1, 0) x21 fun l23 => unc l22 fun x24 l25 => asI .i64 x24 fun n26 => unc l25 fun x27 l28 => asI .i64 x27 fun n29 => unn l28 (unn l19 (ocall V 54 [(.op [(.rs (1, 0) l23), (.int .i64 n26), (.int .i64 n29)]), (.agg [(.rs (5, 0) l17)])] fun x30 l31 =>
                       asOs (1, 0) x30 fun l32 => unc l31 fun x33 l34 => asOp x33 fun l35 => unc l35 fun x36 l37 => asRs (1, 0) x36 fun _ => unc l37 fun x39 l40 => asI .i64 x39 fun _ => unc l40 fun x42 l43 => asI .i64 x42 fun _ => unn l43 (unn l34 (some ((.tup [(.agg [(.rs (5, 0) l17)]), (.os (1, 0) l32)]), [])))))))) := by
  exact (Vn_eq Try.func12 rfl _).trans (by kernel_rfl)
theorem Limpl_PoolOk_2_eq (p0 : List D) (p1 : Int) (p2 : Int) (p3 : List D) : Limpl_PoolOk_2 p0 p1 p2 p3 =
  br (decide (p2 < p1))
   (grd (decide (0 ≤ p2) && decide (p2 < ni (List.length p0))) (oget p0 (Int.toNat p2) fun x0 =>
    asAgg x0 fun l1 => unc l1 fun x2 l3 => asI .i64 x2 fun n4 => unc l3 fun x5 l6 => asI .i64 x5 fun n7 => unc l6 fun x8 l9 => asS x8 fun s10 => unc l9 fun x11 l12 => asI .i64 x11 fun n13 => unc l12 fun x14 l15 => asI .i64 x14 fun n16 => unn l15 (ocall V 62 [(.agg [(.int .i64 n4), (.int .i64 n7), (.str s10), (.int .i64 n13), (.int .i64 n16)]), (.int .i64 p2)] fun x17 l18 =>
                asB x17 fun b19 => unn l18 (br (!b19)
                  (some ((.bool false), []))
                  (Limpl_PoolOk_2 p0 p1 (IntKind.wrap IntKind.i64 (p2 + 1)) p3)))))
   (some ((.bool (decide (ni (List.length p3) ≤ 3000))), [])) := by
  exact (Rn_eq _ _ _).trans (by kernel_rfl)
theorem Limpl_keep_5_eq (p0 : List D) (p1 : Int) (p2 : Int) (p3 : List D) (p4 : List D) (p5 : List D) : Limpl_keep_5 p0 p1 p2 p3 p4 p5 =
  br (decide (p2 < p1))
   (grd (decide (0 ≤ p2) && decide (p2 < ni (List.length p0))) (oget p0 (Int.toNat p2) fun x9 =>
    asI .i64 x9 fun n10 => grd (decide (0 ≤ n10) && decide (n10 < ni (List.length p3))) (oget p3 (Int.toNat n10) fun x11 =>
      asI .i64 x11 fun n12 => grd (decide (ni (List.length (p4 ++ [D.int IntKind.i64 n12])) ≤ LIM)) (nam (p4 ++ [D.int IntKind.i64 n12]) fun l13 =>
        Limpl_keep_5 p0 p1 (IntKind.wrap IntKind.i64 (p2 + 1)) p3 l13 p5))))
   (some ((.tup [(.agg [(.os (5, 0) p5)]), (.os (1, 0) p4)]), [])) := by
  exact (Rn_eq _ _ _).trans (by kernel_rfl)
theorem eimpl_natural (a0_ : ByteArray) (a1_ : Int) : V 166 [.str a0_, .int .i64 a1_] =
  br (strEq a0_ { data := #[] })
   (some ((.tup [(.int .i64 (0)), (.bool false)]), []))
   (br (decide (ni (ByteArray.size a0_) > a1_))
    (some ((.tup [(.int .i64 (0)), (.bool false)]), []))
    (grd (decide (0 ≤ 0) && decide (0 < ni (ByteArray.size a0_))) (br (bt a0_ (0) == 48)
     (br (decide (ni (ByteArray.size a0_) > 1))
      (some ((.tup [(.int .i64 (0)), (.bool false)]), []))
      (Limpl_natural_5 a0_ (0) (ni (ByteArray.size a0_)) (0)))
     (Limpl_natural_5 a0_ (0) (ni (ByteArray.size a0_)) (0))))) := by
  exact (Vn_eq Try.func166 rfl _).trans (by kernel_rfl)
theorem eimpl_Pool_add (p : List D) (k : Int) (n : Int) (s : ByteArray) (a : Int) (b : Int) : V 138 [.op [.os (5, 0) p], .agg [.int .i64 k, .int .i64 n, .str s, .int .i64 a, .int .i64 b]] =
  grd (decide (ni (List.length (p ++ [D.agg [D.int IntKind.i64 k, D.int IntKind.i64 n, D.str s, D.int IntKind.i64 a, D.int IntKind.i64 b]])) ≤ LIM)) (nam (p ++ [D.agg [D.int IntKind.i64 k, D.int IntKind.i64 n, D.str s, D.int IntKind.i64 a, D.int IntKind.i64 b]]) fun l0 =>
   some ((.int .i64 (IntKind.wrap IntKind.i64 (ni (List.length l0) - 1))), [(.op [(.os (5, 0) l0)])])) := by
  exact (Vn_eq Try.func138 rfl _).trans (by kernel_rfl)
theorem Lslices_Index_byte_byte_2_eq (p0 : List D) (p1 : Int) (p2 : Int) (p3 : Int) : Lslices_Index_byte_byte_2 p0 p1 p2 p3 =
  br (decide (p3 < p2))
   (grd (decide (0 ≤ p3) && decide (p3 < ni (List.length p0))) (oget p0 (Int.toNat p3) fun x0 =>
    asI .u8 x0 fun n1 => br (p1 == n1)
      (some ((.int .i64 p3), []))
      (Lslices_Index_byte_byte_2 p0 p1 p2 (IntKind.wrap IntKind.i64 (p3 + 1)))))
   (some ((.int .i64 (-1)), [])) := by
  exact (Rn_eq _ _ _).trans (by kernel_rfl)
theorem eimpl_rootsOk (a0_0 : List D) (a1_ : List D) : V 55 [.agg [.rs (5, 0) a0_0], .rs (1, 0) a1_] =
  ocall V 18 [(.agg [(.rs (5, 0) a0_0)])] fun x0 l1 =>
   asB x0 fun b2 => unn l1 (br b2
     (ocall V 113 [(.rs (1, 0) a1_), (.fn 114 [(.bp [(.rs (5, 0) a0_0)])])] fun x3 l4 =>
      asB x3 fun b5 => unn l4 (some ((.bool (!b5)), [])))
     (some ((.bool false), []))) := by
  exact (Vn_eq Try.func55 rfl _).trans (by kernel_rfl)
theorem espec_l2Has (a0_0 : List D) (a1_ : Int) : V 68 [.agg [.rs (5, 0) a0_0], .int .i64 a1_] =
  ocall V 104 [(.int .i64 a1_), (.int .i64 (0)), (.int .i64 (IntKind.wrap IntKind.i64 (ni (List.length a0_0) - 1)))] fun x0 l1 =>
   asB x0 fun b2 => unn l1 (some ((.bool b2), [])) := by
  exact (Vn_eq Try.func68 rfl _).trans (by kernel_rfl)
theorem espec_l3Digit (a0_ : Int) : V 129 [.int .u8 a0_] =
  br (decide (a0_ ≥ 48))
   (some ((.bool (decide (a0_ ≤ 57))), []))
   (some ((.bool false), [])) := by
  exact (Vn_eq Try.func129 rfl _).trans (by kernel_rfl)
theorem espec_NameOk (a0_ : ByteArray) : V 131 [.str a0_] =
  Lspec_NameOk_2 a0_ (0) := by
  exact (Vn_eq Try.func131 rfl _).trans (by kernel_rfl)
end Go.Eng
