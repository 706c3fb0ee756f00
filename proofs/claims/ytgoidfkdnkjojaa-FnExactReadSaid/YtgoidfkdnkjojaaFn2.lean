/- the functions as the interpreter has them -/
import Derived.Test.YtgoidfkdnkjojaaFn0
namespace Go.Eng
open Go.Proofs Go.Proofs.Try
set_option maxRecDepth 100000
theorem eimpl_instrOk (a0_0 : List D) (a0_1 : List D) (a0_2 : List D) (a1_ : Int) : V 173 [.agg [.rs (5, 0) a0_0, .rs (4, 0) a0_1, .rs (3, 0) a0_2], .int .i64 a1_] =
  grd (decide (0 ≤ a1_) && decide (a1_ < ni (List.length a0_1))) (oget a0_1 (Int.toNat a1_) fun x0 =>
   asAgg x0 fun l1 => unc l1 fun x2 l3 => asI .i64 x2 fun n4 => unc l3 fun x5 l6 => asI .i64 x5 fun n7 => unc l6 fun x8 l9 => asI .i64 x8 fun n10 => unc l9 fun x11 l12 => asS x11 fun s13 => unn l12 (br (n4 == 1)
             (ocall V 59 [(.agg [(.rs (5, 0) a0_0)]), (.int .i64 n7)] fun x14 l15 =>
              asB x14 fun b16 => unn l15 (br b16
                (br (n10 == 0)
                 (some ((.bool (strEq s13 { data := #[] })), []))
                 (some ((.bool false), [])))
                (some ((.bool false), []))))
             (br (n4 == 2)
              (ocall V 106 [(.int .i64 n7), (.int .i64 (0)), (.int .i64 (20))] fun x17 l18 =>
               asB x17 fun b19 => unn l18 (ocall V 106 [(.int .i64 n10), (.int .i64 (0)), (.int .i64 (3))] fun x20 l21 =>
                 asB x20 fun b22 => unn l21 (br b19
                   (br b22
                    (some ((.bool (strEq s13 { data := #[] })), []))
                    (some ((.bool false), [])))
                   (some ((.bool false), [])))))
              (br (n4 == 3)
               (ocall V 121 [(.str s13)] fun x23 l24 =>
                asB x23 fun b25 => unn l24 (br (n7 == 0)
                  (br (n10 == 0)
                   (some ((.bool b25), []))
                   (some ((.bool false), [])))
                  (some ((.bool false), []))))
               (br (n4 == 4)
                (br (n4 == 4)
                 (ocall V 106 [(.int .i64 n7), (.int .i64 (IntKind.wrap IntKind.i64 (a1_ + 1))), (.int .i64 (ni (List.length a0_1)))] fun x26 l27 =>
                  asB x26 fun b28 => unn l27 (br b28
                    (br (n10 == 0)
                     (some ((.bool (strEq s13 { data := #[] })), []))
                     (some ((.bool false), [])))
                    (some ((.bool false), []))))
                 (br (n4 == 6)
                  (ocall V 106 [(.int .i64 n7), (.int .i64 (IntKind.wrap IntKind.i64 (a1_ + 1))), (.int .i64 (IntKind.wrap IntKind.i64 (ni (List.length a0_1) - 1)))] fun x29 l30 =>
                   asB x29 fun b31 => unn l30 (ocall V 106 [(.int .i64 n10), (.int .i64 (0)), (.int .i64 (4))] fun x32 l33 =>
                     asB x32 fun b34 => unn l33 (br b31
                       (br b34
                        (some ((.bool (strEq s13 { data := #[] })), []))
                        (some ((.bool false), [])))
                       (some ((.bool false), [])))))
                  (br (n4 == 7)
                   (ocall V 106 [(.int .i64 n10), (.int .i64 (0)), (.int .i64 (4))] fun x35 l36 =>
                    asB x35 fun b37 => unn l36 (br (n7 == 0)
                      (br b37
                       (some ((.bool (strEq s13 { data := #[] })), []))
                       (some ((.bool false), [])))
                      (some ((.bool false), []))))
                   (br (n4 == 8)
                    (br (n4 == 8)
                     (br (n7 == 0)
                      (br (n10 == 0)
                       (some ((.bool (strEq s13 { data := #[] })), []))
                       (some ((.bool false), [])))
                      (some ((.bool false), [])))
                     (some ((.bool false), [])))
                    (br (n4 == 9)
                     (br (n7 == 0)
                      (br (n10 == 0)
                       (some ((.bool (strEq s13 { data := #[] })), []))
                       (some ((.bool false), [])))
                      (some ((.bool false), [])))
                     (some ((.bool false), [])))))))
                (br (n4 == 5)
                 (ocall V 106 [(.int .i64 n7), (.int .i64 (IntKind.wrap IntKind.i64 (a1_ + 1))), (.int .i64 (ni (List.length a0_1)))] fun x38 l39 =>
                  asB x38 fun b40 => unn l39 (br b40
                    (br (n10 == 0)
                     (some ((.bool (strEq s13 { data := #[] })), []))
                     (some ((.bool false), [])))
                    (some ((.bool false), []))))
                 (br (n4 == 6)
                  (ocall V 106 [(.int .i64 n7), (.int .i64 (IntKind.wrap IntKind.i64 (a1_ + 1))), (.int .i64 (IntKind.wrap IntKind.i64 (ni (List.length a0_1) - 1)))] fun x41 l42 =>
                   asB x41 fun b43 => unn l42 (ocall V 106 [(.int .i64 n10), (.int .i64 (0)), (.int .i64 (4))] fun x44 l45 =>
                     asB x44 fun b46 => unn l45 (br b43
                       (br b46
                        (some ((.bool (strEq s13 { data := #[] })), []))
                        (some ((.bool false), [])))
                       (some ((.bool false), [])))))
                  (br (n4 == 7)
                   (ocall V 106 [(.int .i64 n10), (.int .i64 (0)), (.int .i64 (4))] fun x47 l48 =>
                    asB x47 fun b49 => unn l48 (br (n7 == 0)
                      (br b49
                       (some ((.bool (strEq s13 { data := #[] })), []))
                       (some ((.bool false), [])))
                      (some ((.bool false), []))))
                   (br (n4 == 8)
                    (br (n4 == 8)
                     (br (n7 == 0)
                      (br (n10 == 0)
                       (some ((.bool (strEq s13 { data := #[] })), []))
                       (some ((.bool false), [])))
                      (some ((.bool false), [])))
                     (some ((.bool false), [])))
                    (br (n4 == 9)
                     (br (n7 == 0)
                      (br (n10 == 0)
                       (some ((.bool (strEq s13 { data := #[] })), []))
                       (some ((.bool false), [])))
                      (some ((.bool false), [])))
                     (some ((.bool false), [])))))))))))) := by
  exact (Vn_eq Try.func173 rfl _).trans (by kernel_rfl)
theorem Lspec_l7Into_3_eq (p0 : List D) (p1 : Int) (p2 : List D) (p3 : List D) (p4 : List D) : Lspec_l7Into_3 p0 p1 p2 p3 p4 =
  br (decide (p1 < ni (List.length p2)))
   (grd (decide (0 ≤ p1) && decide (p1 < ni (List.length p0))) (oget p0 (Int.toNat p1) fun x0 =>
    asB x0 fun b1 => br (!b1)
      (Lspec_l7Into_3 p0 (IntKind.wrap IntKind.i64 (p1 + 1)) p2 p3 p4)
      (grd (decide (0 ≤ p1) && decide (p1 < ni (List.length p2))) (oget p2 (Int.toNat p1) fun x2 =>
       asAgg x2 fun l3 => unc l3 fun x4 l5 => asI .i64 x4 fun n6 => unc l5 fun x7 l8 => asI .i64 x7 fun n9 => unc l8 fun x10 l11 => asS x10 fun s12 => unc l11 fun x13 l14 => asI .i64 x13 fun n15 => unc l14 fun x16 l17 => asI .i64 x16 fun n18 => unn l17 (br (n6 == 5)
                   (grd (decide (0 ≤ n15) && decide (n15 < ni (List.length p3))) (oget p3 (Int.toNat n15) fun x19 =>
                    asI .i64 x19 fun n20 => grd (decide (0 ≤ n18) && decide (n18 < ni (List.length p3))) (oget p3 (Int.toNat n18) fun x21 =>
                      asI .i64 x21 fun n22 => ocall V 75 [(.op [(.os (5, 0) p4)]), (.agg [(.int .i64 n6), (.int .i64 n9), (.str s12), (.int .i64 n20), (.int .i64 n22)])] fun x23 l24 =>
                        asI .i64 x23 fun n25 => unc l24 fun x26 l27 => asOp x26 fun l28 => unc l28 fun x29 l30 => asOs (5, 0) x29 fun l31 => unn l30 (unn l27 (grd (decide (0 ≤ p1) && decide (p1 < ni (List.length p3))) (oget p3 (Int.toNat p1) fun _ =>
                              nam (List.set p3 (Int.toNat p1) (D.int IntKind.i64 n25)) fun l33 =>
                               Lspec_l7Into_3 p0 (IntKind.wrap IntKind.i64 (p1 + 1)) p2 l33 l31))))))
                   (br (n6 == 6)
                    (br (n6 == 6)
                     (grd (decide (0 ≤ n15) && decide (n15 < ni (List.length p3))) (oget p3 (Int.toNat n15) fun x34 =>
                      asI .i64 x34 fun n35 => ocall V 75 [(.op [(.os (5, 0) p4)]), (.agg [(.int .i64 n6), (.int .i64 n9), (.str s12), (.int .i64 n35), (.int .i64 n18)])] fun x36 l37 =>
                        asI .i64 x36 fun n38 => unc l37 fun x39 l40 => asOp x39 fun l41 => unc l41 fun x42 l43 => asOs (5, 0) x42 fun l44 => unn l43 (unn l40 (grd (decide (0 ≤ p1) && decide (p1 < ni (List.length p3))) (oget p3 (Int.toNat p1) fun _ =>
                              nam (List.set p3 (Int.toNat p1) (D.int IntKind.i64 n38)) fun l46 =>
                               Lspec_l7Into_3 p0 (IntKind.wrap IntKind.i64 (p1 + 1)) p2 l46 l44)))))
                     (ocall V 75 [(.op [(.os (5, 0) p4)]), (.agg [(.int .i64 n6), (.int .i64 n9), (.str s12), (.int .i64 n15), (.int .i64 n18)])] fun x47 l48 =>
                      asI .i64 x47 fun n49 => unc l48 fun x50 l51 => asOp x50 fun l52 => unc l52 fun x53 l54 => asOs (5, 0) x53 fun l55 => unn l54 (unn l51 (grd (decide (0 ≤ p1) && decide (p1 < ni (List.length p3))) (oget p3 (Int.toNat p1) fun _ =>
                            nam (List.set p3 (Int.toNat p1) (D.int IntKind.i64 n49)) fun l57 =>
                             Lspec_l7Into_3 p0 (IntKind.wrap IntKind.i64 (p1 + 1)) p2 l57 l55)))))
                    (br (n6 == 7)
                     (grd (decide (0 ≤ n15) && decide (n15 < ni (List.length p3))) (oget p3 (Int.toNat n15) fun x58 =>
                      asI .i64 x58 fun n59 => ocall V 75 [(.op [(.os (5, 0) p4)]), (.agg [(.int .i64 n6), (.int .i64 n9), (.str s12), (.int .i64 n59), (.int .i64 n18)])] fun x60 l61 =>
                        asI .i64 x60 fun n62 => unc l61 fun x63 l64 => asOp x63 fun l65 => unc l65 fun x66 l67 => asOs (5, 0) x66 fun l68 => unn l67 (unn l64 (grd (decide (0 ≤ p1) && decide (p1 < ni (List.length p3))) (oget p3 (Int.toNat p1) fun _ =>
                              nam (List.set p3 (Int.toNat p1) (D.int IntKind.i64 n62)) fun l70 =>
                               Lspec_l7Into_3 p0 (IntKind.wrap IntKind.i64 (p1 + 1)) p2 l70 l68)))))
                     (ocall V 75 [(.op [(.os (5, 0) p4)]), (.agg [(.int .i64 n6), (.int .i64 n9), (.str s12), (.int .i64 n15), (.int .i64 n18)])] fun x71 l72 =>
                      asI .i64 x71 fun n73 => unc l72 fun x74 l75 => asOp x74 fun l76 => unc l76 fun x77 l78 => asOs (5, 0) x77 fun l79 => unn l78 (unn l75 (grd (decide (0 ≤ p1) && decide (p1 < ni (List.length p3))) (oget p3 (Int.toNat p1) fun _ =>
                            nam (List.set p3 (Int.toNat p1) (D.int IntKind.i64 n73)) fun l81 =>
                             Lspec_l7Into_3 p0 (IntKind.wrap IntKind.i64 (p1 + 1)) p2 l81 l79)))))))))))
   (some ((.os (1, 0) p3), [(.op [(.os (5, 0) p4)])])) := by
  exact (Rn_eq _ _ _).trans (by kernel_rfl)
theorem espec_MachineOk (a0_0 : List D) (a0_1 : List D) (a0_2 : List D) (a1_0 : List D) (a1_1 : Int) (a1_2 : Int) (a1_3 : Int) (a1_4 : Int) (a1_5 : Int) (a1_6 : Int) (a1_7 : Int) : V 93 [.agg [.rs (5, 0) a0_0, .rs (4, 0) a0_1, .rs (3, 0) a0_2], .agg [.rs (5, 0) a1_0, .int .i64 a1_1, .int .i64 a1_2, .int .i64 a1_3, .int .i64 a1_4, .int .i64 a1_5, .int .i64 a1_6, .int .i64 a1_7]] =
  ocall V 151 [(.agg [(.rs (5, 0) a0_0), (.rs (4, 0) a0_1), (.rs (3, 0) a0_2)])] fun x0 l1 =>
   asB x0 fun b2 => unn l1 (br (!b2)
     (some ((.bool false), []))
     (ocall V 67 [(.agg [(.rs (5, 0) a1_0)])] fun x3 l4 =>
      asB x3 fun b5 => unn l4 (br (!b5)
        (some ((.bool false), []))
        (ocall V 68 [(.agg [(.rs (5, 0) a1_0)]), (.int .i64 a1_2)] fun x6 l7 =>
         asB x6 fun b8 => unn l7 (br (!b8)
           (some ((.bool false), []))
           (ocall V 68 [(.agg [(.rs (5, 0) a1_0)]), (.int .i64 a1_3)] fun x9 l10 =>
            asB x9 fun b11 => unn l10 (br (!b11)
              (some ((.bool false), []))
              (ocall V 68 [(.agg [(.rs (5, 0) a1_0)]), (.int .i64 a1_4)] fun x12 l13 =>
               asB x12 fun b14 => unn l13 (br (!b14)
                 (some ((.bool false), []))
                 (ocall V 104 [(.int .i64 a1_1), (.int .i64 (0)), (.int .i64 (IntKind.wrap IntKind.i64 (ni (List.length a0_1) - 1)))] fun x15 l16 =>
                  asB x15 fun b17 => unn l16 (br (a1_5 == 0)
                    (br b17
                     (br (a1_6 == 0)
                      (some ((.bool (a1_7 == 0)), []))
                      (some ((.bool false), [])))
                     (some ((.bool false), [])))
                    (br (a1_5 == 1)
                     (br b17
                      (ocall V 104 [(.int .i64 a1_6), (.int .i64 (13)), (.int .i64 (19))] fun x18 l19 =>
                       asB x18 fun b20 => unn l19 (br b20
                         (br (a1_6 != 18)
                          (ocall V 68 [(.agg [(.rs (5, 0) a1_0)]), (.int .i64 a1_7)] fun x21 l22 =>
                           asB x21 fun b23 => unn l22 (some ((.bool b23), [])))
                          (some ((.bool false), [])))
                         (some ((.bool false), []))))
                      (some ((.bool false), [])))
                     (br (a1_5 == 2)
                      (br (a1_1 == 0)
                       (br (a1_6 == 0)
                        (ocall V 68 [(.agg [(.rs (5, 0) a1_0)]), (.int .i64 a1_7)] fun x24 l25 =>
                         asB x24 fun b26 => unn l25 (some ((.bool b26), [])))
                        (some ((.bool false), [])))
                       (some ((.bool false), [])))
                      (br (a1_5 == 3)
                       (br (a1_1 == 0)
                        (ocall V 104 [(.int .i64 a1_6), (.int .i64 (1)), (.int .i64 (7))] fun x27 l28 =>
                         asB x27 fun b29 => unn l28 (br b29
                           (some ((.bool (a1_7 == 0)), []))
                           (some ((.bool false), []))))
                        (some ((.bool false), [])))
                       (some ((.bool false), [])))))))))))))))) := by
  exact (Vn_eq Try.func93 rfl _).trans (by kernel_rfl)
theorem Lspec_l3Write_24_eq (p0 : ByteArray) (p1 : List D) (p2 : Int) (p3 : Int) (p4 : ByteArray) (p5 : Int) (p6 : Int) : Lspec_l3Write_24 p0 p1 p2 p3 p4 p5 p6 =
  grd (decide (0 ≤ p6) && decide (p6 < ni (List.length p1))) (oget p1 (Int.toNat p6) fun x35 =>
   asAgg x35 fun l36 => oget l36 0 fun x37 =>
     asI .i64 x37 fun n38 => br (n38 == 5)
       (br (decide (ni (ByteArray.size p0) ≤ 400))
        (grd (decide (0 ≤ p6) && decide (p6 < ni (List.length p1))) (oget p1 (Int.toNat p6) fun x39 =>
         asAgg x39 fun l40 => unc l40 fun x41 l42 => asI .i64 x41 fun n43 => unc l42 fun x44 l45 => asI .i64 x44 fun n46 => unc l45 fun x47 l48 => asS x47 fun s49 => unc l48 fun x50 l51 => asI .i64 x50 fun n52 => unc l51 fun x53 l54 => asI .i64 x53 fun n55 => unn l54 (grd (decide (ni (ByteArray.size p0 + ByteArray.size { data := #[32] }) ≤ LIM)) (ocall V 69 [(.agg [(.rs (5, 0) p1)]), (.int .i64 n52), (.str (p0 ++ { data := #[32] }))] fun x56 l57 =>
                     asS x56 fun s58 => unn l57 (Lspec_l3Write_24 s58 p1 n43 n46 s49 n52 n55)))))
        (grd (decide (0 ≤ p6) && decide (p6 < ni (List.length p1))) (oget p1 (Int.toNat p6) fun x59 =>
         asAgg x59 fun l60 => oget l60 0 fun x61 =>
           asI .i64 x61 fun n62 => br (n62 != 1)
             (grd (decide (ni (ByteArray.size p0 + ByteArray.size { data := #[32, 46, 32] }) ≤ LIM)) (ocall V 69 [(.agg [(.rs (5, 0) p1)]), (.int .i64 p6), (.str (p0 ++ { data := #[32, 46, 32] }))] fun x63 l64 =>
              asS x63 fun s65 => unn l64 (grd (decide (ni (ByteArray.size s65 + ByteArray.size { data := #[41] }) ≤ LIM)) (some ((.str (s65 ++ { data := #[41] })), [])))))
             (grd (decide (ni (ByteArray.size p0 + ByteArray.size { data := #[41] }) ≤ LIM)) (some ((.str (p0 ++ { data := #[41] })), []))))))
       (grd (decide (0 ≤ p6) && decide (p6 < ni (List.length p1))) (oget p1 (Int.toNat p6) fun x66 =>
        asAgg x66 fun l67 => oget l67 0 fun x68 =>
          asI .i64 x68 fun n69 => br (n69 != 1)
            (grd (decide (ni (ByteArray.size p0 + ByteArray.size { data := #[32, 46, 32] }) ≤ LIM)) (ocall V 69 [(.agg [(.rs (5, 0) p1)]), (.int .i64 p6), (.str (p0 ++ { data := #[32, 46, 32] }))] fun x70 l71 =>
             asS x70 fun s72 => unn l71 (grd (decide (ni (ByteArray.size s72 + ByteArray.size { data := #[41] }) ≤ LIM)) (some ((.str (s72 ++ { data := #[41] })), [])))))
            (grd (decide (ni (ByteArray.size p0 + ByteArray.size { data := #[41] }) ≤ LIM)) (some ((.str (p0 ++ { data := #[41] })), [])))))) := by
  exact (Rn_eq _ _ _).trans (by kernel_rfl)
theorem Limpl_reach_8_eq (p0 : Int) (p1 : List D) (p2 : List D) : Limpl_reach_8 p0 p1 p2 =
  br (decide (p0 ≥ 0))
   (grd (decide (0 ≤ p0) && decide (p0 < ni (List.length p2))) (oget p2 (Int.toNat p0) fun x4 =>
    asB x4 fun b5 => br (!b5)
      (Limpl_reach_8 (IntKind.wrap IntKind.i64 (p0 - 1)) p1 p2)
      (grd (decide (0 ≤ p0) && decide (p0 < ni (List.length p1))) (oget p1 (Int.toNat p0) fun x6 =>
       asAgg x6 fun l7 => unc l7 fun x8 l9 => asI .i64 x8 fun n10 => unc l9 fun x11 l12 => asI .i64 x11 fun _ => unc l12 fun x14 l15 => asS x14 fun _ => unc l15 fun x17 l18 => asI .i64 x17 fun n19 => unc l18 fun x20 l21 => asI .i64 x20 fun n22 => unn l21 (br (n10 == 5)
                   (grd (decide (0 ≤ n19) && decide (n19 < ni (List.length p2))) (oget p2 (Int.toNat n19) fun _ =>
                    nam (List.set p2 (Int.toNat n19) (D.bool true)) fun l24 =>
                     grd (decide (0 ≤ n22) && decide (n22 < ni (List.length l24))) (oget l24 (Int.toNat n22) fun _ =>
                      nam (List.set l24 (Int.toNat n22) (D.bool true)) fun l26 =>
                       Limpl_reach_8 (IntKind.wrap IntKind.i64 (p0 - 1)) p1 l26)))
                   (br (n10 == 6)
                    (br (n10 == 6)
                     (grd (decide (0 ≤ n19) && decide (n19 < ni (List.length p2))) (oget p2 (Int.toNat n19) fun _ =>
                      nam (List.set p2 (Int.toNat n19) (D.bool true)) fun l28 =>
                       Limpl_reach_8 (IntKind.wrap IntKind.i64 (p0 - 1)) p1 l28))
                     (Limpl_reach_8 (IntKind.wrap IntKind.i64 (p0 - 1)) p1 p2))
                    (br (n10 == 7)
                     (grd (decide (0 ≤ n19) && decide (n19 < ni (List.length p2))) (oget p2 (Int.toNat n19) fun _ =>
                      nam (List.set p2 (Int.toNat n19) (D.bool true)) fun l30 =>
                       Limpl_reach_8 (IntKind.wrap IntKind.i64 (p0 - 1)) p1 l30))
                     (Limpl_reach_8 (IntKind.wrap IntKind.i64 (p0 - 1)) p1 p2))))))))
   (some ((.os (1, 0) p2), [])) := by
  exact (Rn_eq _ _ _).trans (by kernel_rfl)
theorem Lspec_CodeOk_9_eq (p0 : Int) (p1 : List D) (p2 : List D) (p3 : List D) : Lspec_CodeOk_9 p0 p1 p2 p3 =
  br (decide (p0 < ni (List.length p3)))
   (grd (decide (0 ≤ p0) && decide (p0 < ni (List.length p3))) (oget p3 (Int.toNat p0) fun x6 =>
    asAgg x6 fun l7 => unc l7 fun x8 l9 => asS x8 fun s10 => unc l9 fun x11 l12 => asI .i64 x11 fun n13 => unc l12 fun x14 l15 => asI .i64 x14 fun n16 => unn l15 (ocall V 131 [(.str s10)] fun x17 l18 =>
            asB x17 fun b19 => unn l18 (br (!b19)
              (some ((.bool false), []))
              (ocall V 172 [(.agg [(.rs (5, 0) p1), (.rs (4, 0) p2), (.rs (3, 0) p3)]), (.str s10)] fun x20 l21 =>
               asI .i64 x20 fun n22 => unn l21 (br (n22 != p0)
                 (some ((.bool false), []))
                 (ocall V 104 [(.int .i64 n13), (.int .i64 (0)), (.int .i64 (IntKind.wrap IntKind.i64 (ni (List.length p2) - 1)))] fun x23 l24 =>
                  asB x23 fun b25 => unn l24 (br (!b25)
                    (some ((.bool false), []))
                    (ocall V 104 [(.int .i64 n16), (.int .i64 (0)), (.int .i64 (4))] fun x26 l27 =>
                     asB x26 fun b28 => unn l27 (br (!b28)
                       (some ((.bool false), []))
                       (Lspec_CodeOk_9 (IntKind.wrap IntKind.i64 (p0 + 1)) p1 p2 p3)))))))))))
   (some ((.bool true), [])) := by
  exact (Rn_eq _ _ _).trans (by kernel_rfl)
theorem Llaws_toInstrS_3_eq (p0 : List D) (p1 : Int) (p2 : List D) : Llaws_toInstrS_3 p0 p1 p2 =
  br (decide (p1 < ni (List.length p0)))
   (grd (decide (0 ≤ p1) && decide (p1 < ni (List.length p0))) (oget p0 (Int.toNat p1) fun x0 =>
    asAgg x0 fun l1 => unc l1 fun x2 l3 => asI .i64 x2 fun n4 => unc l3 fun x5 l6 => asI .i64 x5 fun n7 => unc l6 fun x8 l9 => asI .i64 x8 fun n10 => unc l9 fun x11 l12 => asS x11 fun s13 => unn l12 (ocall V 153 [(.agg [(.int .i64 n4), (.int .i64 n7), (.int .i64 n10), (.str s13)])] fun x14 l15 =>
              asAgg x14 fun l16 => unc l16 fun x17 l18 => asI .i64 x17 fun n19 => unc l18 fun x20 l21 => asI .i64 x20 fun n22 => unc l21 fun x23 l24 => asI .i64 x23 fun n25 => unc l24 fun x26 l27 => asS x26 fun s28 => unn l27 (unn l15 (grd (decide (0 ≤ p1) && decide (p1 < ni (List.length p2))) (oget p2 (Int.toNat p1) fun _ =>
                        nam (List.set p2 (Int.toNat p1) (D.agg [D.int IntKind.i64 n19, D.int IntKind.i64 n22, D.int IntKind.i64 n25, D.str s28])) fun l30 =>
                         Llaws_toInstrS_3 p0 (IntKind.wrap IntKind.i64 (p1 + 1)) l30))))))
   (some ((.os (4, 0) p2), [])) := by
  exact (Rn_eq _ _ _).trans (by kernel_rfl)
theorem espec_ValuePack (a0_0 : List D) (a1_ : Int) : V 37 [.agg [.rs (5, 0) a0_0], .int .i64 a1_] =
  ocall V 67 [(.agg [(.rs (5, 0) a0_0)])] fun x0 l1 =>
   asB x0 fun b2 => unn l1 (br (!b2)
     (some ((.tup [(.str ({ data := #[] })), (.bool false)]), []))
     (ocall V 68 [(.agg [(.rs (5, 0) a0_0)]), (.int .i64 a1_)] fun x3 l4 =>
      asB x3 fun b5 => unn l4 (br (!b5)
        (some ((.tup [(.str ({ data := #[] })), (.bool false)]), []))
        (ocall V 58 [(.agg [(.rs (5, 0) a0_0)]), (.rs (1, 0) [(.int .i64 a1_)])] fun x6 l7 =>
         asTup x6 fun l8 => unc l8 fun x9 l10 => asAgg x9 fun l11 => unc l11 fun x12 l13 => asOs (5, 0) x12 fun l14 => unn l13 (unc l10 fun x15 l16 => asOs (1, 0) x15 fun _ => unn l16 (unn l7 (ocall V 88 [(.agg [(.rs (5, 0) l14)])] fun x18 l19 =>
                 asOs (1, 0) x18 fun l20 => unn l19 (obytes l20 fun s21 => some ((.tup [(.str s21), (.bool true)]), []))))))))) := by
  exact (Vn_eq Try.func37 rfl _).trans (by kernel_rfl)
theorem Limpl_PoolOk_2_eq (p0 : List D) (p1 : Int) (p2 : Int) (p3 : List D) : Limpl_PoolOk_2 p0 p1 p2 p3 =
  br (decide (p2 < p1))
   (grd (decide (0 ≤ p2) && decide (p2 < ni (List.length p0))) (oget p0 (Int.toNat p2) fun x0 =>
    asAgg x0 fun l1 => unc l1 fun x2 l3 => asI .i64 x2 fun n4 => unc l3 fun x5 l6 => asI .i64 x5 fun n7 => unc l6 fun x8 l9 => asS x8 fun s10 => unc l9 fun x11 l12 => asI .i64 x11 fun n13 => unc l12 fun x14 l15 => asI .i64 x14 fun n16 => unn l15 (ocall V 62 [(.agg [(.int .i64 n4), (.int .i64 n7), (.str s10), (.int .i64 n13), (.int .i64 n16)]), (.int .i64 p2)] fun x17 l18 =>
                asB x17 fun b19 => unn l18 (br (!b19)
                  (some ((.bool false), []))
                  (Limpl_PoolOk_2 p0 p1 (IntKind.wrap IntKind.i64 (p2 + 1)) p3)))))
   (some ((.bool (decide (ni (List.length p3) ≤ 3000))), [])) := by
  exact (Rn_eq _ _ _).trans (by kernel_rfl)
theorem Llaws_szNodeS_5_eq (p0 : List D) (p1 : Int) (p2 : Int) : Llaws_szNodeS_5 p0 p1 p2 =
  br (decide (p2 < ni (List.length p0)))
   (grd (decide (0 ≤ p2) && decide (p2 < ni (List.length p0))) (oget p0 (Int.toNat p2) fun x0 =>
    asAgg x0 fun l1 => unc l1 fun x2 l3 => asI .i64 x2 fun n4 => unc l3 fun x5 l6 => asI .i64 x5 fun n7 => unc l6 fun x8 l9 => asS x8 fun s10 => unc l9 fun x11 l12 => asI .i64 x11 fun n13 => unc l12 fun x14 l15 => asI .i64 x14 fun n16 => unn l15 (ocall V 127 [(.agg [(.int .i64 n4), (.int .i64 n7), (.str s10), (.int .i64 n13), (.int .i64 n16)]), (.int .i64 p1)] fun x17 l18 =>
                asI .i64 x17 fun n19 => unn l18 (br (decide (n19 < 0))
                  (some ((.int .i64 (-1)), []))
                  (Llaws_szNodeS_5 p0 n19 (IntKind.wrap IntKind.i64 (p2 + 1)))))))
   (some ((.int .i64 p1), [])) := by
  exact (Rn_eq _ _ _).trans (by kernel_rfl)
theorem Llaws_szDefS_5_eq (p0 : List D) (p1 : Int) (p2 : Int) : Llaws_szDefS_5 p0 p1 p2 =
  br (decide (p2 < ni (List.length p0)))
   (grd (decide (0 ≤ p2) && decide (p2 < ni (List.length p0))) (oget p0 (Int.toNat p2) fun x0 =>
    asAgg x0 fun l1 => unc l1 fun x2 l3 => asS x2 fun s4 => unc l3 fun x5 l6 => asI .i64 x5 fun n7 => unc l6 fun x8 l9 => asI .i64 x8 fun n10 => unn l9 (ocall V 150 [(.agg [(.str s4), (.int .i64 n7), (.int .i64 n10)]), (.int .i64 p1)] fun x11 l12 =>
            asI .i64 x11 fun n13 => unn l12 (br (decide (n13 < 0))
              (some ((.int .i64 (-1)), []))
              (Llaws_szDefS_5 p0 n13 (IntKind.wrap IntKind.i64 (p2 + 1)))))))
   (some ((.int .i64 p1), [])) := by
  exact (Rn_eq _ _ _).trans (by kernel_rfl)
theorem Limpl_keep_5_eq (p0 : List D) (p1 : Int) (p2 : Int) (p3 : List D) (p4 : List D) (p5 : List D) : Limpl_keep_5 p0 p1 p2 p3 p4 p5 =
  br (decide (p2 < p1))
   (grd (decide (0 ≤ p2) && decide (p2 < ni (List.length p0))) (oget p0 (Int.toNat p2) fun x9 =>
    asI .i64 x9 fun n10 => grd (decide (0 ≤ n10) && decide (n10 < ni (List.length p3))) (oget p3 (Int.toNat n10) fun x11 =>
      asI .i64 x11 fun n12 => grd (decide (ni (List.length (p4 ++ [D.int IntKind.i64 n12])) ≤ LIM)) (nam (p4 ++ [D.int IntKind.i64 n12]) fun l13 =>
        Limpl_keep_5 p0 p1 (IntKind.wrap IntKind.i64 (p2 + 1)) p3 l13 p5))))
   (some ((.tup [(.agg [(.os (5, 0) p5)]), (.os (1, 0) p4)]), [])) := by
  exact (Rn_eq _ _ _).trans (by kernel_rfl)
theorem eimpl_natural (a0_ : ByteArray) (a1_ : Int) : V 166 [.str a0_, .int .i64 a1_] =
  br (strEq a0_ { data := #[] })
   (some ((.tup [(.int .i64 (0)), (.bool false)]), []))
   (br (decide (ni (ByteArray.size a0_) > a1_))
    (some ((.tup [(.int .i64 (0)), (.bool false)]), []))
    (grd (decide (0 ≤ 0) && decide (0 < ni (ByteArray.size a0_))) (br (bt a0_ (0) == 48)
     (br (decide (ni (ByteArray.size a0_) > 1))
      (some ((.tup [(.int .i64 (0)), (.bool false)]), []))
      (Limpl_natural_5 a0_ (0) (ni (ByteArray.size a0_)) (0)))
     (Limpl_natural_5 a0_ (0) (ni (ByteArray.size a0_)) (0))))) := by
  exact (Vn_eq Try.func166 rfl _).trans (by kernel_rfl)
theorem eimpl_Pool_add (p : List D) (k : Int) (n : Int) (s : ByteArray) (a : Int) (b : Int) : V 138 [.op [.os (5, 0) p], .agg [.int .i64 k, .int .i64 n, .str s, .int .i64 a, .int .i64 b]] =
  grd (decide (ni (List.length (p ++ [D.agg [D.int IntKind.i64 k, D.int IntKind.i64 n, D.str s, D.int IntKind.i64 a, D.int IntKind.i64 b]])) ≤ LIM)) (nam (p ++ [D.agg [D.int IntKind.i64 k, D.int IntKind.i64 n, D.str s, D.int IntKind.i64 a, D.int IntKind.i64 b]]) fun l0 =>
   some ((.int .i64 (IntKind.wrap IntKind.i64 (ni (List.length l0) - 1))), [(.op [(.os (5, 0) l0)])])) := by
  exact (Vn_eq Try.func138 rfl _).trans (by kernel_rfl)
theorem eimpl_CodeOk (a0_0 : List D) (a0_1 : List D) (a0_2 : List D) : V 155 [.agg [.rs (5, 0) a0_0, .rs (4, 0) a0_1, .rs (3, 0) a0_2]] =
  ocall V 18 [(.agg [(.rs (5, 0) a0_0)])] fun x0 l1 =>
   asB x0 fun b2 => unn l1 (br (!b2)
     (some ((.bool false), []))
     (br (decide (ni (List.length a0_1) > 400))
      (some ((.bool false), []))
      (br (decide (ni (List.length a0_2) > 20))
       (some ((.bool false), []))
       (Limpl_CodeOk_4 (ni (List.length a0_1)) (0) a0_0 a0_1 a0_2)))) := by
  exact (Vn_eq Try.func155 rfl _).trans (by kernel_rfl)
theorem Llaws_markIntS_2_eq (p0 : Int) (p1 : Int) (p2 : List D) : Llaws_markIntS_2 p0 p1 p2 =
  br (decide (p1 < ni (List.length p2)))
   (grd (decide (0 ≤ p1) && decide (p1 < ni (List.length p2))) (oget p2 (Int.toNat p1) fun _ =>
    nam (List.set p2 (Int.toNat p1) (D.int IntKind.i64 p0)) fun l1 =>
     Llaws_markIntS_2 (IntKind.wrap IntKind.i64 (p0 + 1)) (IntKind.wrap IntKind.i64 (p1 + 1)) l1))
   (some ((.int .i64 p0), [(.os (1, 0) p2)])) := by
  exact (Rn_eq _ _ _).trans (by kernel_rfl)
theorem Lslices_Index_byte_byte_2_eq (p0 : List D) (p1 : Int) (p2 : Int) (p3 : Int) : Lslices_Index_byte_byte_2 p0 p1 p2 p3 =
  br (decide (p3 < p2))
   (grd (decide (0 ≤ p3) && decide (p3 < ni (List.length p0))) (oget p0 (Int.toNat p3) fun x0 =>
    asI .u8 x0 fun n1 => br (p1 == n1)
      (some ((.int .i64 p3), []))
      (Lslices_Index_byte_byte_2 p0 p1 p2 (IntKind.wrap IntKind.i64 (p3 + 1)))))
   (some ((.int .i64 (-1)), [])) := by
  exact (Rn_eq _ _ _).trans (by kernel_rfl)
theorem eimpl_rootsOk (a0_0 : List D) (a1_ : List D) : V 55 [.agg [.rs (5, 0) a0_0], .rs (1, 0) a1_] =
  ocall V 18 [(.agg [(.rs (5, 0) a0_0)])] fun x0 l1 =>
   asB x0 fun b2 => unn l1 (br b2
     (ocall V 113 [(.rs (1, 0) a1_), (.fn 114 [(.bp [(.rs (5, 0) a0_0)])])] fun x3 l4 =>
      asB x3 fun b5 => unn l4 (some ((.bool (!b5)), [])))
     (some ((.bool false), []))) := by
  exact (Vn_eq Try.func55 rfl _).trans (by kernel_rfl)
theorem eimpl_isPlace (a0_0 : List D) (a0_1 : List D) (a0_2 : List D) (a1_ : Int) : V 156 [.agg [.rs (5, 0) a0_0, .rs (4, 0) a0_1, .rs (3, 0) a0_2], .int .i64 a1_] =
  ocall V 106 [(.int .i64 a1_), (.int .i64 (0)), (.int .i64 (IntKind.wrap IntKind.i64 (ni (List.length a0_1) - 1)))] fun x0 l1 =>
   asB x0 fun b2 => unn l1 (some ((.bool b2), [])) := by
  exact (Vn_eq Try.func156 rfl _).trans (by kernel_rfl)
theorem elaws_toDefS (a0_ : List D) : V 97 [.rs (3, 0) a0_] =
  grd (decide (0 ≤ ni (List.length a0_)) && decide (ni (List.length a0_) ≤ LIM)) (Llaws_toDefS_3 a0_ (0) (List.replicate (Int.toNat (ni (List.length a0_))) (D.agg [D.str { data := #[] }, D.int IntKind.i64 (0), D.int IntKind.i64 (0)]))) := by
  exact (Vn_eq Try.func97 rfl _).trans (by kernel_rfl)
theorem eimpl_PutText (a0_ : ByteArray) : V 146 [.str a0_] =
  ocall V 100 [(.int .i64 (ni (ByteArray.size a0_)))] fun x0 l1 =>
   asOs (1, 0) x0 fun l2 => unn l1 (grd (decide (ni (List.length (l2 ++ bytesD a0_)) ≤ LIM)) (nam (l2 ++ bytesD a0_) fun l3 =>
     some ((.os (1, 0) l3), []))) := by
  exact (Vn_eq Try.func146 rfl _).trans (by kernel_rfl)
theorem elaws_szPool (a0_0 : List D) (a1_ : Int) : V 21 [.agg [.rs (5, 0) a0_0], .int .i64 a1_] =
  ocall V 70 [(.rs (5, 0) a0_0), (.int .i64 a1_)] fun x0 l1 =>
   asI .i64 x0 fun n2 => unn l1 (br (decide (n2 < 0))
     (some ((.int .i64 (-1)), []))
     (some ((.int .i64 n2), []))) := by
  exact (Vn_eq Try.func21 rfl _).trans (by kernel_rfl)
theorem espec_l2Has (a0_0 : List D) (a1_ : Int) : V 68 [.agg [.rs (5, 0) a0_0], .int .i64 a1_] =
  ocall V 104 [(.int .i64 a1_), (.int .i64 (0)), (.int .i64 (IntKind.wrap IntKind.i64 (ni (List.length a0_0) - 1)))] fun x0 l1 =>
   asB x0 fun b2 => unn l1 (some ((.bool b2), [])) := by
  exact (Vn_eq Try.func68 rfl _).trans (by kernel_rfl)
theorem elaws_eqStringS (a0_ : List D) (a1_ : List D) : V 111 [.rs (1, 0) a0_, .rs (1, 0) a1_] =
  br (ni (List.length a0_) != ni (List.length a1_))
   (some ((.bool false), []))
   (Llaws_eqStringS_4 a0_ a1_ (0)) := by
  exact (Vn_eq Try.func111 rfl _).trans (by kernel_rfl)
theorem elaws_eqIntS (a0_ : List D) (a1_ : List D) : V 26 [.rs (1, 0) a0_, .rs (1, 0) a1_] =
  br (ni (List.length a0_) != ni (List.length a1_))
   (some ((.bool false), []))
   (Llaws_eqIntS_4 a0_ a1_ (0)) := by
  exact (Vn_eq Try.func26 rfl _).trans (by kernel_rfl)
theorem elaws_toPool (a0_0 : List D) : V 23 [.agg [.rs (5, 0) a0_0]] =
  ocall V 76 [(.rs (5, 0) a0_0)] fun x0 l1 =>
   asOs (5, 0) x0 fun l2 => unn l1 (some ((.agg [(.os (5, 0) l2)]), [])) := by
  exact (Vn_eq Try.func23 rfl _).trans (by kernel_rfl)
theorem espec_l3Digit (a0_ : Int) : V 129 [.int .u8 a0_] =
  br (decide (a0_ ≥ 48))
   (some ((.bool (decide (a0_ ≤ 57))), []))
   (some ((.bool false), [])) := by
  exact (Vn_eq Try.func129 rfl _).trans (by kernel_rfl)
theorem espec_NameOk (a0_ : ByteArray) : V 131 [.str a0_] =
  Lspec_NameOk_2 a0_ (0) := by
  exact (Vn_eq Try.func131 rfl _).trans (by kernel_rfl)
end Go.Eng
