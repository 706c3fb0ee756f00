/- the functions as the interpreter has them -/
import Derived.Test.YtgoidfkdnkjojaaFn0
namespace Go.Eng
open Go.Proofs Go.Proofs.Try
set_option maxRecDepth 100000
theorem espec_l4Instr (a0_0 : List D) (a0_1 : List D) (a0_2 : List D) (a1_ : Int) : V 171 [.agg [.rs (5, 0) a0_0, .rs (4, 0) a0_1, .rs (3, 0) a0_2], .int .i64 a1_] =
  grd (decide (0 ≤ a1_) && decide (a1_ < ni (List.length a0_1))) (oget a0_1 (Int.toNat a1_) fun x0 =>
   asAgg x0 fun l1 => unc l1 fun x2 l3 => asI .i64 x2 fun n4 => unc l3 fun x5 l6 => asI .i64 x5 fun n7 => unc l6 fun x8 l9 => asI .i64 x8 fun n10 => unc l9 fun x11 l12 => asS x11 fun s13 => unn l12 (br (n4 == 1)
             (br (n4 == n4 && (n7 == n7 && (n10 == 0 && (strEq s13 { data := #[] } && true))))
              (ocall V 68 [(.agg [(.rs (5, 0) a0_0)]), (.int .i64 n7)] fun x14 l15 =>
               asB x14 fun b16 => unn l15 (some ((.bool b16), [])))
              (some ((.bool false), [])))
             (br (n4 == 2)
              (br (strEq s13 { data := #[] })
               (ocall V 104 [(.int .i64 n7), (.int .i64 (0)), (.int .i64 (20))] fun x17 l18 =>
                asB x17 fun b19 => unn l18 (br b19
                  (ocall V 104 [(.int .i64 n10), (.int .i64 (0)), (.int .i64 (3))] fun x20 l21 =>
                   asB x20 fun b22 => unn l21 (some ((.bool b22), [])))
                  (some ((.bool false), []))))
               (some ((.bool false), [])))
              (br (n4 == 3)
               (br (n4 == n4 && (n7 == 0 && (n10 == 0 && (strEq s13 s13 && true))))
                (ocall V 131 [(.str s13)] fun x23 l24 =>
                 asB x23 fun b25 => unn l24 (some ((.bool b25), [])))
                (some ((.bool false), [])))
               (br (n4 == 4)
                (br (n4 == 4)
                 (br (n4 == n4 && (n7 == n7 && (n10 == 0 && (strEq s13 { data := #[] } && true))))
                  (br (decide (n7 > a1_))
                   (some ((.bool (decide (n7 ≤ ni (List.length a0_1)))), []))
                   (some ((.bool false), [])))
                  (some ((.bool false), [])))
                 (br (n4 == 6)
                  (br (strEq s13 { data := #[] })
                   (br (decide (n7 > a1_))
                    (br (decide (n7 < ni (List.length a0_1)))
                     (ocall V 104 [(.int .i64 n10), (.int .i64 (0)), (.int .i64 (4))] fun x26 l27 =>
                      asB x26 fun b28 => unn l27 (some ((.bool b28), [])))
                     (some ((.bool false), [])))
                    (some ((.bool false), [])))
                   (some ((.bool false), [])))
                  (br (n4 == 7)
                   (br (n4 == n4 && (n7 == 0 && (n10 == n10 && (strEq s13 { data := #[] } && true))))
                    (ocall V 104 [(.int .i64 n10), (.int .i64 (0)), (.int .i64 (4))] fun x29 l30 =>
                     asB x29 fun b31 => unn l30 (some ((.bool b31), [])))
                    (some ((.bool false), [])))
                   (br (n4 == 8)
                    (br (n4 == 8)
                     (some ((.bool (n4 == n4 && (n7 == 0 && (n10 == 0 && (strEq s13 { data := #[] } && true))))), []))
                     (some ((.bool false), [])))
                    (br (n4 == 9)
                     (some ((.bool (n4 == n4 && (n7 == 0 && (n10 == 0 && (strEq s13 { data := #[] } && true))))), []))
                     (some ((.bool false), [])))))))
                (br (n4 == 5)
                 (br (n4 == n4 && (n7 == n7 && (n10 == 0 && (strEq s13 { data := #[] } && true))))
                  (br (decide (n7 > a1_))
                   (some ((.bool (decide (n7 ≤ ni (List.length a0_1)))), []))
                   (some ((.bool false), [])))
                  (some ((.bool false), [])))
                 (br (n4 == 6)
                  (br (strEq s13 { data := #[] })
                   (br (decide (n7 > a1_))
                    (br (decide (n7 < ni (List.length a0_1)))
                     (ocall V 104 [(.int .i64 n10), (.int .i64 (0)), (.int .i64 (4))] fun x32 l33 =>
                      asB x32 fun b34 => unn l33 (some ((.bool b34), [])))
                     (some ((.bool false), [])))
                    (some ((.bool false), [])))
                   (some ((.bool false), [])))
                  (br (n4 == 7)
                   (br (n4 == n4 && (n7 == 0 && (n10 == n10 && (strEq s13 { data := #[] } && true))))
                    (ocall V 104 [(.int .i64 n10), (.int .i64 (0)), (.int .i64 (4))] fun x35 l36 =>
                     asB x35 fun b37 => unn l36 (some ((.bool b37), [])))
                    (some ((.bool false), [])))
                   (br (n4 == 8)
                    (br (n4 == 8)
                     (some ((.bool (n4 == n4 && (n7 == 0 && (n10 == 0 && (strEq s13 { data := #[] } && true))))), []))
                     (some ((.bool false), [])))
                    (br (n4 == 9)
                     (some ((.bool (n4 == n4 && (n7 == 0 && (n10 == 0 && (strEq s13 { data := #[] } && true))))), []))
                     (some ((.bool false), [])))))))))))) := by
  exact (Vn_eq Try.func171 rfl _).trans (by kernel_rfl)
theorem espec_l3Write (a0_0 : List D) (a1_ : Int) (a2_ : ByteArray) : V 69 [.agg [.rs (5, 0) a0_0], .int .i64 a1_, .str a2_] =
  br (decide (ni (ByteArray.size a2_) > 400))
   (some ((.str a2_), []))
   (grd (decide (0 ≤ a1_) && decide (a1_ < ni (List.length a0_0))) (oget a0_0 (Int.toNat a1_) fun x0 =>
    asAgg x0 fun l1 => unc l1 fun x2 l3 => asI .i64 x2 fun n4 => unc l3 fun x5 l6 => asI .i64 x5 fun n7 => unc l6 fun x8 l9 => asS x8 fun s10 => unc l9 fun x11 l12 => asI .i64 x11 fun n13 => unc l12 fun x14 l15 => asI .i64 x14 fun n16 => unn l15 (br (n4 == 1)
                (grd (decide (ni (ByteArray.size a2_ + ByteArray.size { data := #[40, 41] }) ≤ LIM)) (some ((.str (a2_ ++ { data := #[40, 41] })), [])))
                (br (n4 == 2)
                 (br (n7 == 1)
                  (grd (decide (ni (ByteArray.size a2_ + ByteArray.size { data := #[35, 116] }) ≤ LIM)) (some ((.str (a2_ ++ { data := #[35, 116] })), [])))
                  (grd (decide (ni (ByteArray.size a2_ + ByteArray.size { data := #[35, 102] }) ≤ LIM)) (some ((.str (a2_ ++ { data := #[35, 102] })), []))))
                 (br (n4 == 3)
                  (ocall V 126 [(.int .i64 n7)] fun x17 l18 =>
                   asS x17 fun s19 => unn l18 (grd (decide (ni (ByteArray.size a2_ + ByteArray.size s19) ≤ LIM)) (some ((.str (a2_ ++ s19)), []))))
                  (br (n4 == 4)
                   (grd (decide (ni (ByteArray.size a2_ + ByteArray.size s10) ≤ LIM)) (some ((.str (a2_ ++ s10)), [])))
                   (br (n4 == 6)
                    (grd (decide (ni (ByteArray.size a2_ + ByteArray.size { data := #[35, 102, 117, 110] }) ≤ LIM)) (ocall V 126 [(.int .i64 n7)] fun x20 l21 =>
                     asS x20 fun s22 => unn l21 (grd (decide (ni (ByteArray.size (a2_ ++ { data := #[35, 102, 117, 110] }) + ByteArray.size s22) ≤ LIM)) (some ((.str (a2_ ++ { data := #[35, 102, 117, 110] } ++ s22)), [])))))
                    (br (n4 == 7)
                     (grd (decide (ni (ByteArray.size a2_ + ByteArray.size { data := #[35, 107, 111, 110, 116] }) ≤ LIM)) (ocall V 126 [(.int .i64 n7)] fun x23 l24 =>
                      asS x23 fun s25 => unn l24 (grd (decide (ni (ByteArray.size (a2_ ++ { data := #[35, 107, 111, 110, 116] }) + ByteArray.size s25) ≤ LIM)) (some ((.str (a2_ ++ { data := #[35, 107, 111, 110, 116] } ++ s25)), [])))))
                     (br (n4 == 8)
                      (grd (decide (ni (ByteArray.size a2_ + ByteArray.size { data := #[35, 112, 114, 105, 109] }) ≤ LIM)) (ocall V 126 [(.int .i64 n7)] fun x26 l27 =>
                       asS x26 fun s28 => unn l27 (grd (decide (ni (ByteArray.size (a2_ ++ { data := #[35, 112, 114, 105, 109] }) + ByteArray.size s28) ≤ LIM)) (some ((.str (a2_ ++ { data := #[35, 112, 114, 105, 109] } ++ s28)), [])))))
                      (br (n4 == 9)
                       (grd (decide (ni (ByteArray.size a2_ + ByteArray.size { data := #[35, 112, 105, 100] }) ≤ LIM)) (ocall V 126 [(.int .i64 n7)] fun x29 l30 =>
                        asS x29 fun s31 => unn l30 (grd (decide (ni (ByteArray.size (a2_ ++ { data := #[35, 112, 105, 100] }) + ByteArray.size s31) ≤ LIM)) (some ((.str (a2_ ++ { data := #[35, 112, 105, 100] } ++ s31)), [])))))
                       (grd (decide (ni (ByteArray.size a2_ + ByteArray.size { data := #[40] }) ≤ LIM)) (ocall V 69 [(.agg [(.rs (5, 0) a0_0)]), (.int .i64 n13), (.str (a2_ ++ { data := #[40] }))] fun x32 l33 =>
                        asS x32 fun s34 => unn l33 (Lspec_l3Write_24 s34 a0_0 n4 n7 s10 n13 n16))))))))))))) := by
  exact (Vn_eq Try.func69 rfl _).trans (by kernel_rfl)
theorem Llaws_heldNodeS_2_eq (p0 : List D) (p1 : Int) (p2 : Int) : Llaws_heldNodeS_2 p0 p1 p2 =
  br (decide (p2 < ni (List.length p0)))
   (grd (decide (0 ≤ p2) && decide (p2 < ni (List.length p0))) (oget p0 (Int.toNat p2) fun x0 =>
    asAgg x0 fun l1 => oget l1 0 fun x2 =>
      asI .i64 x2 fun n3 => br (n3 != p1)
        (some ((.int .i64 (-1)), []))
        (grd (decide (0 ≤ p2) && decide (p2 < ni (List.length p0))) (oget p0 (Int.toNat p2) fun x4 =>
         asAgg x4 fun l5 => oget l5 1 fun x6 =>
           asI .i64 x6 fun n7 => br (n7 != IntKind.wrap IntKind.i64 (p1 + 1))
             (some ((.int .i64 (-1)), []))
             (grd (decide (0 ≤ p2) && decide (p2 < ni (List.length p0))) (oget p0 (Int.toNat p2) fun x8 =>
              asAgg x8 fun l9 => oget l9 2 fun x10 =>
                asS x10 fun s11 => ocall V 140 [(.int .i64 (IntKind.wrap IntKind.i64 (IntKind.wrap IntKind.i64 (p1 + 1) + 1)))] fun x12 l13 =>
                  asS x12 fun s14 => unn l13 (br (!strEq s11 s14)
                    (some ((.int .i64 (-1)), []))
                    (grd (decide (0 ≤ p2) && decide (p2 < ni (List.length p0))) (oget p0 (Int.toNat p2) fun x15 =>
                     asAgg x15 fun l16 => oget l16 3 fun x17 =>
                       asI .i64 x17 fun n18 => br (n18 != IntKind.wrap IntKind.i64 (IntKind.wrap IntKind.i64 (IntKind.wrap IntKind.i64 (p1 + 1) + 1) + 1))
                         (some ((.int .i64 (-1)), []))
                         (grd (decide (0 ≤ p2) && decide (p2 < ni (List.length p0))) (oget p0 (Int.toNat p2) fun x19 =>
                          asAgg x19 fun l20 => oget l20 4 fun x21 =>
                            asI .i64 x21 fun n22 => br (n22 != IntKind.wrap IntKind.i64 (IntKind.wrap IntKind.i64 (IntKind.wrap IntKind.i64 (IntKind.wrap IntKind.i64 (p1 + 1) + 1) + 1) + 1))
                              (some ((.int .i64 (-1)), []))
                              (Llaws_heldNodeS_2 p0 (IntKind.wrap IntKind.i64 (IntKind.wrap IntKind.i64 (IntKind.wrap IntKind.i64 (IntKind.wrap IntKind.i64 (IntKind.wrap IntKind.i64 (p1 + 1) + 1) + 1) + 1) + 1)) (IntKind.wrap IntKind.i64 (p2 + 1))))))))))))))
   (some ((.int .i64 p1), [])) := by
  exact (Rn_eq _ _ _).trans (by kernel_rfl)
theorem Lspec_l7Reach_7_eq (p0 : Int) (p1 : List D) (p2 : List D) : Lspec_l7Reach_7 p0 p1 p2 =
  br (decide (p0 ≥ 0))
   (grd (decide (0 ≤ p0) && decide (p0 < ni (List.length p1))) (oget p1 (Int.toNat p0) fun x4 =>
    asAgg x4 fun l5 => unc l5 fun x6 l7 => asI .i64 x6 fun n8 => unc l7 fun x9 l10 => asI .i64 x9 fun _ => unc l10 fun x12 l13 => asS x12 fun _ => unc l13 fun x15 l16 => asI .i64 x15 fun n17 => unc l16 fun x18 l19 => asI .i64 x18 fun n20 => unn l19 (grd (decide (0 ≤ p0) && decide (p0 < ni (List.length p2))) (oget p2 (Int.toNat p0) fun x21 =>
                asB x21 fun b22 => br (!b22)
                  (Lspec_l7Reach_7 (IntKind.wrap IntKind.i64 (p0 - 1)) p1 p2)
                  (br (n8 == 5)
                   (grd (decide (0 ≤ n17) && decide (n17 < ni (List.length p2))) (oget p2 (Int.toNat n17) fun _ =>
                    nam (List.set p2 (Int.toNat n17) (D.bool true)) fun l24 =>
                     grd (decide (0 ≤ n20) && decide (n20 < ni (List.length l24))) (oget l24 (Int.toNat n20) fun _ =>
                      nam (List.set l24 (Int.toNat n20) (D.bool true)) fun l26 =>
                       Lspec_l7Reach_7 (IntKind.wrap IntKind.i64 (p0 - 1)) p1 l26)))
                   (br (n8 == 6)
                    (br (n8 == 6)
                     (grd (decide (0 ≤ n17) && decide (n17 < ni (List.length p2))) (oget p2 (Int.toNat n17) fun _ =>
                      nam (List.set p2 (Int.toNat n17) (D.bool true)) fun l28 =>
                       Lspec_l7Reach_7 (IntKind.wrap IntKind.i64 (p0 - 1)) p1 l28))
                     (Lspec_l7Reach_7 (IntKind.wrap IntKind.i64 (p0 - 1)) p1 p2))
                    (br (n8 == 7)
                     (grd (decide (0 ≤ n17) && decide (n17 < ni (List.length p2))) (oget p2 (Int.toNat n17) fun _ =>
                      nam (List.set p2 (Int.toNat n17) (D.bool true)) fun l30 =>
                       Lspec_l7Reach_7 (IntKind.wrap IntKind.i64 (p0 - 1)) p1 l30))
                     (Lspec_l7Reach_7 (IntKind.wrap IntKind.i64 (p0 - 1)) p1 p2))))))))
   (some ((.os (1, 0) p2), [])) := by
  exact (Rn_eq _ _ _).trans (by kernel_rfl)
theorem eimpl_MachinePack (a0_0 : List D) (a0_1 : List D) (a0_2 : List D) (a1_0 : List D) (a1_1 : Int) (a1_2 : Int) (a1_3 : Int) (a1_4 : Int) (a1_5 : Int) (a1_6 : Int) (a1_7 : Int) : V 44 [.agg [.rs (5, 0) a0_0, .rs (4, 0) a0_1, .rs (3, 0) a0_2], .agg [.rs (5, 0) a1_0, .int .i64 a1_1, .int .i64 a1_2, .int .i64 a1_3, .int .i64 a1_4, .int .i64 a1_5, .int .i64 a1_6, .int .i64 a1_7]] =
  ocall V 98 [(.agg [(.rs (5, 0) a0_0), (.rs (4, 0) a0_1), (.rs (3, 0) a0_2)]), (.agg [(.rs (5, 0) a1_0), (.int .i64 a1_1), (.int .i64 a1_2), (.int .i64 a1_3), (.int .i64 a1_4), (.int .i64 a1_5), (.int .i64 a1_6), (.int .i64 a1_7)])] fun x0 l1 =>
   asB x0 fun b2 => unn l1 (br (!b2)
     (some ((.tup [(.str ({ data := #[] })), (.bool false)]), []))
     (ocall V 99 [(.agg [(.rs (5, 0) a1_0), (.int .i64 a1_1), (.int .i64 a1_2), (.int .i64 a1_3), (.int .i64 a1_4), (.int .i64 a1_5), (.int .i64 a1_6), (.int .i64 a1_7)])] fun x3 l4 =>
      asAgg x3 fun l5 => unc l5 fun x6 l7 => asOs (5, 0) x6 fun l8 => unc l7 fun x9 l10 => asI .i64 x9 fun n11 => unc l10 fun x12 l13 => asI .i64 x12 fun n14 => unc l13 fun x15 l16 => asI .i64 x15 fun n17 => unc l16 fun x18 l19 => asI .i64 x18 fun n20 => unc l19 fun x21 l22 => asI .i64 x21 fun n23 => unc l22 fun x24 l25 => asI .i64 x24 fun n26 => unc l25 fun x27 l28 => asI .i64 x27 fun n29 => unn l28 (unn l4 (Limpl_MachinePack_6 (ni 7) (0) n11 n14 n17 n20 n23 n26 n29 [] ([D.int IntKind.i64 n11, D.int IntKind.i64 n23, D.int IntKind.i64 n26, D.int IntKind.i64 n14, D.int IntKind.i64 n17, D.int IntKind.i64 n20, D.int IntKind.i64 n29]) l8)))) := by
  exact (Vn_eq Try.func44 rfl _).trans (by kernel_rfl)
theorem elaws_eqProc (a0_0 : Int) (a0_1 : List D) (a0_2 : Int) (a0_3 : Int) (a0_4 : Int) (a0_5 : Int) (a0_6 : Int) (a0_7 : Int) (a0_8 : Int) (a0_9 : List D) (a0_10 : List D) (a1_0 : Int) (a1_1 : List D) (a1_2 : Int) (a1_3 : Int) (a1_4 : Int) (a1_5 : Int) (a1_6 : Int) (a1_7 : Int) (a1_8 : Int) (a1_9 : List D) (a1_10 : List D) : V 51 [.agg [.int .i64 a0_0, .rs (5, 0) a0_1, .int .i64 a0_2, .int .i64 a0_3, .int .i64 a0_4, .int .i64 a0_5, .int .i64 a0_6, .int .i64 a0_7, .int .i64 a0_8, .rs (1, 0) a0_9, .rs (1, 0) a0_10], .agg [.int .i64 a1_0, .rs (5, 0) a1_1, .int .i64 a1_2, .int .i64 a1_3, .int .i64 a1_4, .int .i64 a1_5, .int .i64 a1_6, .int .i64 a1_7, .int .i64 a1_8, .rs (1, 0) a1_9, .rs (1, 0) a1_10]] =
  br (a0_0 != a1_0)
   (some ((.bool false), []))
   (ocall V 46 [(.agg [(.rs (5, 0) a0_1), (.int .i64 a0_2), (.int .i64 a0_3), (.int .i64 a0_4), (.int .i64 a0_5), (.int .i64 a0_6), (.int .i64 a0_7), (.int .i64 a0_8)]), (.agg [(.rs (5, 0) a1_1), (.int .i64 a1_2), (.int .i64 a1_3), (.int .i64 a1_4), (.int .i64 a1_5), (.int .i64 a1_6), (.int .i64 a1_7), (.int .i64 a1_8)])] fun x0 l1 =>
    asB x0 fun b2 => unn l1 (br (!b2)
      (some ((.bool false), []))
      (ocall V 111 [(.rs (1, 0) a0_9), (.rs (1, 0) a1_9)] fun x3 l4 =>
       asB x3 fun b5 => unn l4 (br (!b5)
         (some ((.bool false), []))
         (ocall V 111 [(.rs (1, 0) a0_10), (.rs (1, 0) a1_10)] fun x6 l7 =>
          asB x6 fun b8 => unn l7 (br (!b8)
            (some ((.bool false), []))
            (some ((.bool true), [])))))))) := by
  exact (Vn_eq Try.func51 rfl _).trans (by kernel_rfl)
theorem Limpl_CodeOk_10_eq (p0 : List D) (p1 : Int) (p2 : Int) (p3 : List D) (p4 : List D) (p5 : List D) : Limpl_CodeOk_10 p0 p1 p2 p3 p4 p5 =
  br (decide (p2 < p1))
   (grd (decide (0 ≤ p2) && decide (p2 < ni (List.length p0))) (oget p0 (Int.toNat p2) fun x6 =>
    asAgg x6 fun l7 => unc l7 fun x8 l9 => asS x8 fun s10 => unc l9 fun x11 l12 => asI .i64 x11 fun n13 => unc l12 fun x14 l15 => asI .i64 x14 fun n16 => unn l15 (ocall V 121 [(.str s10)] fun x17 l18 =>
            asB x17 fun b19 => unn l18 (br (!b19)
              (some ((.bool false), []))
              (ocall V 174 [(.agg [(.rs (5, 0) p3), (.rs (4, 0) p4), (.rs (3, 0) p5)]), (.str s10)] fun x20 l21 =>
               asI .i64 x20 fun n22 => unn l21 (br (n22 != p2)
                 (some ((.bool false), []))
                 (ocall V 106 [(.int .i64 n13), (.int .i64 (0)), (.int .i64 (IntKind.wrap IntKind.i64 (ni (List.length p4) - 1)))] fun x23 l24 =>
                  asB x23 fun b25 => unn l24 (br (!b25)
                    (some ((.bool false), []))
                    (ocall V 106 [(.int .i64 n16), (.int .i64 (0)), (.int .i64 (4))] fun x26 l27 =>
                     asB x26 fun b28 => unn l27 (br (!b28)
                       (some ((.bool false), []))
                       (Limpl_CodeOk_10 p0 p1 (IntKind.wrap IntKind.i64 (p2 + 1)) p3 p4 p5)))))))))))
   (some ((.bool true), [])) := by
  exact (Rn_eq _ _ _).trans (by kernel_rfl)
theorem espec_ValueRead (a0_ : ByteArray) : V 31 [.str a0_] =
  ocall V 82 [(.op [(.os (1, 0) (bytesD a0_)), (.int .i64 (0)), (.bool true)])] fun x0 l1 =>
   asAgg x0 fun l2 => unc l2 fun x3 l4 => asOs (5, 0) x3 fun l5 => unn l4 (unc l1 fun x6 l7 => asOp x6 fun l8 => unc l8 fun x9 l10 => asOs (1, 0) x9 fun _ => unc l10 fun x12 l13 => asI .i64 x12 fun _ => unc l13 fun x15 l16 => asB x15 fun b17 => unn l16 (unn l7 (br (!b17)
               (some ((.tup [(.agg [(.os (5, 0) [])]), (.int .i64 (0)), (.bool false)]), []))
               (br (ni (List.length l5) == 0)
                (some ((.tup [(.agg [(.os (5, 0) [])]), (.int .i64 (0)), (.bool false)]), []))
                (ocall V 37 [(.agg [(.rs (5, 0) l5)]), (.int .i64 (IntKind.wrap IntKind.i64 (ni (List.length l5) - 1)))] fun x18 l19 =>
                 asTup x18 fun l20 => unc l20 fun x21 l22 => asS x21 fun s23 => unc l22 fun x24 l25 => asB x24 fun _ => unn l25 (unn l19 (br (!strEq s23 a0_)
                       (some ((.tup [(.agg [(.os (5, 0) [])]), (.int .i64 (0)), (.bool false)]), []))
                       (some ((.tup [(.agg [(.os (5, 0) l5)]), (.int .i64 (IntKind.wrap IntKind.i64 (ni (List.length l5) - 1))), (.bool true)]), []))))))))) := by
  exact (Vn_eq Try.func31 rfl _).trans (by kernel_rfl)
theorem eimpl_ValuePack (a0_0 : List D) (a1_ : Int) : V 36 [.agg [.rs (5, 0) a0_0], .int .i64 a1_] =
  ocall V 18 [(.agg [(.rs (5, 0) a0_0)])] fun x0 l1 =>
   asB x0 fun b2 => unn l1 (br (!b2)
     (some ((.tup [(.str ({ data := #[] })), (.bool false)]), []))
     (ocall V 59 [(.agg [(.rs (5, 0) a0_0)]), (.int .i64 a1_)] fun x3 l4 =>
      asB x3 fun b5 => unn l4 (br (!b5)
        (some ((.tup [(.str ({ data := #[] })), (.bool false)]), []))
        (ocall V 56 [(.agg [(.rs (5, 0) a0_0)]), (.rs (1, 0) [(.int .i64 a1_)])] fun x6 l7 =>
         asTup x6 fun l8 => unc l8 fun x9 l10 => asAgg x9 fun l11 => unc l11 fun x12 l13 => asOs (5, 0) x12 fun l14 => unn l13 (unc l10 fun x15 l16 => asOs (1, 0) x15 fun _ => unn l16 (unn l7 (ocall V 87 [(.agg [(.rs (5, 0) l14)])] fun x18 l19 =>
                 asOs (1, 0) x18 fun l20 => unn l19 (obytes l20 fun s21 => some ((.tup [(.str s21), (.bool true)]), []))))))))) := by
  exact (Vn_eq Try.func36 rfl _).trans (by kernel_rfl)
theorem Limpl_MachinePack_6_eq (p0 : Int) (p1 : Int) (p2 : Int) (p3 : Int) (p4 : Int) (p5 : Int) (p6 : Int) (p7 : Int) (p8 : Int) (p9 : List D) (p10 : List D) (p11 : List D) : Limpl_MachinePack_6 p0 p1 p2 p3 p4 p5 p6 p7 p8 p9 p10 p11 =
  br (decide (p1 < p0))
   (grd (decide (0 ≤ p1) && decide (p1 < ni (List.length p10))) (oget p10 (Int.toNat p1) fun x30 =>
    asI .i64 x30 fun n31 => ocall V 100 [(.int .i64 n31)] fun x32 l33 =>
      asOs (1, 0) x32 fun l34 => unn l33 (grd (decide (ni (List.length (p9 ++ l34)) ≤ LIM)) (nam (p9 ++ l34) fun l35 =>
        Limpl_MachinePack_6 p0 (IntKind.wrap IntKind.i64 (p1 + 1)) p2 p3 p4 p5 p6 p7 p8 l35 p10 p11))))
   (ocall V 87 [(.agg [(.rs (5, 0) p11)])] fun x36 l37 =>
    asOs (1, 0) x36 fun l38 => unn l37 (grd (decide (ni (List.length (p9 ++ l38)) ≤ LIM)) (nam (p9 ++ l38) fun l39 =>
      obytes l39 fun s40 => some ((.tup [(.str s40), (.bool true)]), [])))) := by
  exact (Rn_eq _ _ _).trans (by kernel_rfl)
theorem elaws_eqCode (a0_0 : List D) (a0_1 : List D) (a0_2 : List D) (a1_0 : List D) (a1_1 : List D) (a1_2 : List D) : V 45 [.agg [.rs (5, 0) a0_0, .rs (4, 0) a0_1, .rs (3, 0) a0_2], .agg [.rs (5, 0) a1_0, .rs (4, 0) a1_1, .rs (3, 0) a1_2]] =
  ocall V 25 [(.agg [(.rs (5, 0) a0_0)]), (.agg [(.rs (5, 0) a1_0)])] fun x0 l1 =>
   asB x0 fun b2 => unn l1 (br (!b2)
     (some ((.bool false), []))
     (ocall V 101 [(.rs (4, 0) a0_1), (.rs (4, 0) a1_1)] fun x3 l4 =>
      asB x3 fun b5 => unn l4 (br (!b5)
        (some ((.bool false), []))
        (ocall V 102 [(.rs (3, 0) a0_2), (.rs (3, 0) a1_2)] fun x6 l7 =>
         asB x6 fun b8 => unn l7 (br (!b8)
           (some ((.bool false), []))
           (some ((.bool true), []))))))) := by
  exact (Vn_eq Try.func45 rfl _).trans (by kernel_rfl)
theorem Lspec_l7Keep_5_eq (p0 : List D) (p1 : Int) (p2 : List D) (p3 : List D) (p4 : List D) : Lspec_l7Keep_5 p0 p1 p2 p3 p4 =
  br (decide (p1 < ni (List.length p0)))
   (grd (decide (0 ≤ p1) && decide (p1 < ni (List.length p0))) (oget p0 (Int.toNat p1) fun x12 =>
    asI .i64 x12 fun n13 => grd (decide (0 ≤ n13) && decide (n13 < ni (List.length p2))) (oget p2 (Int.toNat n13) fun x14 =>
      asI .i64 x14 fun n15 => grd (decide (ni (List.length (p3 ++ [D.int IntKind.i64 n15])) ≤ LIM)) (nam (p3 ++ [D.int IntKind.i64 n15]) fun l16 =>
        Lspec_l7Keep_5 p0 (IntKind.wrap IntKind.i64 (p1 + 1)) p2 l16 p4))))
   (some ((.tup [(.agg [(.os (5, 0) p4)]), (.os (1, 0) p3)]), [])) := by
  exact (Rn_eq _ _ _).trans (by kernel_rfl)
theorem espec_l6Copy (a0_0 : List D) (a0_1 : Int) (a0_2 : Int) (a0_3 : Int) (a0_4 : Int) (a0_5 : Int) (a0_6 : Int) (a0_7 : Int) : V 152 [.agg [.rs (5, 0) a0_0, .int .i64 a0_1, .int .i64 a0_2, .int .i64 a0_3, .int .i64 a0_4, .int .i64 a0_5, .int .i64 a0_6, .int .i64 a0_7]] =
  ocall V 71 [(.agg [(.rs (5, 0) a0_0)])] fun x0 l1 =>
   asAgg x0 fun l2 => unc l2 fun x3 l4 => asOs (5, 0) x3 fun l5 => unn l4 (unn l1 (some ((.agg [(.os (5, 0) l5), (.int .i64 a0_1), (.int .i64 a0_2), (.int .i64 a0_3), (.int .i64 a0_4), (.int .i64 a0_5), (.int .i64 a0_6), (.int .i64 a0_7)]), []))) := by
  exact (Vn_eq Try.func152 rfl _).trans (by kernel_rfl)
theorem espec_l2Add (p : List D) (k : Int) (n : Int) (s : ByteArray) (a : Int) (b : Int) : V 75 [.op [.os (5, 0) p], .agg [.int .i64 k, .int .i64 n, .str s, .int .i64 a, .int .i64 b]] =
  grd (decide (ni (List.length (p ++ [D.agg [D.int IntKind.i64 k, D.int IntKind.i64 n, D.str s, D.int IntKind.i64 a, D.int IntKind.i64 b]])) ≤ LIM)) (nam (p ++ [D.agg [D.int IntKind.i64 k, D.int IntKind.i64 n, D.str s, D.int IntKind.i64 a, D.int IntKind.i64 b]]) fun l0 =>
   some ((.int .i64 (IntKind.wrap IntKind.i64 (ni (List.length l0) - 1))), [(.op [(.os (5, 0) l0)])])) := by
  exact (Vn_eq Try.func75 rfl _).trans (by kernel_rfl)
theorem Llaws_eqIntS_4_eq (p0 : List D) (p1 : List D) (p2 : Int) : Llaws_eqIntS_4 p0 p1 p2 =
  br (decide (p2 < ni (List.length p0)))
   (grd (decide (0 ≤ p2) && decide (p2 < ni (List.length p0))) (oget p0 (Int.toNat p2) fun x0 =>
    asI .i64 x0 fun n1 => grd (decide (0 ≤ p2) && decide (p2 < ni (List.length p1))) (oget p1 (Int.toNat p2) fun x2 =>
      asI .i64 x2 fun n3 => br (n1 != n3)
        (some ((.bool false), []))
        (Llaws_eqIntS_4 p0 p1 (IntKind.wrap IntKind.i64 (p2 + 1))))))
   (some ((.bool true), [])) := by
  exact (Rn_eq _ _ _).trans (by kernel_rfl)
theorem eimpl_reader_nodes (b : List D) (i : Int) (k : Bool)  : V 83 [.op [.os (1, 0) b, .int .i64 i, .bool k]] =
  ocall V 143 [(.op [(.os (1, 0) b), (.int .i64 i), (.bool k)])] fun x0 l1 =>
   asI .i64 x0 fun n2 => unc l1 fun x3 l4 => asOp x3 fun l5 => unc l5 fun x6 l7 => asOs (1, 0) x6 fun l8 => unc l7 fun x9 l10 => asI .i64 x9 fun n11 => unc l10 fun x12 l13 => asB x12 fun b14 => unn l13 (unn l4 (Limpl_reader_nodes_4 n2 (0) n11 b14 l8)) := by
  exact (Vn_eq Try.func83 rfl _).trans (by kernel_rfl)
theorem elaws_eqDef (a0_0 : ByteArray) (a0_1 : Int) (a0_2 : Int) (a1_0 : ByteArray) (a1_1 : Int) (a1_2 : Int) : V 159 [.agg [.str a0_0, .int .i64 a0_1, .int .i64 a0_2], .agg [.str a1_0, .int .i64 a1_1, .int .i64 a1_2]] =
  br (!strEq a0_0 a1_0)
   (some ((.bool false), []))
   (br (a0_1 != a1_1)
    (some ((.bool false), []))
    (br (a0_2 != a1_2)
     (some ((.bool false), []))
     (some ((.bool true), [])))) := by
  exact (Vn_eq Try.func159 rfl _).trans (by kernel_rfl)
theorem elaws_szInstr (a0_0 : Int) (a0_1 : Int) (a0_2 : Int) (a0_3 : ByteArray) (a1_ : Int) : V 149 [.agg [.int .i64 a0_0, .int .i64 a0_1, .int .i64 a0_2, .str a0_3], .int .i64 a1_] =
  br (decide (IntKind.wrap IntKind.i64 (a1_ - ni (ByteArray.size a0_3)) < 0))
   (some ((.int .i64 (-1)), []))
   (some ((.int .i64 (IntKind.wrap IntKind.i64 (a1_ - ni (ByteArray.size a0_3)))), [])) := by
  exact (Vn_eq Try.func149 rfl _).trans (by kernel_rfl)
theorem eimpl_reach (a0_0 : List D) (a1_ : List D) : V 162 [.agg [.rs (5, 0) a0_0], .rs (1, 0) a1_] =
  grd (decide (0 ≤ ni (List.length a0_0)) && decide (ni (List.length a0_0) ≤ LIM)) (Limpl_reach_3 a1_ (ni (List.length a1_)) (0) a0_0 (List.replicate (Int.toNat (ni (List.length a0_0))) (D.bool false))) := by
  exact (Vn_eq Try.func162 rfl _).trans (by kernel_rfl)
theorem eimpl_NameOk (a0_ : ByteArray) : V 121 [.str a0_] =
  ocall V 106 [(.int .i64 (ni (ByteArray.size a0_))), (.int .i64 (1)), (.int .i64 (12))] fun x0 l1 =>
   asB x0 fun b2 => unn l1 (br (!b2)
     (some ((.bool false), []))
     (Limpl_NameOk_4 a0_ (ni (ByteArray.size a0_)) (0))) := by
  exact (Vn_eq Try.func121 rfl _).trans (by kernel_rfl)
theorem elaws_szInstrS (a0_ : List D) (a1_ : Int) : V 91 [.rs (4, 0) a0_, .int .i64 a1_] =
  br (decide (IntKind.wrap IntKind.i64 (a1_ - ni (List.length a0_)) < 0))
   (some ((.int .i64 (-1)), []))
   (Llaws_szInstrS_5 a0_ (IntKind.wrap IntKind.i64 (a1_ - ni (List.length a0_))) (0)) := by
  exact (Vn_eq Try.func91 rfl _).trans (by kernel_rfl)
theorem elaws_toStringS (a0_ : List D) : V 105 [.rs (1, 0) a0_] =
  grd (decide (0 ≤ ni (List.length a0_)) && decide (ni (List.length a0_) ≤ LIM)) (Llaws_toStringS_3 a0_ (0) (List.replicate (Int.toNat (ni (List.length a0_))) (D.str { data := #[] }))) := by
  exact (Vn_eq Try.func105 rfl _).trans (by kernel_rfl)
theorem eslices_Contains_byte_byte (a0_ : List D) (a1_ : Int) : V 175 [.rs (1, 0) a0_, .int .u8 a1_] =
  ocall V 180 [(.rs (1, 0) a0_), (.int .u8 a1_)] fun x0 l1 =>
   asI .i64 x0 fun n2 => unn l1 (some ((.bool (decide (n2 ≥ 0))), [])) := by
  exact (Vn_eq Try.func175 rfl _).trans (by kernel_rfl)
theorem elaws_eqInstrS (a0_ : List D) (a1_ : List D) : V 101 [.rs (4, 0) a0_, .rs (4, 0) a1_] =
  br (ni (List.length a0_) != ni (List.length a1_))
   (some ((.bool false), []))
   (Llaws_eqInstrS_4 a0_ a1_ (0)) := by
  exact (Vn_eq Try.func101 rfl _).trans (by kernel_rfl)
theorem espec_DefOf (a0_0 : List D) (a0_1 : List D) (a0_2 : List D) (a1_ : ByteArray) : V 172 [.agg [.rs (5, 0) a0_0, .rs (4, 0) a0_1, .rs (3, 0) a0_2], .str a1_] =
  Lspec_DefOf_2 a1_ (0) a0_0 a0_1 a0_2 := by
  exact (Vn_eq Try.func172 rfl _).trans (by kernel_rfl)
theorem espec_l2Copy (a0_0 : List D) : V 71 [.agg [.rs (5, 0) a0_0]] =
  grd (decide (ni (List.length ([] ++ a0_0)) ≤ LIM)) (nam ([] ++ a0_0) fun l0 =>
   some ((.agg [(.os (5, 0) l0)]), [])) := by
  exact (Vn_eq Try.func71 rfl _).trans (by kernel_rfl)
theorem eIndexFunc_DefOf (l : List D) (s : ByteArray) : V 178 [.rs (3, 0) l, .fn 179 [.bp [.str s]]] =
  LIndexFunc_DefOf_2 l s (ni (List.length l)) (0) := by
  exact (Vn_eq Try.func178 rfl _).trans (by kernel_rfl)
theorem eimpl_PoolOk (a0_0 : List D) : V 18 [.agg [.rs (5, 0) a0_0]] =
  Limpl_PoolOk_2 a0_0 (ni (List.length a0_0)) (0) a0_0 := by
  exact (Vn_eq Try.func18 rfl _).trans (by kernel_rfl)
theorem elaws_heldIntS (a0_ : List D) (a1_ : Int) : V 30 [.rs (1, 0) a0_, .int .i64 a1_] =
  Llaws_heldIntS_2 a0_ a1_ (0) := by
  exact (Vn_eq Try.func30 rfl _).trans (by kernel_rfl)
end Go.Eng
