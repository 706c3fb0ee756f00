/- the functions as the interpreter has them -/
import Derived.Test.YtgoidfkdnkjojaaFn0
namespace Go.Eng
open Go.Proofs Go.Proofs.Try
set_option maxRecDepth 100000
theorem espec_l3Write (a0_0 : List D) (a1_ : Int) (a2_ : ByteArray) : V 69 [.agg [.rs (5, 0) a0_0], .int .i64 a1_, .str a2_] =
  br (decide (ni (ByteArray.size a2_) > 400))
   (some ((.str a2_), []))
   (grd (decide (0 ≤ a1_) && decide (a1_ < ni (List.length a0_0))) (oget a0_0 (Int.toNat a1_) fun x0 =>
    asAgg x0 fun l1 => unc l1 fun x2 l3 => asI .i64 x2 fun n4 => unc l3 fun x5 l6 => asI .i64 x5 fun n7 => unc l6 fun x8 l9 => asS x8 fun s10 => unc l9 fun x11 l12 => asI .i64 x11 fun n13 => unc l12 fun x14 l15 => asI .i64 x14 fun n16 => unn l15 (br (n4 == 1)
                (grd (decide (ni (ByteArray.size a2_ + ByteArray.size { data := #[40, 41] }) ≤ LIM)) (some ((.str (a2_ ++ { data := #[40, 41] })), [])))
                (br (n4 == 2)
                 (br (n7 == 1)
                  (grd (decide (ni (ByteArray.size a2_ + ByteArray.size { data := #[35, 116] }) ≤ LIM)) (some ((.str (a2_ ++ { data := #[35, 116] })), [])))
                  (grd (decide (ni (ByteArray.size a2_ + ByteArray.size { data := #[35, 102] }) ≤ LIM)) (some ((.str (a2_ ++ { data := #[35, 102] })), []))))
                 (br (n4 == 3)
                  (ocall V 126 [(.int .i64 n7)] fun x17 l18 =>
                   asS x17 fun s19 => unn l18 (grd (decide (ni (ByteArray.size a2_ + ByteArray.size s19) ≤ LIM)) (some ((.str (a2_ ++ s19)), []))))
                  (br (n4 == 4)
                   (grd (decide (ni (ByteArray.size a2_ + ByteArray.size s10) ≤ LIM)) (some ((.str (a2_ ++ s10)), [])))
                   (br (n4 == 6)
                    (grd (decide (ni (ByteArray.size a2_ + ByteArray.size { data := #[35, 102, 117, 110] }) ≤ LIM)) (ocall V 126 [(.int .i64 n7)] fun x20 l21 =>
                     asS x20 fun s22 => unn l21 (grd (decide (ni (ByteArray.size (a2_ ++ { data := #[35, 102, 117, 110] }) + ByteArray.size s22) ≤ LIM)) (some ((.str (a2_ ++ { data := #[35, 102, 117, 110] } ++ s22)), [])))))
                    (br (n4 == 7)
                     (grd (decide (ni (ByteArray.size a2_ + ByteArray.size { data := #[35, 107, 111, 110, 116] }) ≤ LIM)) (ocall V 126 [(.int .i64 n7)] fun x23 l24 =>
                      asS x23 fun s25 => unn l24 (grd (decide (ni (ByteArray.size (a2_ ++ { data := #[35, 107, 111, 110, 116] }) + ByteArray.size s25) ≤ LIM)) (some ((.str (a2_ ++ { data := #[35, 107, 111, 110, 116] } ++ s25)), [])))))
                     (br (n4 == 8)
                      (grd (decide (ni (ByteArray.size a2_ + ByteArray.size { data := #[35, 112, 114, 105, 109] }) ≤ LIM)) (ocall V 126 [(.int .i64 n7)] fun x26 l27 =>
                       asS x26 fun s28 => unn l27 (grd (decide (ni (ByteArray.size (a2_ ++ { data := #[35, 112, 114, 105, 109] }) + ByteArray.size s28) ≤ LIM)) (some ((.str (a2_ ++ { data := #[35, 112, 114, 105, 109] } ++ s28)), [])))))
                      (br (n4 == 9)
                       (grd (decide (ni (ByteArray.size a2_ + ByteArray.size { data := #[35, 112, 105, 100] }) ≤ LIM)) (ocall V 126 [(.int .i64 n7)] fun x29 l30 =>
                        asS x29 fun s31 => unn l30 (grd (decide (ni (ByteArray.size (a2_ ++ { data := #[35, 112, 105, 100] }) + ByteArray.size s31) ≤ LIM)) (some ((.str (a2_ ++ { data := #[35, 112, 105, 100] } ++ s31)), [])))))
                       (grd (decide (ni (ByteArray.size a2_ + ByteArray.size { data := #[40] }) ≤ LIM)) (ocall V 69 [(.agg [(.rs (5, 0) a0_0)]), (.int .i64 n13), (.str (a2_ ++ { data := #[40] }))] fun x32 l33 =>
                        asS x32 fun s34 => unn l33 (Lspec_l3Write_24 s34 a0_0 n4 n7 s10 n13 n16))))))))))))) := by
  exact (Vn_eq Try.func69 rfl _).trans (by kernel_rfl)
theorem elaws_FnExactValueRead (a0_ : ByteArray) : V 6 [.str a0_] =
  br (decide (ni (ByteArray.size a0_) > 1048576))
   (some ((.bool true), []))
   (ocall V 31 [(.str a0_)] fun x0 l1 =>
    asTup x0 fun l2 => unc l2 fun x3 l4 => asAgg x3 fun l5 => unc l5 fun x6 l7 => asOs (5, 0) x6 fun l8 => unn l7 (unc l4 fun x9 l10 => asI .i64 x9 fun n11 => unc l10 fun x12 l13 => asB x12 fun b14 => unn l13 (unn l1 (ocall V 32 [(.str a0_)] fun x15 l16 =>
              asTup x15 fun l17 => unc l17 fun x18 l19 => asAgg x18 fun l20 => unc l20 fun x21 l22 => asOs (5, 0) x21 fun l23 => unn l22 (unc l19 fun x24 l25 => asI .i64 x24 fun n26 => unc l25 fun x27 l28 => asB x27 fun b29 => unn l28 (unn l16 (ocall V 25 [(.agg [(.rs (5, 0) l23)]), (.agg [(.rs (5, 0) l8)])] fun x30 l31 =>
                        asB x30 fun b32 => unn l31 (br (!b32)
                          (some ((.bool false), []))
                          (br (n26 != n11)
                           (some ((.bool false), []))
                           (br (!b29 == b14)
                            (some ((.bool false), []))
                            (ocall V 27 [(.agg [(.os (5, 0) l23)]), (.int .i64 (1))] fun x33 l34 =>
                             asI .i64 x33 fun n35 => unc l34 fun x36 l37 => asAgg x36 fun l38 => unc l38 fun x39 l40 => asOs (5, 0) x39 fun l41 => unn l40 (unn l37 (ocall V 29 [(.agg [(.rs (5, 0) l41)]), (.int .i64 (1))] fun x42 l43 =>
                                   asI .i64 x42 fun n44 => unn l43 (br (decide (n44 < 0))
                                     (some ((.bool false), []))
                                     (br (n44 != n35)
                                      (some ((.bool false), []))
                                      (ocall V 32 [(.str a0_)] fun x45 l46 =>
                                       asTup x45 fun l47 => unc l47 fun x48 l49 => asAgg x48 fun l50 => unc l50 fun x51 l52 => asOs (5, 0) x51 fun l53 => unn l52 (unc l49 fun x54 l55 => asI .i64 x54 fun n56 => unc l55 fun x57 l58 => asB x57 fun b59 => unn l58 (unn l46 (ocall V 25 [(.agg [(.rs (5, 0) l53)]), (.agg [(.rs (5, 0) l8)])] fun x60 l61 =>
                                                 asB x60 fun b62 => unn l61 (br (!b62)
                                                   (some ((.bool false), []))
                                                   (br (n56 != n11)
                                                    (some ((.bool false), []))
                                                    (br (!b59 == b14)
                                                     (some ((.bool false), []))
                                                     (ocall V 29 [(.agg [(.rs (5, 0) l41)]), (.int .i64 (1))] fun x63 l64 =>
                                                      asI .i64 x63 fun n65 => unn l64 (br (decide (n65 < 0))
                                                        (some ((.bool false), []))
                                                        (br (n65 != n35)
                                                         (some ((.bool false), []))
                                                         (some ((.bool true), []))))))))))))))))))))))))))) := by
  exact (Vn_eq Try.func6 rfl _).trans (by kernel_rfl)
theorem Llaws_heldNodeS_2_eq (p0 : List D) (p1 : Int) (p2 : Int) : Llaws_heldNodeS_2 p0 p1 p2 =
  br (decide (p2 < ni (List.length p0)))
   (grd (decide (0 ≤ p2) && decide (p2 < ni (List.length p0))) (oget p0 (Int.toNat p2) fun x0 =>
    asAgg x0 fun l1 => oget l1 0 fun x2 =>
      asI .i64 x2 fun n3 => br (n3 != p1)
        (some ((.int .i64 (-1)), []))
        (grd (decide (0 ≤ p2) && decide (p2 < ni (List.length p0))) (oget p0 (Int.toNat p2) fun x4 =>
         asAgg x4 fun l5 => oget l5 1 fun x6 =>
           asI .i64 x6 fun n7 => br (n7 != IntKind.wrap IntKind.i64 (p1 + 1))
             (some ((.int .i64 (-1)), []))
             (grd (decide (0 ≤ p2) && decide (p2 < ni (List.length p0))) (oget p0 (Int.toNat p2) fun x8 =>
              asAgg x8 fun l9 => oget l9 2 fun x10 =>
                asS x10 fun s11 => ocall V 140 [(.int .i64 (IntKind.wrap IntKind.i64 (IntKind.wrap IntKind.i64 (p1 + 1) + 1)))] fun x12 l13 =>
                  asS x12 fun s14 => unn l13 (br (!strEq s11 s14)
                    (some ((.int .i64 (-1)), []))
                    (grd (decide (0 ≤ p2) && decide (p2 < ni (List.length p0))) (oget p0 (Int.toNat p2) fun x15 =>
                     asAgg x15 fun l16 => oget l16 3 fun x17 =>
                       asI .i64 x17 fun n18 => br (n18 != IntKind.wrap IntKind.i64 (IntKind.wrap IntKind.i64 (IntKind.wrap IntKind.i64 (p1 + 1) + 1) + 1))
                         (some ((.int .i64 (-1)), []))
                         (grd (decide (0 ≤ p2) && decide (p2 < ni (List.length p0))) (oget p0 (Int.toNat p2) fun x19 =>
                          asAgg x19 fun l20 => oget l20 4 fun x21 =>
                            asI .i64 x21 fun n22 => br (n22 != IntKind.wrap IntKind.i64 (IntKind.wrap IntKind.i64 (IntKind.wrap IntKind.i64 (IntKind.wrap IntKind.i64 (p1 + 1) + 1) + 1) + 1))
                              (some ((.int .i64 (-1)), []))
                              (Llaws_heldNodeS_2 p0 (IntKind.wrap IntKind.i64 (IntKind.wrap IntKind.i64 (IntKind.wrap IntKind.i64 (IntKind.wrap IntKind.i64 (IntKind.wrap IntKind.i64 (p1 + 1) + 1) + 1) + 1) + 1)) (IntKind.wrap IntKind.i64 (p2 + 1))))))))))))))
   (some ((.int .i64 p1), [])) := by
  exact (Rn_eq _ _ _).trans (by kernel_rfl)
theorem Lspec_l7Reach_7_eq (p0 : Int) (p1 : List D) (p2 : List D) : Lspec_l7Reach_7 p0 p1 p2 =
  br (decide (p0 ≥ 0))
   (grd (decide (0 ≤ p0) && decide (p0 < ni (List.length p1))) (oget p1 (Int.toNat p0) fun x4 =>
    asAgg x4 fun l5 => unc l5 fun x6 l7 => asI .i64 x6 fun n8 => unc l7 fun x9 l10 => asI .i64 x9 fun _ => unc l10 fun x12 l13 => asS x12 fun _ => unc l13 fun x15 l16 => asI .i64 x15 fun n17 => unc l16 fun x18 l19 => asI .i64 x18 fun n20 => unn l19 (grd (decide (0 ≤ p0) && decide (p0 < ni (List.length p2))) (oget p2 (Int.toNat p0) fun x21 =>
                asB x21 fun b22 => br (!b22)
                  (Lspec_l7Reach_7 (IntKind.wrap IntKind.i64 (p0 - 1)) p1 p2)
                  (br (n8 == 5)
                   (grd (decide (0 ≤ n17) && decide (n17 < ni (List.length p2))) (oget p2 (Int.toNat n17) fun _ =>
                    nam (List.set p2 (Int.toNat n17) (D.bool true)) fun l24 =>
                     grd (decide (0 ≤ n20) && decide (n20 < ni (List.length l24))) (oget l24 (Int.toNat n20) fun _ =>
                      nam (List.set l24 (Int.toNat n20) (D.bool true)) fun l26 =>
                       Lspec_l7Reach_7 (IntKind.wrap IntKind.i64 (p0 - 1)) p1 l26)))
                   (br (n8 == 6)
                    (br (n8 == 6)
                     (grd (decide (0 ≤ n17) && decide (n17 < ni (List.length p2))) (oget p2 (Int.toNat n17) fun _ =>
                      nam (List.set p2 (Int.toNat n17) (D.bool true)) fun l28 =>
                       Lspec_l7Reach_7 (IntKind.wrap IntKind.i64 (p0 - 1)) p1 l28))
                     (Lspec_l7Reach_7 (IntKind.wrap IntKind.i64 (p0 - 1)) p1 p2))
                    (br (n8 == 7)
                     (grd (decide (0 ≤ n17) && decide (n17 < ni (List.length p2))) (oget p2 (Int.toNat n17) fun _ =>
                      nam (List.set p2 (Int.toNat n17) (D.bool true)) fun l30 =>
                       Lspec_l7Reach_7 (IntKind.wrap IntKind.i64 (p0 - 1)) p1 l30))
                     (Lspec_l7Reach_7 (IntKind.wrap IntKind.i64 (p0 - 1)) p1 p2))))))))
   (some ((.os (1, 0) p2), [])) := by
  exact (Rn_eq _ _ _).trans (by kernel_rfl)
theorem espec_ValueRead (a0_ : ByteArray) : V 31 [.str a0_] =
  ocall V 82 [(.op [(.os (1, 0) (bytesD a0_)), (.int .i64 (0)), (.bool true)])] fun x0 l1 =>
   asAgg x0 fun l2 => unc l2 fun x3 l4 => asOs (5, 0) x3 fun l5 => unn l4 (unc l1 fun x6 l7 => asOp x6 fun l8 => unc l8 fun x9 l10 => asOs (1, 0) x9 fun _ => unc l10 fun x12 l13 => asI .i64 x12 fun _ => unc l13 fun x15 l16 => asB x15 fun b17 => unn l16 (unn l7 (br (!b17)
               (some ((.tup [(.agg [(.os (5, 0) [])]), (.int .i64 (0)), (.bool false)]), []))
               (br (ni (List.length l5) == 0)
                (some ((.tup [(.agg [(.os (5, 0) [])]), (.int .i64 (0)), (.bool false)]), []))
                (ocall V 37 [(.agg [(.rs (5, 0) l5)]), (.int .i64 (IntKind.wrap IntKind.i64 (ni (List.length l5) - 1)))] fun x18 l19 =>
                 asTup x18 fun l20 => unc l20 fun x21 l22 => asS x21 fun s23 => unc l22 fun x24 l25 => asB x24 fun _ => unn l25 (unn l19 (br (!strEq s23 a0_)
                       (some ((.tup [(.agg [(.os (5, 0) [])]), (.int .i64 (0)), (.bool false)]), []))
                       (some ((.tup [(.agg [(.os (5, 0) l5)]), (.int .i64 (IntKind.wrap IntKind.i64 (ni (List.length l5) - 1))), (.bool true)]), []))))))))) := by
  exact (Vn_eq Try.func31 rfl _).trans (by kernel_rfl)
theorem eimpl_ValuePack (a0_0 : List D) (a1_ : Int) : V 36 [.agg [.rs (5, 0) a0_0], .int .i64 a1_] =
  ocall V 18 [(.agg [(.rs (5, 0) a0_0)])] fun x0 l1 =>
   asB x0 fun b2 => unn l1 (br (!b2)
     (some ((.tup [(.str ({ data := #[] })), (.bool false)]), []))
     (ocall V 59 [(.agg [(.rs (5, 0) a0_0)]), (.int .i64 a1_)] fun x3 l4 =>
      asB x3 fun b5 => unn l4 (br (!b5)
        (some ((.tup [(.str ({ data := #[] })), (.bool false)]), []))
        (ocall V 56 [(.agg [(.rs (5, 0) a0_0)]), (.rs (1, 0) [(.int .i64 a1_)])] fun x6 l7 =>
         asTup x6 fun l8 => unc l8 fun x9 l10 => asAgg x9 fun l11 => unc l11 fun x12 l13 => asOs (5, 0) x12 fun l14 => unn l13 (unc l10 fun x15 l16 => asOs (1, 0) x15 fun _ => unn l16 (unn l7 (ocall V 87 [(.agg [(.rs (5, 0) l14)])] fun x18 l19 =>
                 asOs (1, 0) x18 fun l20 => unn l19 (obytes l20 fun s21 => some ((.tup [(.str s21), (.bool true)]), []))))))))) := by
  exact (Vn_eq Try.func36 rfl _).trans (by kernel_rfl)
theorem Lspec_l7Keep_5_eq (p0 : List D) (p1 : Int) (p2 : List D) (p3 : List D) (p4 : List D) : Lspec_l7Keep_5 p0 p1 p2 p3 p4 =
  br (decide (p1 < ni (List.length p0)))
   (grd (decide (0 ≤ p1) && decide (p1 < ni (List.length p0))) (oget p0 (Int.toNat p1) fun x12 =>
    asI .i64 x12 fun n13 => grd (decide (0 ≤ n13) && decide (n13 < ni (List.length p2))) (oget p2 (Int.toNat n13) fun x14 =>
      asI .i64 x14 fun n15 => grd (decide (ni (List.length (p3 ++ [D.int IntKind.i64 n15])) ≤ LIM)) (nam (p3 ++ [D.int IntKind.i64 n15]) fun l16 =>
        Lspec_l7Keep_5 p0 (IntKind.wrap IntKind.i64 (p1 + 1)) p2 l16 p4))))
   (some ((.tup [(.agg [(.os (5, 0) p4)]), (.os (1, 0) p3)]), [])) := by
  exact (Rn_eq _ _ _).trans (by kernel_rfl)
theorem espec_l2Add (p : List D) (k : Int) (n : Int) (s : ByteArray) (a : Int) (b : Int) : V 75 [.op [.os (5, 0) p], .agg [.int .i64 k, .int .i64 n, .str s, .int .i64 a, .int .i64 b]] =
  grd (decide (ni (List.length (p ++ [D.agg [D.int IntKind.i64 k, D.int IntKind.i64 n, D.str s, D.int IntKind.i64 a, D.int IntKind.i64 b]])) ≤ LIM)) (nam (p ++ [D.agg [D.int IntKind.i64 k, D.int IntKind.i64 n, D.str s, D.int IntKind.i64 a, D.int IntKind.i64 b]]) fun l0 =>
   some ((.int .i64 (IntKind.wrap IntKind.i64 (ni (List.length l0) - 1))), [(.op [(.os (5, 0) l0)])])) := by
  exact (Vn_eq Try.func75 rfl _).trans (by kernel_rfl)
theorem Llaws_eqIntS_4_eq (p0 : List D) (p1 : List D) (p2 : Int) : Llaws_eqIntS_4 p0 p1 p2 =
  br (decide (p2 < ni (List.length p0)))
   (grd (decide (0 ≤ p2) && decide (p2 < ni (List.length p0))) (oget p0 (Int.toNat p2) fun x0 =>
    asI .i64 x0 fun n1 => grd (decide (0 ≤ p2) && decide (p2 < ni (List.length p1))) (oget p1 (Int.toNat p2) fun x2 =>
      asI .i64 x2 fun n3 => br (n1 != n3)
        (some ((.bool false), []))
        (Llaws_eqIntS_4 p0 p1 (IntKind.wrap IntKind.i64 (p2 + 1))))))
   (some ((.bool true), [])) := by
  exact (Rn_eq _ _ _).trans (by kernel_rfl)
theorem eimpl_reader_nodes (b : List D) (i : Int) (k : Bool)  : V 83 [.op [.os (1, 0) b, .int .i64 i, .bool k]] =
  ocall V 143 [(.op [(.os (1, 0) b), (.int .i64 i), (.bool k)])] fun x0 l1 =>
   asI .i64 x0 fun n2 => unc l1 fun x3 l4 => asOp x3 fun l5 => unc l5 fun x6 l7 => asOs (1, 0) x6 fun l8 => unc l7 fun x9 l10 => asI .i64 x9 fun n11 => unc l10 fun x12 l13 => asB x12 fun b14 => unn l13 (unn l4 (Limpl_reader_nodes_4 n2 (0) n11 b14 l8)) := by
  exact (Vn_eq Try.func83 rfl _).trans (by kernel_rfl)
theorem eimpl_reach (a0_0 : List D) (a1_ : List D) : V 162 [.agg [.rs (5, 0) a0_0], .rs (1, 0) a1_] =
  grd (decide (0 ≤ ni (List.length a0_0)) && decide (ni (List.length a0_0) ≤ LIM)) (Limpl_reach_3 a1_ (ni (List.length a1_)) (0) a0_0 (List.replicate (Int.toNat (ni (List.length a0_0))) (D.bool false))) := by
  exact (Vn_eq Try.func162 rfl _).trans (by kernel_rfl)
theorem eimpl_NameOk (a0_ : ByteArray) : V 121 [.str a0_] =
  ocall V 106 [(.int .i64 (ni (ByteArray.size a0_))), (.int .i64 (1)), (.int .i64 (12))] fun x0 l1 =>
   asB x0 fun b2 => unn l1 (br (!b2)
     (some ((.bool false), []))
     (Limpl_NameOk_4 a0_ (ni (ByteArray.size a0_)) (0))) := by
  exact (Vn_eq Try.func121 rfl _).trans (by kernel_rfl)
theorem eslices_Contains_byte_byte (a0_ : List D) (a1_ : Int) : V 175 [.rs (1, 0) a0_, .int .u8 a1_] =
  ocall V 180 [(.rs (1, 0) a0_), (.int .u8 a1_)] fun x0 l1 =>
   asI .i64 x0 fun n2 => unn l1 (some ((.bool (decide (n2 ≥ 0))), [])) := by
  exact (Vn_eq Try.func175 rfl _).trans (by kernel_rfl)
theorem eimpl_PoolOk (a0_0 : List D) : V 18 [.agg [.rs (5, 0) a0_0]] =
  Limpl_PoolOk_2 a0_0 (ni (List.length a0_0)) (0) a0_0 := by
  exact (Vn_eq Try.func18 rfl _).trans (by kernel_rfl)
theorem elaws_heldIntS (a0_ : List D) (a1_ : Int) : V 30 [.rs (1, 0) a0_, .int .i64 a1_] =
  Llaws_heldIntS_2 a0_ a1_ (0) := by
  exact (Vn_eq Try.func30 rfl _).trans (by kernel_rfl)
end Go.Eng
