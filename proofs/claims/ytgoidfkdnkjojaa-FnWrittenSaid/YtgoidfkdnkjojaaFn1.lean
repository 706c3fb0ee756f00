/- the functions as the interpreter has them -/
import Derived.Test.YtgoidfkdnkjojaaFn0
namespace Go.Eng
open Go.Proofs Go.Proofs.Try
set_option maxRecDepth 100000
theorem Limpl_Pool_moveIn_4_eq (p0 : List D) (p1 : Int) (p2 : Int) (p3 : List D) (p4 : List D) (p5 : List D) : Limpl_Pool_moveIn_4 p0 p1 p2 p3 p4 p5 =
  br (decide (p2 < p1))
   (grd (decide (0 ≤ p2) && decide (p2 < ni (List.length p0))) (oget p0 (Int.toNat p2) fun x3 =>
    asAgg x3 fun l4 => unc l4 fun x5 l6 => asI .i64 x5 fun n7 => unc l6 fun x8 l9 => asI .i64 x8 fun n10 => unc l9 fun x11 l12 => asS x11 fun s13 => unc l12 fun x14 l15 => asI .i64 x14 fun n16 => unc l15 fun x17 l18 => asI .i64 x17 fun n19 => unn l18 (grd (decide (0 ≤ p2) && decide (p2 < ni (List.length p3))) (oget p3 (Int.toNat p2) fun _ =>
                nam (List.set p3 (Int.toNat p2) (D.int IntKind.i64 (-1))) fun l21 =>
                 grd (decide (0 ≤ p2) && decide (p2 < ni (List.length p4))) (oget p4 (Int.toNat p2) fun x22 =>
                  asB x22 fun b23 => br (!b23)
                    (Limpl_Pool_moveIn_4 p0 p1 (IntKind.wrap IntKind.i64 (p2 + 1)) l21 p4 p5)
                    (br (n7 == 5)
                     (grd (decide (0 ≤ n16) && decide (n16 < ni (List.length l21))) (oget l21 (Int.toNat n16) fun x24 =>
                      asI .i64 x24 fun n25 => grd (decide (0 ≤ n19) && decide (n19 < ni (List.length l21))) (oget l21 (Int.toNat n19) fun x26 =>
                        asI .i64 x26 fun n27 => ocall V 138 [(.op [(.os (5, 0) p5)]), (.agg [(.int .i64 n7), (.int .i64 n10), (.str s13), (.int .i64 n25), (.int .i64 n27)])] fun x28 l29 =>
                          asI .i64 x28 fun n30 => unc l29 fun x31 l32 => asOp x31 fun l33 => unc l33 fun x34 l35 => asOs (5, 0) x34 fun l36 => unn l35 (unn l32 (grd (decide (0 ≤ p2) && decide (p2 < ni (List.length l21))) (oget l21 (Int.toNat p2) fun _ =>
                                nam (List.set l21 (Int.toNat p2) (D.int IntKind.i64 n30)) fun l38 =>
                                 Limpl_Pool_moveIn_4 p0 p1 (IntKind.wrap IntKind.i64 (p2 + 1)) l38 p4 l36))))))
                     (br (n7 == 6)
                      (br (n7 == 6)
                       (grd (decide (0 ≤ n16) && decide (n16 < ni (List.length l21))) (oget l21 (Int.toNat n16) fun x39 =>
                        asI .i64 x39 fun n40 => ocall V 138 [(.op [(.os (5, 0) p5)]), (.agg [(.int .i64 n7), (.int .i64 n10), (.str s13), (.int .i64 n40), (.int .i64 n19)])] fun x41 l42 =>
                          asI .i64 x41 fun n43 => unc l42 fun x44 l45 => asOp x44 fun l46 => unc l46 fun x47 l48 => asOs (5, 0) x47 fun l49 => unn l48 (unn l45 (grd (decide (0 ≤ p2) && decide (p2 < ni (List.length l21))) (oget l21 (Int.toNat p2) fun _ =>
                                nam (List.set l21 (Int.toNat p2) (D.int IntKind.i64 n43)) fun l51 =>
                                 Limpl_Pool_moveIn_4 p0 p1 (IntKind.wrap IntKind.i64 (p2 + 1)) l51 p4 l49)))))
                       (ocall V 138 [(.op [(.os (5, 0) p5)]), (.agg [(.int .i64 n7), (.int .i64 n10), (.str s13), (.int .i64 n16), (.int .i64 n19)])] fun x52 l53 =>
                        asI .i64 x52 fun n54 => unc l53 fun x55 l56 => asOp x55 fun l57 => unc l57 fun x58 l59 => asOs (5, 0) x58 fun l60 => unn l59 (unn l56 (grd (decide (0 ≤ p2) && decide (p2 < ni (List.length l21))) (oget l21 (Int.toNat p2) fun _ =>
                              nam (List.set l21 (Int.toNat p2) (D.int IntKind.i64 n54)) fun l62 =>
                               Limpl_Pool_moveIn_4 p0 p1 (IntKind.wrap IntKind.i64 (p2 + 1)) l62 p4 l60)))))
                      (br (n7 == 7)
                       (grd (decide (0 ≤ n16) && decide (n16 < ni (List.length l21))) (oget l21 (Int.toNat n16) fun x63 =>
                        asI .i64 x63 fun n64 => ocall V 138 [(.op [(.os (5, 0) p5)]), (.agg [(.int .i64 n7), (.int .i64 n10), (.str s13), (.int .i64 n64), (.int .i64 n19)])] fun x65 l66 =>
                          asI .i64 x65 fun n67 => unc l66 fun x68 l69 => asOp x68 fun l70 => unc l70 fun x71 l72 => asOs (5, 0) x71 fun l73 => unn l72 (unn l69 (grd (decide (0 ≤ p2) && decide (p2 < ni (List.length l21))) (oget l21 (Int.toNat p2) fun _ =>
                                nam (List.set l21 (Int.toNat p2) (D.int IntKind.i64 n67)) fun l75 =>
                                 Limpl_Pool_moveIn_4 p0 p1 (IntKind.wrap IntKind.i64 (p2 + 1)) l75 p4 l73)))))
                       (ocall V 138 [(.op [(.os (5, 0) p5)]), (.agg [(.int .i64 n7), (.int .i64 n10), (.str s13), (.int .i64 n16), (.int .i64 n19)])] fun x76 l77 =>
                        asI .i64 x76 fun n78 => unc l77 fun x79 l80 => asOp x79 fun l81 => unc l81 fun x82 l83 => asOs (5, 0) x82 fun l84 => unn l83 (unn l80 (grd (decide (0 ≤ p2) && decide (p2 < ni (List.length l21))) (oget l21 (Int.toNat p2) fun _ =>
                              nam (List.set l21 (Int.toNat p2) (D.int IntKind.i64 n78)) fun l86 =>
                               Limpl_Pool_moveIn_4 p0 p1 (IntKind.wrap IntKind.i64 (p2 + 1)) l86 p4 l84))))))))))))
   (some ((.os (1, 0) p3), [(.op [(.os (5, 0) p5)])])) := by
  exact (Rn_eq _ _ _).trans (by kernel_rfl)
theorem espec_l2Spoil (a0_0 : List D) (a0_1 : Int) (a0_2 : Int) (a1_0 : Int) (a1_1 : Int) (a1_2 : ByteArray) (a1_3 : Int) (a1_4 : Int) : V 112 [.op [.rs (1, 0) a0_0, .int .i64 a0_1, .int .i64 a0_2], .agg [.int .i64 a1_0, .int .i64 a1_1, .str a1_2, .int .i64 a1_3, .int .i64 a1_4]] =
  ocall V 85 [(.op [(.rs (1, 0) a0_0), (.int .i64 a0_1), (.int .i64 a0_2)]), (.int .i64 (8))] fun x0 l1 =>
   asI .i64 x0 fun n2 => unc l1 fun x3 l4 => asOp x3 fun l5 => unc l5 fun x6 l7 => asRs (1, 0) x6 fun l8 => unc l7 fun x9 l10 => asI .i64 x9 fun n11 => unc l10 fun x12 l13 => asI .i64 x12 fun n14 => unn l13 (unn l4 (br (n2 == 0)
             (ocall V 85 [(.op [(.rs (1, 0) l8), (.int .i64 n11), (.int .i64 n14)]), (.int .i64 (11))] fun x15 l16 =>
              asI .i64 x15 fun n17 => unc l16 fun x18 l19 => asOp x18 fun l20 => unc l20 fun x21 l22 => asRs (1, 0) x21 fun l23 => unc l22 fun x24 l25 => asI .i64 x24 fun n26 => unc l25 fun x27 l28 => asI .i64 x27 fun n29 => unn l28 (unn l19 (some ((.agg [(.int .i64 n17), (.int .i64 a1_1), (.str a1_2), (.int .i64 a1_3), (.int .i64 a1_4)]), [(.op [(.rs (1, 0) l23), (.int .i64 n26), (.int .i64 n29)])]))))
             (br (n2 == 1)
              (ocall V 85 [(.op [(.rs (1, 0) l8), (.int .i64 n11), (.int .i64 n14)]), (.int .i64 (20))] fun x30 l31 =>
               asI .i64 x30 fun n32 => unc l31 fun x33 l34 => asOp x33 fun l35 => unc l35 fun x36 l37 => asRs (1, 0) x36 fun l38 => unc l37 fun x39 l40 => asI .i64 x39 fun n41 => unc l40 fun x42 l43 => asI .i64 x42 fun n44 => unn l43 (unn l34 (some ((.agg [(.int .i64 a1_0), (.int .i64 a1_1), (.str a1_2), (.int .i64 (IntKind.wrap IntKind.i64 (n32 - 1))), (.int .i64 a1_4)]), [(.op [(.rs (1, 0) l38), (.int .i64 n41), (.int .i64 n44)])]))))
              (br (n2 == 2)
               (ocall V 85 [(.op [(.rs (1, 0) l8), (.int .i64 n11), (.int .i64 n14)]), (.int .i64 (20))] fun x45 l46 =>
                asI .i64 x45 fun n47 => unc l46 fun x48 l49 => asOp x48 fun l50 => unc l50 fun x51 l52 => asRs (1, 0) x51 fun l53 => unc l52 fun x54 l55 => asI .i64 x54 fun n56 => unc l55 fun x57 l58 => asI .i64 x57 fun n59 => unn l58 (unn l49 (some ((.agg [(.int .i64 a1_0), (.int .i64 a1_1), (.str a1_2), (.int .i64 a1_3), (.int .i64 (IntKind.wrap IntKind.i64 (n47 - 1)))]), [(.op [(.rs (1, 0) l53), (.int .i64 n56), (.int .i64 n59)])]))))
               (br (n2 == 3)
                (ocall V 123 [(.op [(.rs (1, 0) l8), (.int .i64 n11), (.int .i64 n14)]), (.rs (1, 0) [(.int .i64 (-1)), (.int .i64 (2)), (.int .i64 (99)), (.int .i64 (100)), (.int .i64 (1000000000)), (.int .i64 (1000000001)), (.int .i64 (-1000000000)), (.int .i64 (-1000000001))])] fun x60 l61 =>
                 asI .i64 x60 fun n62 => unc l61 fun x63 l64 => asOp x63 fun l65 => unc l65 fun x66 l67 => asRs (1, 0) x66 fun l68 => unc l67 fun x69 l70 => asI .i64 x69 fun n71 => unc l70 fun x72 l73 => asI .i64 x72 fun n74 => unn l73 (unn l64 (some ((.agg [(.int .i64 a1_0), (.int .i64 n62), (.str a1_2), (.int .i64 a1_3), (.int .i64 a1_4)]), [(.op [(.rs (1, 0) l68), (.int .i64 n71), (.int .i64 n74)])]))))
                (br (n2 == 4)
                 (ocall V 122 [(.op [(.rs (1, 0) l8), (.int .i64 n11), (.int .i64 n14)]), (.rs (1, 0) [(.str ({ data := #[] })), (.str ({ data := #[97] })), (.str ({ data := #[65, 98] })), (.str ({ data := #[97, 98, 99, 100, 101, 102, 103, 104, 105, 106, 107, 108] })), (.str ({ data := #[97, 98, 99, 100, 101, 102, 103, 104, 105, 106, 107, 108, 109] })), (.str ({ data := #[97, 49] }))])] fun x75 l76 =>
                  asS x75 fun s77 => unc l76 fun x78 l79 => asOp x78 fun l80 => unc l80 fun x81 l82 => asRs (1, 0) x81 fun l83 => unc l82 fun x84 l85 => asI .i64 x84 fun n86 => unc l85 fun x87 l88 => asI .i64 x87 fun n89 => unn l88 (unn l79 (some ((.agg [(.int .i64 a1_0), (.int .i64 a1_1), (.str s77), (.int .i64 a1_3), (.int .i64 a1_4)]), [(.op [(.rs (1, 0) l83), (.int .i64 n86), (.int .i64 n89)])]))))
                 (some ((.agg [(.int .i64 a1_0), (.int .i64 a1_1), (.str a1_2), (.int .i64 a1_3), (.int .i64 a1_4)]), [(.op [(.rs (1, 0) l8), (.int .i64 n11), (.int .i64 n14)])])))))))) := by
  exact (Vn_eq Try.func112 rfl _).trans (by kernel_rfl)
theorem eimpl_Read (a0_0 : List D) (a1_ : ByteArray) : V 24 [.agg [.rs (5, 0) a0_0], .str a1_] =
  ocall V 18 [(.agg [(.rs (5, 0) a0_0)])] fun x0 l1 =>
   asB x0 fun b2 => unn l1 (br (!b2)
     (some ((.tup [(.agg [(.os (5, 0) [])]), (.os (1, 0) []), (.int .i64 (6)), (.int .i64 (0))]), []))
     (br (decide (ni (ByteArray.size a1_) > 400))
      (ocall V 77 [(.agg [(.rs (5, 0) a0_0)])] fun x3 l4 =>
       asAgg x3 fun l5 => unc l5 fun x6 l7 => asOs (5, 0) x6 fun l8 => unn l7 (unn l4 (some ((.tup [(.agg [(.os (5, 0) l8)]), (.os (1, 0) []), (.int .i64 (1)), (.int .i64 (0))]), []))))
      (ocall V 77 [(.agg [(.rs (5, 0) a0_0)])] fun x9 l10 =>
       asAgg x9 fun l11 => unc l11 fun x12 l13 => asOs (5, 0) x12 fun l14 => unn l13 (unn l10 (ocall V 78 [(.op [(.os (5, 0) l14), (.os (1, 2) [(.os (1, 0) [])]), (.os (1, 0) [])]), (.str a1_)] fun x15 l16 =>
           asTup x15 fun l17 => unc l17 fun x18 l19 => asI .i64 x18 fun n20 => unc l19 fun x21 l22 => asI .i64 x21 fun n23 => unn l22 (unc l16 fun x24 l25 => asOp x24 fun l26 => unc l26 fun x27 l28 => asOs (5, 0) x27 fun l29 => unc l28 fun x30 l31 => asOs (1, 2) x30 fun l32 => unc l31 fun x33 l34 => asOs (1, 0) x33 fun _ => unn l34 (unn l25 (br (n20 == 0)
                         (ocall V 18 [(.agg [(.rs (5, 0) l29)])] fun x36 l37 =>
                          asB x36 fun b38 => unn l37 (br (!b38)
                            (ocall V 77 [(.agg [(.rs (5, 0) a0_0)])] fun x39 l40 =>
                             asAgg x39 fun l41 => unc l41 fun x42 l43 => asOs (5, 0) x42 fun l44 => unn l43 (unn l40 (some ((.tup [(.agg [(.os (5, 0) l44)]), (.os (1, 0) []), (.int .i64 (6)), (.int .i64 (0))]), []))))
                            (br (n20 != 0)
                             (ocall V 77 [(.agg [(.rs (5, 0) a0_0)])] fun x45 l46 =>
                              asAgg x45 fun l47 => unc l47 fun x48 l49 => asOs (5, 0) x48 fun l50 => unn l49 (unn l46 (some ((.tup [(.agg [(.os (5, 0) l50)]), (.os (1, 0) []), (.int .i64 n20), (.int .i64 n23)]), []))))
                             (grd (decide (0 ≤ 0) && decide (0 < ni (List.length l32))) (oget l32 0 fun x51 =>
                              asOs (1, 0) x51 fun l52 => some ((.tup [(.agg [(.os (5, 0) l29)]), (.os (1, 0) l52), (.int .i64 (0)), (.int .i64 n23)]), []))))))
                         (br (n20 != 0)
                          (ocall V 77 [(.agg [(.rs (5, 0) a0_0)])] fun x53 l54 =>
                           asAgg x53 fun l55 => unc l55 fun x56 l57 => asOs (5, 0) x56 fun l58 => unn l57 (unn l54 (some ((.tup [(.agg [(.os (5, 0) l58)]), (.os (1, 0) []), (.int .i64 n20), (.int .i64 n23)]), []))))
                          (grd (decide (0 ≤ 0) && decide (0 < ni (List.length l32))) (oget l32 0 fun x59 =>
                           asOs (1, 0) x59 fun l60 => some ((.tup [(.agg [(.os (5, 0) l29)]), (.os (1, 0) l60), (.int .i64 (0)), (.int .i64 n23)]), [])))))))))))) := by
  exact (Vn_eq Try.func24 rfl _).trans (by kernel_rfl)
theorem eimpl_decimal (a0_ : Int) : V 120 [.int .i64 a0_] =
  br (decide (a0_ < 0))
   (br (decide (a0_ > -10))
    (ocall V 120 [(.int .i64 (IntKind.wrap IntKind.i64 (0 - a0_)))] fun x0 l1 =>
     asS x0 fun s2 => unn l1 (grd (decide (ni (ByteArray.size { data := #[45] } + ByteArray.size s2) ≤ LIM)) (some ((.str ({ data := #[45] } ++ s2)), []))))
    (br (decide (a0_ < 0))
     (grd (!decide (10 = 0)) (ocall V 120 [(.int .i64 (IntKind.wrap IntKind.i64 (Int.tdiv a0_ (10))))] fun x3 l4 =>
      asS x3 fun s5 => unn l4 (grd (!decide (10 = 0)) (ocall V 120 [(.int .i64 (IntKind.wrap IntKind.i64 (0 - Int.tmod a0_ (10))))] fun x6 l7 =>
        asS x6 fun s8 => unn l7 (grd (decide (ni (ByteArray.size s5 + ByteArray.size s8) ≤ LIM)) (some ((.str (s5 ++ s8)), [])))))))
     (br (decide (a0_ < 10))
      (some ((.str (Utf8.encode (IntKind.wrap IntKind.i32 (IntKind.wrap IntKind.i64 (48 + a0_))))), []))
      (grd (!decide (10 = 0)) (ocall V 120 [(.int .i64 (IntKind.wrap IntKind.i64 (Int.tdiv a0_ (10))))] fun x9 l10 =>
       asS x9 fun s11 => unn l10 (grd (!decide (10 = 0)) (grd (decide (ni (ByteArray.size s11 + ByteArray.size (Utf8.encode (IntKind.wrap IntKind.i32 (IntKind.wrap IntKind.i64 (48 + Int.tmod a0_ (10)))))) ≤ LIM)) (some ((.str (s11 ++ Utf8.encode (IntKind.wrap IntKind.i32 (IntKind.wrap IntKind.i64 (48 + Int.tmod a0_ (10)))))), [])))))))))
   (br (decide (a0_ < 0))
    (grd (!decide (10 = 0)) (ocall V 120 [(.int .i64 (IntKind.wrap IntKind.i64 (Int.tdiv a0_ (10))))] fun x12 l13 =>
     asS x12 fun s14 => unn l13 (grd (!decide (10 = 0)) (ocall V 120 [(.int .i64 (IntKind.wrap IntKind.i64 (0 - Int.tmod a0_ (10))))] fun x15 l16 =>
       asS x15 fun s17 => unn l16 (grd (decide (ni (ByteArray.size s14 + ByteArray.size s17) ≤ LIM)) (some ((.str (s14 ++ s17)), [])))))))
    (br (decide (a0_ < 10))
     (some ((.str (Utf8.encode (IntKind.wrap IntKind.i32 (IntKind.wrap IntKind.i64 (48 + a0_))))), []))
     (grd (!decide (10 = 0)) (ocall V 120 [(.int .i64 (IntKind.wrap IntKind.i64 (Int.tdiv a0_ (10))))] fun x18 l19 =>
      asS x18 fun s20 => unn l19 (grd (!decide (10 = 0)) (grd (decide (ni (ByteArray.size s20 + ByteArray.size (Utf8.encode (IntKind.wrap IntKind.i32 (IntKind.wrap IntKind.i64 (48 + Int.tmod a0_ (10)))))) ≤ LIM)) (some ((.str (s20 ++ Utf8.encode (IntKind.wrap IntKind.i32 (IntKind.wrap IntKind.i64 (48 + Int.tmod a0_ (10)))))), [])))))))) := by
  exact (Vn_eq Try.func120 rfl _).trans (by kernel_rfl)
theorem Lspec_DrawSizeOf_6_eq (p0 : Int) (p1 : List D) (p2 : Int) (p3 : Int) (p4 : List D) : Lspec_DrawSizeOf_6 p0 p1 p2 p3 p4 =
  br (decide (p0 < 40))
   (ocall V 75 [(.op [(.os (5, 0) p4)]), (.agg [(.int .i64 (5)), (.int .i64 (0)), (.str ({ data := #[] })), (.int .i64 p0), (.int .i64 p0)])] fun x60 l61 =>
    asI .i64 x60 fun _ => unc l61 fun x63 l64 => asOp x63 fun l65 => unc l65 fun x66 l67 => asOs (5, 0) x66 fun l68 => unn l67 (unn l64 (Lspec_DrawSizeOf_6 (IntKind.wrap IntKind.i64 (p0 + 1)) p1 p2 p3 l68)))
   (ocall V 66 [(.op [(.rs (1, 0) p1), (.int .i64 p2), (.int .i64 p3)]), (.agg [(.rs (5, 0) p4)])] fun x69 l70 =>
    asI .i64 x69 fun n71 => unc l70 fun x72 l73 => asOp x72 fun l74 => unc l74 fun x75 l76 => asRs (1, 0) x75 fun _ => unc l76 fun x78 l79 => asI .i64 x78 fun _ => unc l79 fun x81 l82 => asI .i64 x81 fun _ => unn l82 (unn l73 (some ((.tup [(.agg [(.rs (5, 0) p4)]), (.int .i64 n71)]), [])))) := by
  exact (Rn_eq _ _ _).trans (by kernel_rfl)
theorem Lspec_l1New_3_eq (p0 : List D) (p1 : Int) (p2 : Int) : Lspec_l1New_3 p0 p1 p2 =
  br (decide (p2 < ni (List.length p0)))
   (br (decide (p2 < 4000))
    (grd (decide (0 ≤ p2) && decide (p2 < ni (List.length p0))) (oget p0 (Int.toNat p2) fun x0 =>
     asI .u8 x0 fun n1 => Lspec_l1New_3 p0 (IntKind.wrap IntKind.i64 (ni (BitVec.toNat (BitVec.ofInt (IntKind.bits IntKind.i64) (IntKind.wrap IntKind.i64 (IntKind.wrap IntKind.i64 (IntKind.wrap IntKind.i64 (p1 * 131) + IntKind.wrap IntKind.i64 n1) + 7)) &&& BitVec.ofInt (IntKind.bits IntKind.i64) (1073741823))))) (IntKind.wrap IntKind.i64 (p2 + 1))))
    (some ((.op [(.rs (1, 0) p0), (.int .i64 (0)), (.int .i64 p1)]), [])))
   (some ((.op [(.rs (1, 0) p0), (.int .i64 (0)), (.int .i64 p1)]), [])) := by
  exact (Rn_eq _ _ _).trans (by kernel_rfl)
theorem Lspec_l2Draw_8_eq (p0 : Int) (p1 : List D) (p2 : Int) (p3 : Int) (p4 : List D) : Lspec_l2Draw_8 p0 p1 p2 p3 p4 =
  br (decide (p0 < ni (List.length p4)))
   (grd (decide (0 ≤ p0) && decide (p0 < ni (List.length p4))) (oget p4 (Int.toNat p0) fun x187 =>
    asAgg x187 fun l188 => nam (List.set p4 (Int.toNat p0) (D.agg (List.take 0 l188 ++ [D.int IntKind.i64 (1)] ++ List.drop 1 l188))) fun l189 =>
      Lspec_l2Draw_8 (IntKind.wrap IntKind.i64 (p0 + 1)) p1 p2 p3 l189))
   (some ((.agg [(.os (5, 0) p4)]), [(.op [(.rs (1, 0) p1), (.int .i64 p2), (.int .i64 p3)])])) := by
  exact (Rn_eq _ _ _).trans (by kernel_rfl)
theorem LIndexFunc_rootsOk_2_eq (p0 : List D) (p1 : List D) (p2 : Int) (p3 : Int) : LIndexFunc_rootsOk_2 p0 p1 p2 p3 =
  br (decide (p3 < p2))
   (grd (decide (0 ≤ p3) && decide (p3 < ni (List.length p0))) (oget p0 (Int.toNat p3) fun x0 =>
    asI .i64 x0 fun n1 => ocall V 114 [(.int .i64 n1), (.bp [(.rs (5, 0) p1)])] fun x2 l3 =>
      asB x2 fun b4 => unn l3 (br b4
        (some ((.int .i64 p3), []))
        (LIndexFunc_rootsOk_2 p0 p1 p2 (IntKind.wrap IntKind.i64 (p3 + 1))))))
   (some ((.int .i64 (-1)), [])) := by
  exact (Rn_eq _ _ _).trans (by kernel_rfl)
theorem eimpl_Pool_moveIn (p : List D) (q : List D) (l : List D) : V 115 [.op [.os (5, 0) p], .agg [.rs (5, 0) q], .rs (1, 0) l] =
  grd (decide (0 ≤ ni (List.length q)) && decide (ni (List.length q) ≤ LIM)) (ocall V 162 [(.agg [(.rs (5, 0) q)]), (.rs (1, 0) l)] fun x0 l1 =>
   asOs (1, 0) x0 fun l2 => unn l1 (Limpl_Pool_moveIn_4 q (ni (List.length q)) (0) (List.replicate (Int.toNat (ni (List.length q))) (D.int IntKind.i64 (0))) l2 p)) := by
  exact (Vn_eq Try.func115 rfl _).trans (by kernel_rfl)
theorem eimpl_keep (a0_0 : List D) (a1_ : List D) : V 56 [.agg [.rs (5, 0) a0_0], .rs (1, 0) a1_] =
  ocall V 115 [(.op [(.os (5, 0) [])]), (.agg [(.rs (5, 0) a0_0)]), (.rs (1, 0) a1_)] fun x0 l1 =>
   asOs (1, 0) x0 fun l2 => unc l1 fun x3 l4 => asOp x3 fun l5 => unc l5 fun x6 l7 => asOs (5, 0) x6 fun l8 => unn l7 (unn l4 (Limpl_keep_5 a1_ (ni (List.length a1_)) (0) l2 [] l8)) := by
  exact (Vn_eq Try.func56 rfl _).trans (by kernel_rfl)
theorem eContainsFunc_rootsOk (l : List D) (p : List D) : V 113 [.rs (1, 0) l, .fn 114 [.bp [.rs (5, 0) p]]] =
  ocall V 161 [(.rs (1, 0) l), (.fn 114 [(.bp [(.rs (5, 0) p)])])] fun x0 l1 =>
   asI .i64 x0 fun n2 => unn l1 (some ((.bool (decide (n2 ≥ 0))), [])) := by
  exact (Vn_eq Try.func113 rfl _).trans (by kernel_rfl)
theorem erootsOk_1 (r : Int) (p : List D) : V 114 [.int .i64 r, .bp [.rs (5, 0) p]] =
  ocall V 59 [(.agg [(.rs (5, 0) p)]), (.int .i64 r)] fun x0 l1 =>
   asB x0 fun b2 => unn l1 (some ((.bool (!b2)), [])) := by
  exact (Vn_eq Try.func114 rfl _).trans (by kernel_rfl)
theorem eimpl_reading_text (p : List D) (o : List D) (t : List D) (s : ByteArray) : V 78 [.op [.os (5, 0) p, .os (1, 2) o, .os (1, 0) t], .str s] =
  Limpl_reading_text_2 s (0) p o t := by
  exact (Vn_eq Try.func78 rfl _).trans (by kernel_rfl)
end Go.Eng
