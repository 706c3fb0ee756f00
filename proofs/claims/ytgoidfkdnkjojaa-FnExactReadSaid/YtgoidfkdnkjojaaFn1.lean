/- the functions as the interpreter has them -/
import Derived.Test.YtgoidfkdnkjojaaFn0
namespace Go.Eng
open Go.Proofs Go.Proofs.Try
set_option maxRecDepth 100000
theorem Limpl_Pool_moveIn_4_eq (p0 : List D) (p1 : Int) (p2 : Int) (p3 : List D) (p4 : List D) (p5 : List D) : Limpl_Pool_moveIn_4 p0 p1 p2 p3 p4 p5 =
  br (decide (p2 < p1))
   (grd (decide (0 ≤ p2) && decide (p2 < ni (List.length p0))) (oget p0 (Int.toNat p2) fun x3 =>
    asAgg x3 fun l4 => unc l4 fun x5 l6 => asI .i64 x5 fun n7 => unc l6 fun x8 l9 => asI .i64 x8 fun n10 => unc l9 fun x11 l12 => asS x11 fun s13 => unc l12 fun x14 l15 => asI .i64 x14 fun n16 => unc l15 fun x17 l18 => asI .i64 x17 fun n19 => unn l18 (grd (decide (0 ≤ p2) && decide (p2 < ni (List.length p3))) (oget p3 (Int.toNat p2) fun _ =>
                nam (List.set p3 (Int.toNat p2) (D.int IntKind.i64 (-1))) fun l21 =>
                 grd (decide (0 ≤ p2) && decide (p2 < ni (List.length p4))) (oget p4 (Int.toNat p2) fun x22 =>
                  asB x22 fun b23 => br (!b23)
                    (Limpl_Pool_moveIn_4 p0 p1 (IntKind.wrap IntKind.i64 (p2 + 1)) l21 p4 p5)
                    (br (n7 == 5)
                     (grd (decide (0 ≤ n16) && decide (n16 < ni (List.length l21))) (oget l21 (Int.toNat n16) fun x24 =>
                      asI .i64 x24 fun n25 => grd (decide (0 ≤ n19) && decide (n19 < ni (List.length l21))) (oget l21 (Int.toNat n19) fun x26 =>
                        asI .i64 x26 fun n27 => ocall V 138 [(.op [(.os (5, 0) p5)]), (.agg [(.int .i64 n7), (.int .i64 n10), (.str s13), (.int .i64 n25), (.int .i64 n27)])] fun x28 l29 =>
                          asI .i64 x28 fun n30 => unc l29 fun x31 l32 => asOp x31 fun l33 => unc l33 fun x34 l35 => asOs (5, 0) x34 fun l36 => unn l35 (unn l32 (grd (decide (0 ≤ p2) && decide (p2 < ni (List.length l21))) (oget l21 (Int.toNat p2) fun _ =>
                                nam (List.set l21 (Int.toNat p2) (D.int IntKind.i64 n30)) fun l38 =>
                                 Limpl_Pool_moveIn_4 p0 p1 (IntKind.wrap IntKind.i64 (p2 + 1)) l38 p4 l36))))))
                     (br (n7 == 6)
                      (br (n7 == 6)
                       (grd (decide (0 ≤ n16) && decide (n16 < ni (List.length l21))) (oget l21 (Int.toNat n16) fun x39 =>
                        asI .i64 x39 fun n40 => ocall V 138 [(.op [(.os (5, 0) p5)]), (.agg [(.int .i64 n7), (.int .i64 n10), (.str s13), (.int .i64 n40), (.int .i64 n19)])] fun x41 l42 =>
                          asI .i64 x41 fun n43 => unc l42 fun x44 l45 => asOp x44 fun l46 => unc l46 fun x47 l48 => asOs (5, 0) x47 fun l49 => unn l48 (unn l45 (grd (decide (0 ≤ p2) && decide (p2 < ni (List.length l21))) (oget l21 (Int.toNat p2) fun _ =>
                                nam (List.set l21 (Int.toNat p2) (D.int IntKind.i64 n43)) fun l51 =>
                                 Limpl_Pool_moveIn_4 p0 p1 (IntKind.wrap IntKind.i64 (p2 + 1)) l51 p4 l49)))))
                       (ocall V 138 [(.op [(.os (5, 0) p5)]), (.agg [(.int .i64 n7), (.int .i64 n10), (.str s13), (.int .i64 n16), (.int .i64 n19)])] fun x52 l53 =>
                        asI .i64 x52 fun n54 => unc l53 fun x55 l56 => asOp x55 fun l57 => unc l57 fun x58 l59 => asOs (5, 0) x58 fun l60 => unn l59 (unn l56 (grd (decide (0 ≤ p2) && decide (p2 < ni (List.length l21))) (oget l21 (Int.toNat p2) fun _ =>
                              nam (List.set l21 (Int.toNat p2) (D.int IntKind.i64 n54)) fun l62 =>
                               Limpl_Pool_moveIn_4 p0 p1 (IntKind.wrap IntKind.i64 (p2 + 1)) l62 p4 l60)))))
                      (br (n7 == 7)
                       (grd (decide (0 ≤ n16) && decide (n16 < ni (List.length l21))) (oget l21 (Int.toNat n16) fun x63 =>
                        asI .i64 x63 fun n64 => ocall V 138 [(.op [(.os (5, 0) p5)]), (.agg [(.int .i64 n7), (.int .i64 n10), (.str s13), (.int .i64 n64), (.int .i64 n19)])] fun x65 l66 =>
                          asI .i64 x65 fun n67 => unc l66 fun x68 l69 => asOp x68 fun l70 => unc l70 fun x71 l72 => asOs (5, 0) x71 fun l73 => unn l72 (unn l69 (grd (decide (0 ≤ p2) && decide (p2 < ni (List.length l21))) (oget l21 (Int.toNat p2) fun _ =>
                                nam (List.set l21 (Int.toNat p2) (D.int IntKind.i64 n67)) fun l75 =>
                                 Limpl_Pool_moveIn_4 p0 p1 (IntKind.wrap IntKind.i64 (p2 + 1)) l75 p4 l73)))))
                       (ocall V 138 [(.op [(.os (5, 0) p5)]), (.agg [(.int .i64 n7), (.int .i64 n10), (.str s13), (.int .i64 n16), (.int .i64 n19)])] fun x76 l77 =>
                        asI .i64 x76 fun n78 => unc l77 fun x79 l80 => asOp x79 fun l81 => unc l81 fun x82 l83 => asOs (5, 0) x82 fun l84 => unn l83 (unn l80 (grd (decide (0 ≤ p2) && decide (p2 < ni (List.length l21))) (oget l21 (Int.toNat p2) fun _ =>
                              nam (List.set l21 (Int.toNat p2) (D.int IntKind.i64 n78)) fun l86 =>
                               Limpl_Pool_moveIn_4 p0 p1 (IntKind.wrap IntKind.i64 (p2 + 1)) l86 p4 l84))))))))))))
   (some ((.os (1, 0) p3), [(.op [(.os (5, 0) p5)])])) := by
  exact (Rn_eq _ _ _).trans (by kernel_rfl)
theorem eimpl_Read (a0_0 : List D) (a1_ : ByteArray) : V 24 [.agg [.rs (5, 0) a0_0], .str a1_] =
  ocall V 18 [(.agg [(.rs (5, 0) a0_0)])] fun x0 l1 =>
   asB x0 fun b2 => unn l1 (br (!b2)
     (some ((.tup [(.agg [(.os (5, 0) [])]), (.os (1, 0) []), (.int .i64 (6)), (.int .i64 (0))]), []))
     (br (decide (ni (ByteArray.size a1_) > 400))
      (ocall V 77 [(.agg [(.rs (5, 0) a0_0)])] fun x3 l4 =>
       asAgg x3 fun l5 => unc l5 fun x6 l7 => asOs (5, 0) x6 fun l8 => unn l7 (unn l4 (some ((.tup [(.agg [(.os (5, 0) l8)]), (.os (1, 0) []), (.int .i64 (1)), (.int .i64 (0))]), []))))
      (ocall V 77 [(.agg [(.rs (5, 0) a0_0)])] fun x9 l10 =>
       asAgg x9 fun l11 => unc l11 fun x12 l13 => asOs (5, 0) x12 fun l14 => unn l13 (unn l10 (ocall V 78 [(.op [(.os (5, 0) l14), (.os (1, 2) [(.os (1, 0) [])]), (.os (1, 0) [])]), (.str a1_)] fun x15 l16 =>
           asTup x15 fun l17 => unc l17 fun x18 l19 => asI .i64 x18 fun n20 => unc l19 fun x21 l22 => asI .i64 x21 fun n23 => unn l22 (unc l16 fun x24 l25 => asOp x24 fun l26 => unc l26 fun x27 l28 => asOs (5, 0) x27 fun l29 => unc l28 fun x30 l31 => asOs (1, 2) x30 fun l32 => unc l31 fun x33 l34 => asOs (1, 0) x33 fun _ => unn l34 (unn l25 (br (n20 == 0)
                         (ocall V 18 [(.agg [(.rs (5, 0) l29)])] fun x36 l37 =>
                          asB x36 fun b38 => unn l37 (br (!b38)
                            (ocall V 77 [(.agg [(.rs (5, 0) a0_0)])] fun x39 l40 =>
                             asAgg x39 fun l41 => unc l41 fun x42 l43 => asOs (5, 0) x42 fun l44 => unn l43 (unn l40 (some ((.tup [(.agg [(.os (5, 0) l44)]), (.os (1, 0) []), (.int .i64 (6)), (.int .i64 (0))]), []))))
                            (br (n20 != 0)
                             (ocall V 77 [(.agg [(.rs (5, 0) a0_0)])] fun x45 l46 =>
                              asAgg x45 fun l47 => unc l47 fun x48 l49 => asOs (5, 0) x48 fun l50 => unn l49 (unn l46 (some ((.tup [(.agg [(.os (5, 0) l50)]), (.os (1, 0) []), (.int .i64 n20), (.int .i64 n23)]), []))))
                             (grd (decide (0 ≤ 0) && decide (0 < ni (List.length l32))) (oget l32 0 fun x51 =>
                              asOs (1, 0) x51 fun l52 => some ((.tup [(.agg [(.os (5, 0) l29)]), (.os (1, 0) l52), (.int .i64 (0)), (.int .i64 n23)]), []))))))
                         (br (n20 != 0)
                          (ocall V 77 [(.agg [(.rs (5, 0) a0_0)])] fun x53 l54 =>
                           asAgg x53 fun l55 => unc l55 fun x56 l57 => asOs (5, 0) x56 fun l58 => unn l57 (unn l54 (some ((.tup [(.agg [(.os (5, 0) l58)]), (.os (1, 0) []), (.int .i64 n20), (.int .i64 n23)]), []))))
                          (grd (decide (0 ≤ 0) && decide (0 < ni (List.length l32))) (oget l32 0 fun x59 =>
                           asOs (1, 0) x59 fun l60 => some ((.tup [(.agg [(.os (5, 0) l29)]), (.os (1, 0) l60), (.int .i64 (0)), (.int .i64 n23)]), [])))))))))))) := by
  exact (Vn_eq Try.func24 rfl _).trans (by kernel_rfl)
theorem eimpl_decimal (a0_ : Int) : V 120 [.int .i64 a0_] =
  br (decide (a0_ < 0))
   (br (decide (a0_ > -10))
    (ocall V 120 [(.int .i64 (IntKind.wrap IntKind.i64 (0 - a0_)))] fun x0 l1 =>
     asS x0 fun s2 => unn l1 (grd (decide (ni (ByteArray.size { data := #[45] } + ByteArray.size s2) ≤ LIM)) (some ((.str ({ data := #[45] } ++ s2)), []))))
    (br (decide (a0_ < 0))
     (grd (!decide (10 = 0)) (ocall V 120 [(.int .i64 (IntKind.wrap IntKind.i64 (Int.tdiv a0_ (10))))] fun x3 l4 =>
      asS x3 fun s5 => unn l4 (grd (!decide (10 = 0)) (ocall V 120 [(.int .i64 (IntKind.wrap IntKind.i64 (0 - Int.tmod a0_ (10))))] fun x6 l7 =>
        asS x6 fun s8 => unn l7 (grd (decide (ni (ByteArray.size s5 + ByteArray.size s8) ≤ LIM)) (some ((.str (s5 ++ s8)), [])))))))
     (br (decide (a0_ < 10))
      (some ((.str (Utf8.encode (IntKind.wrap IntKind.i32 (IntKind.wrap IntKind.i64 (48 + a0_))))), []))
      (grd (!decide (10 = 0)) (ocall V 120 [(.int .i64 (IntKind.wrap IntKind.i64 (Int.tdiv a0_ (10))))] fun x9 l10 =>
       asS x9 fun s11 => unn l10 (grd (!decide (10 = 0)) (grd (decide (ni (ByteArray.size s11 + ByteArray.size (Utf8.encode (IntKind.wrap IntKind.i32 (IntKind.wrap IntKind.i64 (48 + Int.tmod a0_ (10)))))) ≤ LIM)) (some ((.str (s11 ++ Utf8.encode (IntKind.wrap IntKind.i32 (IntKind.wrap IntKind.i64 (48 + Int.tmod a0_ (10)))))), [])))))))))
   (br (decide (a0_ < 0))
    (grd (!decide (10 = 0)) (ocall V 120 [(.int .i64 (IntKind.wrap IntKind.i64 (Int.tdiv a0_ (10))))] fun x12 l13 =>
     asS x12 fun s14 => unn l13 (grd (!decide (10 = 0)) (ocall V 120 [(.int .i64 (IntKind.wrap IntKind.i64 (0 - Int.tmod a0_ (10))))] fun x15 l16 =>
       asS x15 fun s17 => unn l16 (grd (decide (ni (ByteArray.size s14 + ByteArray.size s17) ≤ LIM)) (some ((.str (s14 ++ s17)), [])))))))
    (br (decide (a0_ < 10))
     (some ((.str (Utf8.encode (IntKind.wrap IntKind.i32 (IntKind.wrap IntKind.i64 (48 + a0_))))), []))
     (grd (!decide (10 = 0)) (ocall V 120 [(.int .i64 (IntKind.wrap IntKind.i64 (Int.tdiv a0_ (10))))] fun x18 l19 =>
      asS x18 fun s20 => unn l19 (grd (!decide (10 = 0)) (grd (decide (ni (ByteArray.size s20 + ByteArray.size (Utf8.encode (IntKind.wrap IntKind.i32 (IntKind.wrap IntKind.i64 (48 + Int.tmod a0_ (10)))))) ≤ LIM)) (some ((.str (s20 ++ Utf8.encode (IntKind.wrap IntKind.i32 (IntKind.wrap IntKind.i64 (48 + Int.tmod a0_ (10)))))), [])))))))) := by
  exact (Vn_eq Try.func120 rfl _).trans (by kernel_rfl)
theorem Lspec_GetNum_6_eq (p0 : List D) (p1 : Int) (p2 : Int) (p3 : Int) (p4 : Int) : Lspec_GetNum_6 p0 p1 p2 p3 p4 =
  br (decide (p4 < 9))
   (br (decide (IntKind.wrap IntKind.i64 (p1 + p4) < ni (List.length p0)))
    (grd (decide (0 ≤ IntKind.wrap IntKind.i64 (p1 + p4)) && decide (IntKind.wrap IntKind.i64 (p1 + p4) < ni (List.length p0))) (oget p0 (Int.toNat (IntKind.wrap IntKind.i64 (p1 + p4))) fun x0 =>
     asI .u8 x0 fun n1 => grd (!decide (128 = 0)) (br (decide (IntKind.wrap IntKind.i64 n1 < 128))
       (br (IntKind.wrap IntKind.i64 n1 == 0)
        (br (decide (p4 > 0))
         (some ((.tup [(.int .i64 (0)), (.int .i64 (0)), (.bool false)]), []))
         (some ((.tup [(.int .i64 (IntKind.wrap IntKind.i64 (p2 + IntKind.wrap IntKind.i64 (Int.tmod (IntKind.wrap IntKind.i64 n1) (128) * p3)))), (.int .i64 (IntKind.wrap IntKind.i64 (IntKind.wrap IntKind.i64 (p1 + p4) + 1))), (.bool true)]), [])))
        (some ((.tup [(.int .i64 (IntKind.wrap IntKind.i64 (p2 + IntKind.wrap IntKind.i64 (Int.tmod (IntKind.wrap IntKind.i64 n1) (128) * p3)))), (.int .i64 (IntKind.wrap IntKind.i64 (IntKind.wrap IntKind.i64 (p1 + p4) + 1))), (.bool true)]), [])))
       (Lspec_GetNum_6 p0 p1 (IntKind.wrap IntKind.i64 (p2 + IntKind.wrap IntKind.i64 (Int.tmod (IntKind.wrap IntKind.i64 n1) (128) * p3))) (IntKind.wrap IntKind.i64 (p3 * 128)) (IntKind.wrap IntKind.i64 (p4 + 1))))))
    (some ((.tup [(.int .i64 (0)), (.int .i64 (0)), (.bool false)]), [])))
   (some ((.tup [(.int .i64 (0)), (.int .i64 (0)), (.bool false)]), [])) := by
  exact (Rn_eq _ _ _).trans (by kernel_rfl)
theorem Llaws_toNodeS_3_eq (p0 : List D) (p1 : Int) (p2 : List D) : Llaws_toNodeS_3 p0 p1 p2 =
  br (decide (p1 < ni (List.length p0)))
   (grd (decide (0 ≤ p1) && decide (p1 < ni (List.length p0))) (oget p0 (Int.toNat p1) fun x0 =>
    asAgg x0 fun l1 => unc l1 fun x2 l3 => asI .i64 x2 fun n4 => unc l3 fun x5 l6 => asI .i64 x5 fun n7 => unc l6 fun x8 l9 => asS x8 fun s10 => unc l9 fun x11 l12 => asI .i64 x11 fun n13 => unc l12 fun x14 l15 => asI .i64 x14 fun n16 => unn l15 (ocall V 132 [(.agg [(.int .i64 n4), (.int .i64 n7), (.str s10), (.int .i64 n13), (.int .i64 n16)])] fun x17 l18 =>
                asAgg x17 fun l19 => unc l19 fun x20 l21 => asI .i64 x20 fun n22 => unc l21 fun x23 l24 => asI .i64 x23 fun n25 => unc l24 fun x26 l27 => asS x26 fun s28 => unc l27 fun x29 l30 => asI .i64 x29 fun n31 => unc l30 fun x32 l33 => asI .i64 x32 fun n34 => unn l33 (unn l18 (grd (decide (0 ≤ p1) && decide (p1 < ni (List.length p2))) (oget p2 (Int.toNat p1) fun _ =>
                            nam (List.set p2 (Int.toNat p1) (D.agg [D.int IntKind.i64 n22, D.int IntKind.i64 n25, D.str s28, D.int IntKind.i64 n31, D.int IntKind.i64 n34])) fun l36 =>
                             Llaws_toNodeS_3 p0 (IntKind.wrap IntKind.i64 (p1 + 1)) l36))))))
   (some ((.os (5, 0) p2), [])) := by
  exact (Rn_eq _ _ _).trans (by kernel_rfl)
theorem Llaws_eqInstrS_4_eq (p0 : List D) (p1 : List D) (p2 : Int) : Llaws_eqInstrS_4 p0 p1 p2 =
  br (decide (p2 < ni (List.length p0)))
   (grd (decide (0 ≤ p2) && decide (p2 < ni (List.length p0))) (oget p0 (Int.toNat p2) fun x0 =>
    asAgg x0 fun l1 => unc l1 fun x2 l3 => asI .i64 x2 fun n4 => unc l3 fun x5 l6 => asI .i64 x5 fun n7 => unc l6 fun x8 l9 => asI .i64 x8 fun n10 => unc l9 fun x11 l12 => asS x11 fun s13 => unn l12 (grd (decide (0 ≤ p2) && decide (p2 < ni (List.length p1))) (oget p1 (Int.toNat p2) fun x14 =>
              asAgg x14 fun l15 => unc l15 fun x16 l17 => asI .i64 x16 fun n18 => unc l17 fun x19 l20 => asI .i64 x19 fun n21 => unc l20 fun x22 l23 => asI .i64 x22 fun n24 => unc l23 fun x25 l26 => asS x25 fun s27 => unn l26 (ocall V 158 [(.agg [(.int .i64 n4), (.int .i64 n7), (.int .i64 n10), (.str s13)]), (.agg [(.int .i64 n18), (.int .i64 n21), (.int .i64 n24), (.str s27)])] fun x28 l29 =>
                        asB x28 fun b30 => unn l29 (br (!b30)
                          (some ((.bool false), []))
                          (Llaws_eqInstrS_4 p0 p1 (IntKind.wrap IntKind.i64 (p2 + 1)))))))))
   (some ((.bool true), [])) := by
  exact (Rn_eq _ _ _).trans (by kernel_rfl)
theorem elaws_szCode (a0_0 : List D) (a0_1 : List D) (a0_2 : List D) (a1_ : Int) : V 39 [.agg [.rs (5, 0) a0_0, .rs (4, 0) a0_1, .rs (3, 0) a0_2], .int .i64 a1_] =
  ocall V 21 [(.agg [(.rs (5, 0) a0_0)]), (.int .i64 a1_)] fun x0 l1 =>
   asI .i64 x0 fun n2 => unn l1 (br (decide (n2 < 0))
     (some ((.int .i64 (-1)), []))
     (ocall V 91 [(.rs (4, 0) a0_1), (.int .i64 n2)] fun x3 l4 =>
      asI .i64 x3 fun n5 => unn l4 (br (decide (n5 < 0))
        (some ((.int .i64 (-1)), []))
        (ocall V 92 [(.rs (3, 0) a0_2), (.int .i64 n5)] fun x6 l7 =>
         asI .i64 x6 fun n8 => unn l7 (br (decide (n8 < 0))
           (some ((.int .i64 (-1)), []))
           (some ((.int .i64 n8), []))))))) := by
  exact (Vn_eq Try.func39 rfl _).trans (by kernel_rfl)
theorem Limpl_PutNum_4_eq (p0 : Int) (p1 : List D) : Limpl_PutNum_4 p0 p1 =
  br (decide (p0 > 127))
   (grd (!decide (128 = 0)) (grd (decide (ni (List.length (p1 ++ [D.int IntKind.u8 (IntKind.wrap IntKind.u8 (IntKind.wrap IntKind.i64 (Int.tmod p0 (128) + 128)))])) ≤ LIM)) (nam (p1 ++ [D.int IntKind.u8 (IntKind.wrap IntKind.u8 (IntKind.wrap IntKind.i64 (Int.tmod p0 (128) + 128)))]) fun l0 =>
    grd (!decide (128 = 0)) (Limpl_PutNum_4 (IntKind.wrap IntKind.i64 (Int.tdiv p0 (128))) l0))))
   (grd (decide (ni (List.length (p1 ++ [D.int IntKind.u8 (IntKind.wrap IntKind.u8 p0)])) ≤ LIM)) (nam (p1 ++ [D.int IntKind.u8 (IntKind.wrap IntKind.u8 p0)]) fun l1 =>
    some ((.os (1, 0) l1), []))) := by
  exact (Rn_eq _ _ _).trans (by kernel_rfl)
theorem elaws_toMachine (a0_0 : List D) (a0_1 : Int) (a0_2 : Int) (a0_3 : Int) (a0_4 : Int) (a0_5 : Int) (a0_6 : Int) (a0_7 : Int) : V 43 [.agg [.rs (5, 0) a0_0, .int .i64 a0_1, .int .i64 a0_2, .int .i64 a0_3, .int .i64 a0_4, .int .i64 a0_5, .int .i64 a0_6, .int .i64 a0_7]] =
  ocall V 23 [(.agg [(.rs (5, 0) a0_0)])] fun x0 l1 =>
   asAgg x0 fun l2 => unc l2 fun x3 l4 => asOs (5, 0) x3 fun l5 => unn l4 (unn l1 (some ((.agg [(.os (5, 0) l5), (.int .i64 a0_1), (.int .i64 a0_2), (.int .i64 a0_3), (.int .i64 a0_4), (.int .i64 a0_5), (.int .i64 a0_6), (.int .i64 a0_7)]), []))) := by
  exact (Vn_eq Try.func43 rfl _).trans (by kernel_rfl)
theorem Llaws_markText_4_eq (p0 : Int) (p1 : ByteArray) : Llaws_markText_4 p0 p1 =
  br (decide (p0 > 0))
   (grd (!decide (10 = 0)) (obytes ([D.int IntKind.u8 (IntKind.wrap IntKind.u8 (IntKind.wrap IntKind.i64 (48 + Int.tmod p0 (10))))]) fun s0 => grd (decide (ni (ByteArray.size s0 + ByteArray.size p1) ≤ LIM)) (grd (!decide (10 = 0)) (Llaws_markText_4 (IntKind.wrap IntKind.i64 (Int.tdiv p0 (10))) (s0 ++ p1)))))
   (grd (decide (ni (ByteArray.size { data := #[109] } + ByteArray.size p1) ≤ LIM)) (some ((.str ({ data := #[109] } ++ p1)), []))) := by
  exact (Rn_eq _ _ _).trans (by kernel_rfl)
theorem LIndexFunc_rootsOk_2_eq (p0 : List D) (p1 : List D) (p2 : Int) (p3 : Int) : LIndexFunc_rootsOk_2 p0 p1 p2 p3 =
  br (decide (p3 < p2))
   (grd (decide (0 ≤ p3) && decide (p3 < ni (List.length p0))) (oget p0 (Int.toNat p3) fun x0 =>
    asI .i64 x0 fun n1 => ocall V 114 [(.int .i64 n1), (.bp [(.rs (5, 0) p1)])] fun x2 l3 =>
      asB x2 fun b4 => unn l3 (br b4
        (some ((.int .i64 p3), []))
        (LIndexFunc_rootsOk_2 p0 p1 p2 (IntKind.wrap IntKind.i64 (p3 + 1))))))
   (some ((.int .i64 (-1)), [])) := by
  exact (Rn_eq _ _ _).trans (by kernel_rfl)
theorem Llaws_toStringS_3_eq (p0 : List D) (p1 : Int) (p2 : List D) : Llaws_toStringS_3 p0 p1 p2 =
  br (decide (p1 < ni (List.length p0)))
   (grd (decide (0 ≤ p1) && decide (p1 < ni (List.length p0))) (oget p0 (Int.toNat p1) fun x0 =>
    asS x0 fun s1 => grd (decide (0 ≤ p1) && decide (p1 < ni (List.length p2))) (oget p2 (Int.toNat p1) fun _ =>
      nam (List.set p2 (Int.toNat p1) (D.str s1)) fun l3 =>
       Llaws_toStringS_3 p0 (IntKind.wrap IntKind.i64 (p1 + 1)) l3)))
   (some ((.os (1, 0) p2), [])) := by
  exact (Rn_eq _ _ _).trans (by kernel_rfl)
theorem Limpl_CodeOk_4_eq (p0 : Int) (p1 : Int) (p2 : List D) (p3 : List D) (p4 : List D) : Limpl_CodeOk_4 p0 p1 p2 p3 p4 =
  br (decide (p1 < p0))
   (ocall V 173 [(.agg [(.rs (5, 0) p2), (.rs (4, 0) p3), (.rs (3, 0) p4)]), (.int .i64 p1)] fun x3 l4 =>
    asB x3 fun b5 => unn l4 (br (!b5)
      (some ((.bool false), []))
      (Limpl_CodeOk_4 p0 (IntKind.wrap IntKind.i64 (p1 + 1)) p2 p3 p4)))
   (Limpl_CodeOk_10 p4 (ni (List.length p4)) (0) p2 p3 p4) := by
  exact (Rn_eq _ _ _).trans (by kernel_rfl)
theorem eimpl_Pool_moveIn (p : List D) (q : List D) (l : List D) : V 115 [.op [.os (5, 0) p], .agg [.rs (5, 0) q], .rs (1, 0) l] =
  grd (decide (0 ≤ ni (List.length q)) && decide (ni (List.length q) ≤ LIM)) (ocall V 162 [(.agg [(.rs (5, 0) q)]), (.rs (1, 0) l)] fun x0 l1 =>
   asOs (1, 0) x0 fun l2 => unn l1 (Limpl_Pool_moveIn_4 q (ni (List.length q)) (0) (List.replicate (Int.toNat (ni (List.length q))) (D.int IntKind.i64 (0))) l2 p)) := by
  exact (Vn_eq Try.func115 rfl _).trans (by kernel_rfl)
theorem Lspec_CodeOk_4_eq (p0 : Int) (p1 : List D) (p2 : List D) (p3 : List D) : Lspec_CodeOk_4 p0 p1 p2 p3 =
  br (decide (p0 < ni (List.length p2)))
   (ocall V 171 [(.agg [(.rs (5, 0) p1), (.rs (4, 0) p2), (.rs (3, 0) p3)]), (.int .i64 p0)] fun x3 l4 =>
    asB x3 fun b5 => unn l4 (br (!b5)
      (some ((.bool false), []))
      (Lspec_CodeOk_4 (IntKind.wrap IntKind.i64 (p0 + 1)) p1 p2 p3)))
   (Lspec_CodeOk_9 (0) p1 p2 p3) := by
  exact (Rn_eq _ _ _).trans (by kernel_rfl)
theorem eimpl_keep (a0_0 : List D) (a1_ : List D) : V 56 [.agg [.rs (5, 0) a0_0], .rs (1, 0) a1_] =
  ocall V 115 [(.op [(.os (5, 0) [])]), (.agg [(.rs (5, 0) a0_0)]), (.rs (1, 0) a1_)] fun x0 l1 =>
   asOs (1, 0) x0 fun l2 => unc l1 fun x3 l4 => asOp x3 fun l5 => unc l5 fun x6 l7 => asOs (5, 0) x6 fun l8 => unn l7 (unn l4 (Limpl_keep_5 a1_ (ni (List.length a1_)) (0) l2 [] l8)) := by
  exact (Vn_eq Try.func56 rfl _).trans (by kernel_rfl)
theorem elaws_markPool (a0_0 : List D) (a1_ : Int) : V 27 [.agg [.os (5, 0) a0_0], .int .i64 a1_] =
  ocall V 80 [(.os (5, 0) a0_0), (.int .i64 a1_)] fun x0 l1 =>
   asI .i64 x0 fun n2 => unc l1 fun x3 l4 => asOs (5, 0) x3 fun l5 => unn l4 (some ((.int .i64 n2), [(.agg [(.os (5, 0) l5)])])) := by
  exact (Vn_eq Try.func27 rfl _).trans (by kernel_rfl)
theorem elaws_toNode (a0_0 : Int) (a0_1 : Int) (a0_2 : ByteArray) (a0_3 : Int) (a0_4 : Int) : V 132 [.agg [.int .i64 a0_0, .int .i64 a0_1, .str a0_2, .int .i64 a0_3, .int .i64 a0_4]] =
  some ((.agg [(.int .i64 a0_0), (.int .i64 a0_1), (.str a0_2), (.int .i64 a0_3), (.int .i64 a0_4)]), []) := by
  exact (Vn_eq Try.func132 rfl _).trans (by kernel_rfl)
theorem elaws_heldPool (a0_0 : List D) (a1_ : Int) : V 29 [.agg [.rs (5, 0) a0_0], .int .i64 a1_] =
  ocall V 81 [(.rs (5, 0) a0_0), (.int .i64 a1_)] fun x0 l1 =>
   asI .i64 x0 fun n2 => unn l1 (br (decide (n2 < 0))
     (some ((.int .i64 (-1)), []))
     (some ((.int .i64 n2), []))) := by
  exact (Vn_eq Try.func29 rfl _).trans (by kernel_rfl)
theorem eContainsFunc_rootsOk (l : List D) (p : List D) : V 113 [.rs (1, 0) l, .fn 114 [.bp [.rs (5, 0) p]]] =
  ocall V 161 [(.rs (1, 0) l), (.fn 114 [(.bp [(.rs (5, 0) p)])])] fun x0 l1 =>
   asI .i64 x0 fun n2 => unn l1 (some ((.bool (decide (n2 ≥ 0))), [])) := by
  exact (Vn_eq Try.func113 rfl _).trans (by kernel_rfl)
theorem eimpl_packNodes (a0_0 : List D) : V 87 [.agg [.rs (5, 0) a0_0]] =
  ocall V 100 [(.int .i64 (ni (List.length a0_0)))] fun x0 l1 =>
   asOs (1, 0) x0 fun l2 => unn l1 (Limpl_packNodes_3 a0_0 (ni (List.length a0_0)) (0) l2) := by
  exact (Vn_eq Try.func87 rfl _).trans (by kernel_rfl)
theorem erootsOk_1 (r : Int) (p : List D) : V 114 [.int .i64 r, .bp [.rs (5, 0) p]] =
  ocall V 59 [(.agg [(.rs (5, 0) p)]), (.int .i64 r)] fun x0 l1 =>
   asB x0 fun b2 => unn l1 (some ((.bool (!b2)), [])) := by
  exact (Vn_eq Try.func114 rfl _).trans (by kernel_rfl)
theorem eimpl_reading_text (p : List D) (o : List D) (t : List D) (s : ByteArray) : V 78 [.op [.os (5, 0) p, .os (1, 2) o, .os (1, 0) t], .str s] =
  Limpl_reading_text_2 s (0) p o t := by
  exact (Vn_eq Try.func78 rfl _).trans (by kernel_rfl)
theorem eDefOf_1 (a : ByteArray) (b : Int) (c : Int) (s : ByteArray) : V 179 [.agg [.str a, .int .i64 b, .int .i64 c], .bp [.str s]] =
  some ((.bool (strEq a s)), []) := by
  exact (Vn_eq Try.func179 rfl _).trans (by kernel_rfl)
theorem eimpl_PutNum (a0_ : Int) : V 100 [.int .i64 a0_] =
  br (decide (a0_ < 0))
   (some ((.os (1, 0) []), []))
   (Limpl_PutNum_4 a0_ []) := by
  exact (Vn_eq Try.func100 rfl _).trans (by kernel_rfl)
theorem elaws_heldNodeS (a0_ : List D) (a1_ : Int) : V 81 [.rs (5, 0) a0_, .int .i64 a1_] =
  Llaws_heldNodeS_2 a0_ a1_ (0) := by
  exact (Vn_eq Try.func81 rfl _).trans (by kernel_rfl)
end Go.Eng
