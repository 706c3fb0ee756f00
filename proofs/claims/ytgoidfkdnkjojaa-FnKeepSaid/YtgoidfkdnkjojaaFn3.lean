/- the functions as the interpreter has them -/
import Derived.Test.YtgoidfkdnkjojaaFn0
namespace Go.Eng
open Go.Proofs Go.Proofs.Try
set_option maxRecDepth 100000
theorem eimpl_nodeOk (a0_0 : Int) (a0_1 : Int) (a0_2 : ByteArray) (a0_3 : Int) (a0_4 : Int) (a1_ : Int) : V 62 [.agg [.int .i64 a0_0, .int .i64 a0_1, .str a0_2, .int .i64 a0_3, .int .i64 a0_4], .int .i64 a1_] =
  br (a0_0 == 1)
   (ocall V 106 [(.int .i64 a0_1), (.int .i64 (0)), (.int .i64 (0))] fun x0 l1 =>
    asB x0 fun b2 => unn l1 (br b2
      (br (strEq a0_2 { data := #[] })
       (br (a0_3 == 0)
        (some ((.bool (a0_4 == 0)), []))
        (some ((.bool false), [])))
       (some ((.bool false), [])))
      (some ((.bool false), []))))
   (br (a0_0 == 2)
    (ocall V 106 [(.int .i64 a0_1), (.int .i64 (0)), (.int .i64 (1))] fun x3 l4 =>
     asB x3 fun b5 => unn l4 (br b5
       (br (strEq a0_2 { data := #[] })
        (br (a0_3 == 0)
         (some ((.bool (a0_4 == 0)), []))
         (some ((.bool false), [])))
        (some ((.bool false), [])))
       (some ((.bool false), []))))
    (br (a0_0 == 3)
     (ocall V 106 [(.int .i64 a0_1), (.int .i64 (-1000000000)), (.int .i64 (1000000000))] fun x6 l7 =>
      asB x6 fun b8 => unn l7 (br b8
        (br (strEq a0_2 { data := #[] })
         (br (a0_3 == 0)
          (some ((.bool (a0_4 == 0)), []))
          (some ((.bool false), [])))
         (some ((.bool false), [])))
        (some ((.bool false), []))))
     (br (a0_0 == 4)
      (ocall V 121 [(.str a0_2)] fun x9 l10 =>
       asB x9 fun b11 => unn l10 (ocall V 106 [(.int .i64 a0_1), (.int .i64 (0)), (.int .i64 (0))] fun x12 l13 =>
         asB x12 fun b14 => unn l13 (br b14
           (br b11
            (br (a0_3 == 0)
             (some ((.bool (a0_4 == 0)), []))
             (some ((.bool false), [])))
            (some ((.bool false), [])))
           (some ((.bool false), [])))))
      (br (a0_0 == 5)
       (ocall V 106 [(.int .i64 a0_3), (.int .i64 (0)), (.int .i64 (IntKind.wrap IntKind.i64 (a1_ - 1)))] fun x15 l16 =>
        asB x15 fun b17 => unn l16 (ocall V 106 [(.int .i64 a0_4), (.int .i64 (0)), (.int .i64 (IntKind.wrap IntKind.i64 (a1_ - 1)))] fun x18 l19 =>
          asB x18 fun b20 => unn l19 (ocall V 106 [(.int .i64 a0_1), (.int .i64 (0)), (.int .i64 (0))] fun x21 l22 =>
            asB x21 fun b23 => unn l22 (br b23
              (br (strEq a0_2 { data := #[] })
               (br b17
                (some ((.bool b20), []))
                (some ((.bool false), [])))
               (some ((.bool false), [])))
              (some ((.bool false), []))))))
       (br (a0_0 == 6)
        (ocall V 106 [(.int .i64 a0_3), (.int .i64 (0)), (.int .i64 (IntKind.wrap IntKind.i64 (a1_ - 1)))] fun x24 l25 =>
         asB x24 fun b26 => unn l25 (ocall V 106 [(.int .i64 a0_1), (.int .i64 (0)), (.int .i64 (1000000000))] fun x27 l28 =>
           asB x27 fun b29 => unn l28 (br b29
             (br (strEq a0_2 { data := #[] })
              (br b26
               (some ((.bool (a0_4 == 0)), []))
               (some ((.bool false), [])))
              (some ((.bool false), [])))
             (some ((.bool false), [])))))
        (br (a0_0 == 7)
         (ocall V 106 [(.int .i64 a0_3), (.int .i64 (0)), (.int .i64 (IntKind.wrap IntKind.i64 (a1_ - 1)))] fun x30 l31 =>
          asB x30 fun b32 => unn l31 (ocall V 106 [(.int .i64 a0_1), (.int .i64 (0)), (.int .i64 (0))] fun x33 l34 =>
            asB x33 fun b35 => unn l34 (br b35
              (br (strEq a0_2 { data := #[] })
               (br b32
                (some ((.bool (a0_4 == 0)), []))
                (some ((.bool false), [])))
               (some ((.bool false), [])))
              (some ((.bool false), [])))))
         (br (a0_0 == 8)
          (ocall V 106 [(.int .i64 a0_1), (.int .i64 (0)), (.int .i64 (99))] fun x36 l37 =>
           asB x36 fun b38 => unn l37 (br b38
             (br (strEq a0_2 { data := #[] })
              (br (a0_3 == 0)
               (some ((.bool (a0_4 == 0)), []))
               (some ((.bool false), [])))
              (some ((.bool false), [])))
             (some ((.bool false), []))))
          (br (a0_0 == 9)
           (ocall V 106 [(.int .i64 a0_1), (.int .i64 (0)), (.int .i64 (1000000000))] fun x39 l40 =>
            asB x39 fun b41 => unn l40 (br b41
              (br (strEq a0_2 { data := #[] })
               (br (a0_3 == 0)
                (some ((.bool (a0_4 == 0)), []))
                (some ((.bool false), [])))
               (some ((.bool false), [])))
              (some ((.bool false), []))))
           (some ((.bool false), [])))))))))) := by
  exact (Vn_eq Try.func62 rfl _).trans (by kernel_rfl)
theorem Limpl_SizeOf_5_eq (p0 : Int) (p1 : List D) (p2 : Int) (p3 : Int) (p4 : List D) : Limpl_SizeOf_5 p0 p1 p2 p3 p4 =
  br (decide (p3 < p2))
   (grd (decide (0 ≤ p3) && decide (p3 < ni (List.length p1))) (oget p1 (Int.toNat p3) fun x6 =>
    asAgg x6 fun l7 => unc l7 fun x8 l9 => asI .i64 x8 fun n10 => unc l9 fun x11 l12 => asI .i64 x11 fun _ => unc l12 fun x14 l15 => asS x14 fun _ => unc l15 fun x17 l18 => asI .i64 x17 fun n19 => unc l18 fun x20 l21 => asI .i64 x20 fun n22 => unn l21 (br (n10 == 5)
                (grd (decide (0 ≤ n19) && decide (n19 < ni (List.length p4))) (oget p4 (Int.toNat n19) fun x23 =>
                 asI .i64 x23 fun n24 => grd (decide (0 ≤ n22) && decide (n22 < ni (List.length p4))) (oget p4 (Int.toNat n22) fun x25 =>
                   asI .i64 x25 fun n26 => grd (decide (ni (List.length (p4 ++ [D.int IntKind.i64 (mnI (IntKind.wrap IntKind.i64 (1 + IntKind.wrap IntKind.i64 (n24 + n26))) (1000000000))])) ≤ LIM)) (nam (p4 ++ [D.int IntKind.i64 (mnI (IntKind.wrap IntKind.i64 (1 + IntKind.wrap IntKind.i64 (n24 + n26))) (1000000000))]) fun l27 =>
                     Limpl_SizeOf_5 p0 p1 p2 (IntKind.wrap IntKind.i64 (p3 + 1)) l27))))
                (br (n10 == 6)
                 (br (n10 == 6)
                  (grd (decide (0 ≤ n19) && decide (n19 < ni (List.length p4))) (oget p4 (Int.toNat n19) fun x28 =>
                   asI .i64 x28 fun n29 => grd (decide (ni (List.length (p4 ++ [D.int IntKind.i64 (mnI (IntKind.wrap IntKind.i64 (1 + n29)) (1000000000))])) ≤ LIM)) (nam (p4 ++ [D.int IntKind.i64 (mnI (IntKind.wrap IntKind.i64 (1 + n29)) (1000000000))]) fun l30 =>
                     Limpl_SizeOf_5 p0 p1 p2 (IntKind.wrap IntKind.i64 (p3 + 1)) l30)))
                  (grd (decide (ni (List.length (p4 ++ [D.int IntKind.i64 (mnI (1) (1000000000))])) ≤ LIM)) (nam (p4 ++ [D.int IntKind.i64 (mnI (1) (1000000000))]) fun l31 =>
                   Limpl_SizeOf_5 p0 p1 p2 (IntKind.wrap IntKind.i64 (p3 + 1)) l31)))
                 (br (n10 == 7)
                  (grd (decide (0 ≤ n19) && decide (n19 < ni (List.length p4))) (oget p4 (Int.toNat n19) fun x32 =>
                   asI .i64 x32 fun n33 => grd (decide (ni (List.length (p4 ++ [D.int IntKind.i64 (mnI (IntKind.wrap IntKind.i64 (1 + n33)) (1000000000))])) ≤ LIM)) (nam (p4 ++ [D.int IntKind.i64 (mnI (IntKind.wrap IntKind.i64 (1 + n33)) (1000000000))]) fun l34 =>
                     Limpl_SizeOf_5 p0 p1 p2 (IntKind.wrap IntKind.i64 (p3 + 1)) l34)))
                  (grd (decide (ni (List.length (p4 ++ [D.int IntKind.i64 (mnI (1) (1000000000))])) ≤ LIM)) (nam (p4 ++ [D.int IntKind.i64 (mnI (1) (1000000000))]) fun l35 =>
                   Limpl_SizeOf_5 p0 p1 p2 (IntKind.wrap IntKind.i64 (p3 + 1)) l35)))))))
   (grd (decide (0 ≤ p0) && decide (p0 < ni (List.length p4))) (oget p4 (Int.toNat p0) fun x36 =>
    asI .i64 x36 fun n37 => some ((.int .i64 n37), []))) := by
  exact (Rn_eq _ _ _).trans (by kernel_rfl)
theorem espec_l2DrawAt (a0_0 : List D) (a0_1 : Int) (a0_2 : Int) (a1_0 : List D) : V 66 [.op [.rs (1, 0) a0_0, .int .i64 a0_1, .int .i64 a0_2], .agg [.rs (5, 0) a1_0]] =
  br (ni (List.length a1_0) == 0)
   (ocall V 123 [(.op [(.rs (1, 0) a0_0), (.int .i64 a0_1), (.int .i64 a0_2)]), (.rs (1, 0) [(.int .i64 (-1)), (.int .i64 (0)), (.int .i64 (ni (List.length a1_0)))])] fun x0 l1 =>
    asI .i64 x0 fun n2 => unc l1 fun x3 l4 => asOp x3 fun l5 => unc l5 fun x6 l7 => asRs (1, 0) x6 fun l8 => unc l7 fun x9 l10 => asI .i64 x9 fun n11 => unc l10 fun x12 l13 => asI .i64 x12 fun n14 => unn l13 (unn l4 (some ((.int .i64 n2), [(.op [(.rs (1, 0) l8), (.int .i64 n11), (.int .i64 n14)])]))))
   (ocall V 63 [(.op [(.rs (1, 0) a0_0), (.int .i64 a0_1), (.int .i64 a0_2)]), (.int .i64 (20))] fun x15 l16 =>
    asB x15 fun b17 => unc l16 fun x18 l19 => asOp x18 fun l20 => unc l20 fun x21 l22 => asRs (1, 0) x21 fun l23 => unc l22 fun x24 l25 => asI .i64 x24 fun n26 => unc l25 fun x27 l28 => asI .i64 x27 fun n29 => unn l28 (unn l19 (br b17
              (ocall V 123 [(.op [(.rs (1, 0) l23), (.int .i64 n26), (.int .i64 n29)]), (.rs (1, 0) [(.int .i64 (-1)), (.int .i64 (0)), (.int .i64 (ni (List.length a1_0)))])] fun x30 l31 =>
               asI .i64 x30 fun n32 => unc l31 fun x33 l34 => asOp x33 fun l35 => unc l35 fun x36 l37 => asRs (1, 0) x36 fun l38 => unc l37 fun x39 l40 => asI .i64 x39 fun n41 => unc l40 fun x42 l43 => asI .i64 x42 fun n44 => unn l43 (unn l34 (some ((.int .i64 n32), [(.op [(.rs (1, 0) l38), (.int .i64 n41), (.int .i64 n44)])]))))
              (ocall V 124 [(.int .i64 (ni (List.length a1_0))), (.int .i64 (9))] fun x45 l46 =>
               asI .i64 x45 fun n47 => unn l46 (ocall V 85 [(.op [(.rs (1, 0) l23), (.int .i64 n26), (.int .i64 n29)]), (.int .i64 n47)] fun x48 l49 =>
                 asI .i64 x48 fun n50 => unc l49 fun x51 l52 => asOp x51 fun l53 => unc l53 fun x54 l55 => asRs (1, 0) x54 fun l56 => unc l55 fun x57 l58 => asI .i64 x57 fun n59 => unc l58 fun x60 l61 => asI .i64 x60 fun n62 => unn l61 (unn l52 (some ((.int .i64 (IntKind.wrap IntKind.i64 (IntKind.wrap IntKind.i64 (ni (List.length a1_0) - 1) - n50))), [(.op [(.rs (1, 0) l56), (.int .i64 n59), (.int .i64 n62)])])))))))) := by
  exact (Vn_eq Try.func66 rfl _).trans (by kernel_rfl)
theorem espec_l1PickInt (a0_0 : List D) (a0_1 : Int) (a0_2 : Int) (a1_ : List D) : V 123 [.op [.rs (1, 0) a0_0, .int .i64 a0_1, .int .i64 a0_2], .rs (1, 0) a1_] =
  ocall V 85 [(.op [(.rs (1, 0) a0_0), (.int .i64 a0_1), (.int .i64 a0_2)]), (.int .i64 (ni (List.length a1_)))] fun x0 l1 =>
   asI .i64 x0 fun n2 => unc l1 fun x3 l4 => asOp x3 fun l5 => unc l5 fun x6 l7 => asRs (1, 0) x6 fun l8 => unc l7 fun x9 l10 => asI .i64 x9 fun n11 => unc l10 fun x12 l13 => asI .i64 x12 fun n14 => unn l13 (unn l4 (grd (decide (0 ≤ n2) && decide (n2 < ni (List.length a1_))) (oget a1_ (Int.toNat n2) fun x15 =>
             asI .i64 x15 fun n16 => some ((.int .i64 n16), [(.op [(.rs (1, 0) l8), (.int .i64 n11), (.int .i64 n14)])])))) := by
  exact (Vn_eq Try.func123 rfl _).trans (by kernel_rfl)
theorem espec_Write (a0_0 : List D) (a1_ : Int) : V 20 [.agg [.rs (5, 0) a0_0], .int .i64 a1_] =
  ocall V 67 [(.agg [(.rs (5, 0) a0_0)])] fun x0 l1 =>
   asB x0 fun b2 => unn l1 (br (!b2)
     (some ((.str ({ data := #[] })), []))
     (ocall V 68 [(.agg [(.rs (5, 0) a0_0)]), (.int .i64 a1_)] fun x3 l4 =>
      asB x3 fun b5 => unn l4 (br (!b5)
        (some ((.str ({ data := #[] })), []))
        (ocall V 69 [(.agg [(.rs (5, 0) a0_0)]), (.int .i64 a1_), (.str ({ data := #[] }))] fun x6 l7 =>
         asS x6 fun s8 => unn l7 (br (decide (ni (ByteArray.size s8) > 400))
           (some ((.str ({ data := #[] })), []))
           (some ((.str s8), []))))))) := by
  exact (Vn_eq Try.func20 rfl _).trans (by kernel_rfl)
theorem eimpl_Keep (a0_0 : List D) (a1_ : List D) : V 13 [.agg [.rs (5, 0) a0_0], .rs (1, 0) a1_] =
  ocall V 55 [(.agg [(.rs (5, 0) a0_0)]), (.rs (1, 0) a1_)] fun x0 l1 =>
   asB x0 fun b2 => unn l1 (br (!b2)
     (some ((.tup [(.agg [(.os (5, 0) [])]), (.os (1, 0) [])]), []))
     (ocall V 56 [(.agg [(.rs (5, 0) a0_0)]), (.rs (1, 0) a1_)] fun x3 l4 =>
      asTup x3 fun l5 => unc l5 fun x6 l7 => asAgg x6 fun l8 => unc l8 fun x9 l10 => asOs (5, 0) x9 fun l11 => unn l10 (unc l7 fun x12 l13 => asOs (1, 0) x12 fun l14 => unn l13 (unn l4 (some ((.tup [(.agg [(.os (5, 0) l11)]), (.os (1, 0) l14)]), [])))))) := by
  exact (Vn_eq Try.func13 rfl _).trans (by kernel_rfl)
theorem Lspec_l7Roots_2_eq (p0 : List D) (p1 : Int) (p2 : List D) : Lspec_l7Roots_2 p0 p1 p2 =
  br (decide (p1 < ni (List.length p0)))
   (grd (decide (0 ≤ p1) && decide (p1 < ni (List.length p0))) (oget p0 (Int.toNat p1) fun x0 =>
    asI .i64 x0 fun n1 => ocall V 68 [(.agg [(.rs (5, 0) p2)]), (.int .i64 n1)] fun x2 l3 =>
      asB x2 fun b4 => unn l3 (br (!b4)
        (some ((.bool false), []))
        (Lspec_l7Roots_2 p0 (IntKind.wrap IntKind.i64 (p1 + 1)) p2))))
   (ocall V 67 [(.agg [(.rs (5, 0) p2)])] fun x5 l6 =>
    asB x5 fun b7 => unn l6 (some ((.bool b7), []))) := by
  exact (Rn_eq _ _ _).trans (by kernel_rfl)
theorem Lspec_NameOk_2_eq (p0 : ByteArray) (p1 : Int) : Lspec_NameOk_2 p0 p1 =
  br (decide (p1 < ni (ByteArray.size p0)))
   (grd (decide (0 ≤ p1) && decide (p1 < ni (ByteArray.size p0))) (ocall V 128 [(.int .u8 (bt p0 p1))] fun x0 l1 =>
    asB x0 fun b2 => unn l1 (br (!b2)
      (some ((.bool false), []))
      (Lspec_NameOk_2 p0 (IntKind.wrap IntKind.i64 (p1 + 1))))))
   (ocall V 104 [(.int .i64 (ni (ByteArray.size p0))), (.int .i64 (1)), (.int .i64 (12))] fun x3 l4 =>
    asB x3 fun b5 => unn l4 (some ((.bool b5), []))) := by
  exact (Rn_eq _ _ _).trans (by kernel_rfl)
theorem eimpl_SizeOf (a0_0 : List D) (a1_ : Int) : V 17 [.agg [.rs (5, 0) a0_0], .int .i64 a1_] =
  ocall V 18 [(.agg [(.rs (5, 0) a0_0)])] fun x0 l1 =>
   asB x0 fun b2 => unn l1 (br (!b2)
     (some ((.int .i64 (0)), []))
     (ocall V 59 [(.agg [(.rs (5, 0) a0_0)]), (.int .i64 a1_)] fun x3 l4 =>
      asB x3 fun b5 => unn l4 (br (!b5)
        (some ((.int .i64 (0)), []))
        (Limpl_SizeOf_5 a1_ a0_0 (ni (List.length a0_0)) (0) [])))) := by
  exact (Vn_eq Try.func17 rfl _).trans (by kernel_rfl)
theorem espec_l3Digits (a0_ : Int) : V 126 [.int .i64 a0_] =
  br (decide (a0_ < 0))
   (ocall V 126 [(.int .i64 (IntKind.wrap IntKind.i64 (0 - a0_)))] fun x0 l1 =>
    asS x0 fun s2 => unn l1 (grd (decide (ni (ByteArray.size { data := #[45] } + ByteArray.size s2) ≤ LIM)) (some ((.str ({ data := #[45] } ++ s2)), []))))
   (br (a0_ == 0)
    (some ((.str ({ data := #[48] })), []))
    (Lspec_l3Digits_6 a0_ ({ data := #[] }))) := by
  exact (Vn_eq Try.func126 rfl _).trans (by kernel_rfl)
theorem espec_l7Reach (a0_0 : List D) (a1_ : List D) : V 117 [.agg [.rs (5, 0) a0_0], .rs (1, 0) a1_] =
  grd (decide (0 ≤ ni (List.length a0_0)) && decide (ni (List.length a0_0) ≤ LIM)) (Lspec_l7Reach_3 a1_ (0) a0_0 (List.replicate (Int.toNat (ni (List.length a0_0))) (D.bool false))) := by
  exact (Vn_eq Try.func117 rfl _).trans (by kernel_rfl)
theorem eimpl_isNode (a0_0 : List D) (a1_ : Int) : V 59 [.agg [.rs (5, 0) a0_0], .int .i64 a1_] =
  ocall V 106 [(.int .i64 a1_), (.int .i64 (0)), (.int .i64 (IntKind.wrap IntKind.i64 (ni (List.length a0_0) - 1)))] fun x0 l1 =>
   asB x0 fun b2 => unn l1 (some ((.bool b2), [])) := by
  exact (Vn_eq Try.func59 rfl _).trans (by kernel_rfl)
theorem espec_l1Min (a0_ : Int) (a1_ : Int) : V 124 [.int .i64 a0_, .int .i64 a1_] =
  br (decide (a0_ < a1_))
   (some ((.int .i64 a0_), []))
   (some ((.int .i64 a1_), [])) := by
  exact (Vn_eq Try.func124 rfl _).trans (by kernel_rfl)
theorem elaws_big (a0_ : List D) : V 11 [.rs (1, 0) a0_] =
  some ((.bool (decide (ni (List.length a0_) > 1048576))), []) := by
  exact (Vn_eq Try.func11 rfl _).trans (by kernel_rfl)
end Go.Eng
