/- the functions as the interpreter has them -/
import Derived.Test.YtgoidfkdnkjojaaFn0
namespace Go.Eng
open Go.Proofs Go.Proofs.Try
set_option maxRecDepth 100000
theorem Lspec_Read_9_eq (p0 : ByteArray) (p1 : Int) (p2 : List D) (p3 : List D) (p4 : List D) (p5 : List D) : Lspec_Read_9 p0 p1 p2 p3 p4 p5 =
  br (decide (p1 < ni (ByteArray.size p0)))
   (grd (decide (0 ≤ p1) && decide (p1 < ni (ByteArray.size p0))) (br (bt p0 p1 == 32)
    (Lspec_Read_9 p0 (IntKind.wrap IntKind.i64 (p1 + 1)) p2 p3 p4 p5)
    (br (bt p0 p1 == 40)
     (grd (decide
  (ni
      (List.length
        (p4 ++
          [D.agg
              [D.int IntKind.i64 p1,
                D.os
                  (TypeInfo.size (Tables.types (Program.toTables Try.prog))[3],
                    match flat Try.prog (3) with
                    | true => 0
                    | false => 1)
                  []]])) ≤
    LIM)) (nam (p4 ++
  [D.agg
      [D.int IntKind.i64 p1,
        D.os
          (TypeInfo.size (Tables.types (Program.toTables Try.prog))[3],
            match flat Try.prog (3) with
            | true => 0
            | false => 1)
          []]]) fun l15 =>
      Lspec_Read_9 p0 (IntKind.wrap IntKind.i64 (p1 + 1)) p2 p3 l15 p5))
     (br (bt p0 p1 == 41)
      (br (IntKind.wrap IntKind.i64 (ni (List.length p4) - 1) == 0)
       (ocall V 71 [(.agg [(.rs (5, 0) p2)])] fun x16 l17 =>
        asAgg x16 fun l18 => unc l18 fun x19 l20 => asOs (5, 0) x19 fun l21 => unn l20 (unn l17 (some ((.tup [(.agg [(.os (5, 0) l21)]), (.os (1, 0) p3), (.int .i64 (5)), (.int .i64 p1)]), []))))
       (grd (decide (0 ≤ IntKind.wrap IntKind.i64 (ni (List.length p4) - 1)) && decide (IntKind.wrap IntKind.i64 (ni (List.length p4) - 1) < ni (List.length p4))) (oget p4 (Int.toNat (IntKind.wrap IntKind.i64 (ni (List.length p4) - 1))) fun x22 =>
        asAgg x22 fun l23 => oget l23 1 fun x24 =>
          asOs (1, 0) x24 fun l25 => asAgg x22 fun l26 => ocall V 72 [(.op [(.os (5, 0) p5)]), (.rs (1, 0) l25)] fun x27 l28 =>
             asI .i64 x27 fun n29 => unc l28 fun x30 l31 => asOp x30 fun l32 => unc l32 fun x33 l34 => asOs (5, 0) x33 fun l35 => unn l34 (unn l31 (grd (cutOk (List.length (List.set p4 (Int.toNat (IntKind.wrap IntKind.i64 (ni (List.length p4) - 1))) (D.agg (List.take 1 l26 ++ [D.dead] ++ List.drop 2 l26)))) none (some (IntKind.wrap IntKind.i64 (ni (List.length p4) - 1)))) (grd (decide (0 ≤ IntKind.wrap IntKind.i64 (IntKind.wrap IntKind.i64 (ni (List.length p4) - 1) - 1)) && decide (IntKind.wrap IntKind.i64 (IntKind.wrap IntKind.i64 (ni (List.length p4) - 1) - 1) < ni (Int.toNat (IntKind.wrap IntKind.i64 (ni (List.length p4) - 1)))) && decide (0 + Int.toNat (IntKind.wrap IntKind.i64 (ni (List.length p4) - 1)) ≤ List.length (List.set p4 (Int.toNat (IntKind.wrap IntKind.i64 (ni (List.length p4) - 1))) (D.agg (List.take 1 l26 ++ [D.dead] ++ List.drop 2 l26))))) (oget (List.set p4 (Int.toNat (IntKind.wrap IntKind.i64 (ni (List.length p4) - 1))) (D.agg (List.take 1 l26 ++ [D.dead] ++ List.drop 2 l26))) (0 + Int.toNat (IntKind.wrap IntKind.i64 (IntKind.wrap IntKind.i64 (ni (List.length p4) - 1) - 1))) fun x36 =>
                   asAgg x36 fun l37 => oget l37 1 fun x38 =>
                     asOs (1, 0) x38 fun l39 => asAgg x36 fun l40 => grd (decide (ni (List.length (l39 ++ [D.int IntKind.i64 n29])) ≤ LIM)) (nam (l39 ++ [D.int IntKind.i64 n29]) fun l41 =>
                        grd (decide (0 ≤ IntKind.wrap IntKind.i64 (IntKind.wrap IntKind.i64 (ni (List.length p4) - 1) - 1)) && decide (IntKind.wrap IntKind.i64 (IntKind.wrap IntKind.i64 (ni (List.length p4) - 1) - 1) < ni (Int.toNat (IntKind.wrap IntKind.i64 (ni (List.length p4) - 1)))) && decide (0 + Int.toNat (IntKind.wrap IntKind.i64 (ni (List.length p4) - 1)) ≤ List.length (List.set (List.set p4 (Int.toNat (IntKind.wrap IntKind.i64 (ni (List.length p4) - 1))) (D.agg (List.take 1 l26 ++ [D.dead] ++ List.drop 2 l26))) (0 + Int.toNat (IntKind.wrap IntKind.i64 (IntKind.wrap IntKind.i64 (ni (List.length p4) - 1) - 1))) (D.agg (List.take 1 l40 ++ [D.dead] ++ List.drop 2 l40))))) (oget (List.set (List.set p4 (Int.toNat (IntKind.wrap IntKind.i64 (ni (List.length p4) - 1))) (D.agg (List.take 1 l26 ++ [D.dead] ++ List.drop 2 l26))) (0 + Int.toNat (IntKind.wrap IntKind.i64 (IntKind.wrap IntKind.i64 (ni (List.length p4) - 1) - 1))) (D.agg (List.take 1 l40 ++ [D.dead] ++ List.drop 2 l40))) (0 + Int.toNat (IntKind.wrap IntKind.i64 (IntKind.wrap IntKind.i64 (ni (List.length p4) - 1) - 1))) fun x42 =>
                         asAgg x42 fun l43 => nam (List.set (List.set (List.set p4 (Int.toNat (IntKind.wrap IntKind.i64 (ni (List.length p4) - 1))) (D.agg (List.take 1 l26 ++ [D.dead] ++ List.drop 2 l26))) (0 + Int.toNat (IntKind.wrap IntKind.i64 (IntKind.wrap IntKind.i64 (ni (List.length p4) - 1) - 1))) (D.agg (List.take 1 l40 ++ [D.dead] ++ List.drop 2 l40))) (0 + Int.toNat (IntKind.wrap IntKind.i64 (IntKind.wrap IntKind.i64 (ni (List.length p4) - 1) - 1)))
  (D.agg
    (List.take 1 l43 ++
        [D.os
            (TypeInfo.size (Tables.types (Program.toTables Try.prog))[3],
              match flat Try.prog (3) with
              | true => 0
              | false => 1)
            l41] ++
      List.drop 2 l43))) fun l44 =>
                           Lspec_Read_9v1 p0 (Int.toNat (IntKind.wrap IntKind.i64 (ni (List.length p4) - 1))) (IntKind.wrap IntKind.i64 (p1 + 1)) p2 p3 l44 l35)))))))))
      (ocall V 73 [(.int .u8 (bt p0 p1))] fun x45 l46 =>
       asB x45 fun b47 => unn l46 (br b47
         (Lspec_Read_27 p0 p1 (IntKind.wrap IntKind.i64 (ni (List.length p4) - 1)) p1 p2 p3 p4 p5)
         (ocall V 71 [(.agg [(.rs (5, 0) p2)])] fun x48 l49 =>
          asAgg x48 fun l50 => unc l50 fun x51 l52 => asOs (5, 0) x51 fun l53 => unn l52 (unn l49 (some ((.tup [(.agg [(.os (5, 0) l53)]), (.os (1, 0) p3), (.int .i64 (2)), (.int .i64 p1)]), []))))))))))
   (br (decide (ni (List.length p4) > 1))
    (ocall V 71 [(.agg [(.rs (5, 0) p2)])] fun x54 l55 =>
     asAgg x54 fun l56 => unc l56 fun x57 l58 => asOs (5, 0) x57 fun l59 => unn l58 (unn l55 (grd (decide (0 ≤ IntKind.wrap IntKind.i64 (ni (List.length p4) - 1)) && decide (IntKind.wrap IntKind.i64 (ni (List.length p4) - 1) < ni (List.length p4))) (oget p4 (Int.toNat (IntKind.wrap IntKind.i64 (ni (List.length p4) - 1))) fun x60 =>
         asAgg x60 fun l61 => oget l61 0 fun x62 =>
           asI .i64 x62 fun n63 => some ((.tup [(.agg [(.os (5, 0) l59)]), (.os (1, 0) p3), (.int .i64 (4)), (.int .i64 n63)]), [])))))
    (ocall V 67 [(.agg [(.rs (5, 0) p5)])] fun x64 l65 =>
     asB x64 fun b66 => unn l65 (br (!b66)
       (ocall V 71 [(.agg [(.rs (5, 0) p2)])] fun x67 l68 =>
        asAgg x67 fun l69 => unc l69 fun x70 l71 => asOs (5, 0) x70 fun l72 => unn l71 (unn l68 (some ((.tup [(.agg [(.os (5, 0) l72)]), (.os (1, 0) p3), (.int .i64 (6)), (.int .i64 (0))]), []))))
       (grd (decide (0 ≤ 0) && decide (0 < ni (List.length p4))) (oget p4 0 fun x73 =>
        asAgg x73 fun l74 => oget l74 1 fun x75 =>
          asOs (1, 0) x75 fun l76 => asAgg x73 fun l77 => grd (decide (ni (List.length ([] ++ l76)) ≤ LIM)) (nam ([] ++ l76) fun l78 =>
             some ((.tup [(.agg [(.os (5, 0) p5)]), (.os (1, 0) l78), (.int .i64 (0)), (.int .i64 (ni (ByteArray.size p0)))]), []))))))) := by
  exact (Rn_eq _ _ _).trans (by kernel_rfl)
theorem eimpl_wordNode (a0_ : ByteArray) : V 136 [.str a0_] =
  br (strEq a0_ { data := #[35, 116] })
   (some ((.tup [(.agg [(.int .i64 (2)), (.int .i64 (1)), (.str ({ data := #[] })), (.int .i64 (0)), (.int .i64 (0))]), (.bool true)]), []))
   (br (strEq a0_ { data := #[35, 102] })
    (some ((.tup [(.agg [(.int .i64 (2)), (.int .i64 (0)), (.str ({ data := #[] })), (.int .i64 (0)), (.int .i64 (0))]), (.bool true)]), []))
    (br (decide (ni (ByteArray.size a0_) > 1))
     (grd (decide (0 ≤ 0) && decide (0 < ni (ByteArray.size a0_))) (br (bt a0_ (0) == 45)
      (grd (decide (0 ≤ 1) && decide (1 < ni (ByteArray.size a0_))) (ocall V 165 [(.int .u8 (bt a0_ (1)))] fun x0 l1 =>
       asB x0 fun b2 => unn l1 (br b2
         (grd (cutOk (ByteArray.size a0_) (some (1)) none) (ocall V 166 [(.str (ByteArray.extract a0_ (Int.toNat (1)) (ByteArray.size a0_))), (.int .i64 (10))] fun x3 l4 =>
          asTup x3 fun l5 => unc l5 fun x6 l7 => asI .i64 x6 fun n8 => unc l7 fun x9 l10 => asB x9 fun b11 => unn l10 (unn l4 (br b11
                (br (decide (n8 ≤ 1000000000))
                 (br (decide (n8 > 0))
                  (some ((.tup [(.agg [(.int .i64 (3)), (.int .i64 (IntKind.wrap IntKind.i64 (-1 * n8))), (.str ({ data := #[] })), (.int .i64 (0)), (.int .i64 (0))]), (.bool true)]), []))
                  (some ((.tup [(.agg [(.int .i64 (3)), (.int .i64 (IntKind.wrap IntKind.i64 (-1 * n8))), (.str ({ data := #[] })), (.int .i64 (0)), (.int .i64 (0))]), (.bool false)]), [])))
                 (some ((.tup [(.agg [(.int .i64 (3)), (.int .i64 (IntKind.wrap IntKind.i64 (-1 * n8))), (.str ({ data := #[] })), (.int .i64 (0)), (.int .i64 (0))]), (.bool false)]), [])))
                (some ((.tup [(.agg [(.int .i64 (4)), (.int .i64 (0)), (.str a0_), (.int .i64 (0)), (.int .i64 (0))]), (.bool false)]), []))))))
         (ocall V 166 [(.str a0_), (.int .i64 (10))] fun x12 l13 =>
          asTup x12 fun l14 => unc l14 fun x15 l16 => asI .i64 x15 fun n17 => unc l16 fun x18 l19 => asB x18 fun b20 => unn l19 (unn l13 (br b20
                (br (decide (n17 ≤ 1000000000))
                 (br (decide (n17 > 0))
                  (some ((.tup [(.agg [(.int .i64 (3)), (.int .i64 (IntKind.wrap IntKind.i64 (1 * n17))), (.str ({ data := #[] })), (.int .i64 (0)), (.int .i64 (0))]), (.bool true)]), []))
                  (some ((.tup [(.agg [(.int .i64 (3)), (.int .i64 (IntKind.wrap IntKind.i64 (1 * n17))), (.str ({ data := #[] })), (.int .i64 (0)), (.int .i64 (0))]), (.bool true)]), [])))
                 (some ((.tup [(.agg [(.int .i64 (3)), (.int .i64 (IntKind.wrap IntKind.i64 (1 * n17))), (.str ({ data := #[] })), (.int .i64 (0)), (.int .i64 (0))]), (.bool false)]), [])))
                (ocall V 121 [(.str a0_)] fun x21 l22 =>
                 asB x21 fun b23 => unn l22 (some ((.tup [(.agg [(.int .i64 (4)), (.int .i64 (0)), (.str a0_), (.int .i64 (0)), (.int .i64 (0))]), (.bool b23)]), [])))))))))
      (ocall V 166 [(.str a0_), (.int .i64 (10))] fun x24 l25 =>
       asTup x24 fun l26 => unc l26 fun x27 l28 => asI .i64 x27 fun n29 => unc l28 fun x30 l31 => asB x30 fun b32 => unn l31 (unn l25 (br b32
             (br (decide (n29 ≤ 1000000000))
              (br (decide (n29 > 0))
               (some ((.tup [(.agg [(.int .i64 (3)), (.int .i64 (IntKind.wrap IntKind.i64 (1 * n29))), (.str ({ data := #[] })), (.int .i64 (0)), (.int .i64 (0))]), (.bool true)]), []))
               (some ((.tup [(.agg [(.int .i64 (3)), (.int .i64 (IntKind.wrap IntKind.i64 (1 * n29))), (.str ({ data := #[] })), (.int .i64 (0)), (.int .i64 (0))]), (.bool true)]), [])))
              (some ((.tup [(.agg [(.int .i64 (3)), (.int .i64 (IntKind.wrap IntKind.i64 (1 * n29))), (.str ({ data := #[] })), (.int .i64 (0)), (.int .i64 (0))]), (.bool false)]), [])))
             (ocall V 121 [(.str a0_)] fun x33 l34 =>
              asB x33 fun b35 => unn l34 (some ((.tup [(.agg [(.int .i64 (4)), (.int .i64 (0)), (.str a0_), (.int .i64 (0)), (.int .i64 (0))]), (.bool b35)]), []))))))))
     (ocall V 166 [(.str a0_), (.int .i64 (10))] fun x36 l37 =>
      asTup x36 fun l38 => unc l38 fun x39 l40 => asI .i64 x39 fun n41 => unc l40 fun x42 l43 => asB x42 fun b44 => unn l43 (unn l37 (br b44
            (br (decide (n41 ≤ 1000000000))
             (br (decide (n41 > 0))
              (some ((.tup [(.agg [(.int .i64 (3)), (.int .i64 (IntKind.wrap IntKind.i64 (1 * n41))), (.str ({ data := #[] })), (.int .i64 (0)), (.int .i64 (0))]), (.bool true)]), []))
              (some ((.tup [(.agg [(.int .i64 (3)), (.int .i64 (IntKind.wrap IntKind.i64 (1 * n41))), (.str ({ data := #[] })), (.int .i64 (0)), (.int .i64 (0))]), (.bool true)]), [])))
             (some ((.tup [(.agg [(.int .i64 (3)), (.int .i64 (IntKind.wrap IntKind.i64 (1 * n41))), (.str ({ data := #[] })), (.int .i64 (0)), (.int .i64 (0))]), (.bool false)]), [])))
            (ocall V 121 [(.str a0_)] fun x45 l46 =>
             asB x45 fun b47 => unn l46 (some ((.tup [(.agg [(.int .i64 (4)), (.int .i64 (0)), (.str a0_), (.int .i64 (0)), (.int .i64 (0))]), (.bool b47)]), [])))))))) := by
  exact (Vn_eq Try.func136 rfl _).trans (by kernel_rfl)
theorem eimpl_nodeOk (a0_0 : Int) (a0_1 : Int) (a0_2 : ByteArray) (a0_3 : Int) (a0_4 : Int) (a1_ : Int) : V 62 [.agg [.int .i64 a0_0, .int .i64 a0_1, .str a0_2, .int .i64 a0_3, .int .i64 a0_4], .int .i64 a1_] =
  br (a0_0 == 1)
   (ocall V 106 [(.int .i64 a0_1), (.int .i64 (0)), (.int .i64 (0))] fun x0 l1 =>
    asB x0 fun b2 => unn l1 (br b2
      (br (strEq a0_2 { data := #[] })
       (br (a0_3 == 0)
        (some ((.bool (a0_4 == 0)), []))
        (some ((.bool false), [])))
       (some ((.bool false), [])))
      (some ((.bool false), []))))
   (br (a0_0 == 2)
    (ocall V 106 [(.int .i64 a0_1), (.int .i64 (0)), (.int .i64 (1))] fun x3 l4 =>
     asB x3 fun b5 => unn l4 (br b5
       (br (strEq a0_2 { data := #[] })
        (br (a0_3 == 0)
         (some ((.bool (a0_4 == 0)), []))
         (some ((.bool false), [])))
        (some ((.bool false), [])))
       (some ((.bool false), []))))
    (br (a0_0 == 3)
     (ocall V 106 [(.int .i64 a0_1), (.int .i64 (-1000000000)), (.int .i64 (1000000000))] fun x6 l7 =>
      asB x6 fun b8 => unn l7 (br b8
        (br (strEq a0_2 { data := #[] })
         (br (a0_3 == 0)
          (some ((.bool (a0_4 == 0)), []))
          (some ((.bool false), [])))
         (some ((.bool false), [])))
        (some ((.bool false), []))))
     (br (a0_0 == 4)
      (ocall V 121 [(.str a0_2)] fun x9 l10 =>
       asB x9 fun b11 => unn l10 (ocall V 106 [(.int .i64 a0_1), (.int .i64 (0)), (.int .i64 (0))] fun x12 l13 =>
         asB x12 fun b14 => unn l13 (br b14
           (br b11
            (br (a0_3 == 0)
             (some ((.bool (a0_4 == 0)), []))
             (some ((.bool false), [])))
            (some ((.bool false), [])))
           (some ((.bool false), [])))))
      (br (a0_0 == 5)
       (ocall V 106 [(.int .i64 a0_3), (.int .i64 (0)), (.int .i64 (IntKind.wrap IntKind.i64 (a1_ - 1)))] fun x15 l16 =>
        asB x15 fun b17 => unn l16 (ocall V 106 [(.int .i64 a0_4), (.int .i64 (0)), (.int .i64 (IntKind.wrap IntKind.i64 (a1_ - 1)))] fun x18 l19 =>
          asB x18 fun b20 => unn l19 (ocall V 106 [(.int .i64 a0_1), (.int .i64 (0)), (.int .i64 (0))] fun x21 l22 =>
            asB x21 fun b23 => unn l22 (br b23
              (br (strEq a0_2 { data := #[] })
               (br b17
                (some ((.bool b20), []))
                (some ((.bool false), [])))
               (some ((.bool false), [])))
              (some ((.bool false), []))))))
       (br (a0_0 == 6)
        (ocall V 106 [(.int .i64 a0_3), (.int .i64 (0)), (.int .i64 (IntKind.wrap IntKind.i64 (a1_ - 1)))] fun x24 l25 =>
         asB x24 fun b26 => unn l25 (ocall V 106 [(.int .i64 a0_1), (.int .i64 (0)), (.int .i64 (1000000000))] fun x27 l28 =>
           asB x27 fun b29 => unn l28 (br b29
             (br (strEq a0_2 { data := #[] })
              (br b26
               (some ((.bool (a0_4 == 0)), []))
               (some ((.bool false), [])))
              (some ((.bool false), [])))
             (some ((.bool false), [])))))
        (br (a0_0 == 7)
         (ocall V 106 [(.int .i64 a0_3), (.int .i64 (0)), (.int .i64 (IntKind.wrap IntKind.i64 (a1_ - 1)))] fun x30 l31 =>
          asB x30 fun b32 => unn l31 (ocall V 106 [(.int .i64 a0_1), (.int .i64 (0)), (.int .i64 (0))] fun x33 l34 =>
            asB x33 fun b35 => unn l34 (br b35
              (br (strEq a0_2 { data := #[] })
               (br b32
                (some ((.bool (a0_4 == 0)), []))
                (some ((.bool false), [])))
               (some ((.bool false), [])))
              (some ((.bool false), [])))))
         (br (a0_0 == 8)
          (ocall V 106 [(.int .i64 a0_1), (.int .i64 (0)), (.int .i64 (99))] fun x36 l37 =>
           asB x36 fun b38 => unn l37 (br b38
             (br (strEq a0_2 { data := #[] })
              (br (a0_3 == 0)
               (some ((.bool (a0_4 == 0)), []))
               (some ((.bool false), [])))
              (some ((.bool false), [])))
             (some ((.bool false), []))))
          (br (a0_0 == 9)
           (ocall V 106 [(.int .i64 a0_1), (.int .i64 (0)), (.int .i64 (1000000000))] fun x39 l40 =>
            asB x39 fun b41 => unn l40 (br b41
              (br (strEq a0_2 { data := #[] })
               (br (a0_3 == 0)
                (some ((.bool (a0_4 == 0)), []))
                (some ((.bool false), [])))
               (some ((.bool false), [])))
              (some ((.bool false), []))))
           (some ((.bool false), [])))))))))) := by
  exact (Vn_eq Try.func62 rfl _).trans (by kernel_rfl)
theorem Limpl_reading_text_5_eq (p0 : ByteArray) (p1 : Int) (p2 : Int) (p3 : List D) (p4 : List D) (p5 : List D) : Limpl_reading_text_5 p0 p1 p2 p3 p4 p5 =
  br (decide (p2 < ni (ByteArray.size p0)))
   (grd (decide (0 ≤ p2) && decide (p2 < ni (ByteArray.size p0))) (ocall V 135 [(.int .u8 (bt p0 p2))] fun x22 l23 =>
    asB x22 fun b24 => unn l23 (br b24
      (Limpl_reading_text_5 p0 p1 (IntKind.wrap IntKind.i64 (p2 + 1)) p3 p4 p5)
      (grd (cutOk (ByteArray.size p0) (some p1) (some p2)) (ocall V 136 [(.str (ByteArray.extract p0 (Int.toNat p1) (Int.toNat p2)))] fun x25 l26 =>
       asTup x25 fun l27 => unc l27 fun x28 l29 => asAgg x28 fun l30 => unc l30 fun x31 l32 => asI .i64 x31 fun n33 => unc l32 fun x34 l35 => asI .i64 x34 fun n36 => unc l35 fun x37 l38 => asS x37 fun s39 => unc l38 fun x40 l41 => asI .i64 x40 fun n42 => unc l41 fun x43 l44 => asI .i64 x43 fun n45 => unn l44 (unc l29 fun x46 l47 => asB x46 fun b48 => unn l47 (unn l26 (br (!b48)
                       (some ((.tup [(.int .i64 (3)), (.int .i64 p1)]), [(.op [(.os (5, 0) p3), (.os (1, 2) p4), (.os (1, 0) p5)])]))
                       (ocall V 138 [(.op [(.os (5, 0) p3)]), (.agg [(.int .i64 n33), (.int .i64 n36), (.str s39), (.int .i64 n42), (.int .i64 n45)])] fun x49 l50 =>
                        asI .i64 x49 fun n51 => unc l50 fun x52 l53 => asOp x52 fun l54 => unc l54 fun x55 l56 => asOs (5, 0) x55 fun l57 => unn l56 (unn l53 (ocall V 137 [(.op [(.os (5, 0) l57), (.os (1, 2) p4), (.os (1, 0) p5)]), (.int .i64 n51)] fun x58 l59 =>
                              asTup x58 fun l60 => unn l60 (unc l59 fun x61 l62 => asOp x61 fun l63 => unc l63 fun x64 l65 => asOs (5, 0) x64 fun l66 => unc l65 fun x67 l68 => asOs (1, 2) x67 fun l69 => unc l68 fun x70 l71 => asOs (1, 0) x70 fun l72 => unn l71 (unn l62 (Limpl_reading_text_2 p0 p2 l66 l69 l72))))))))))))))
   (grd (cutOk (ByteArray.size p0) (some p1) (some p2)) (ocall V 136 [(.str (ByteArray.extract p0 (Int.toNat p1) (Int.toNat p2)))] fun x73 l74 =>
    asTup x73 fun l75 => unc l75 fun x76 l77 => asAgg x76 fun l78 => unc l78 fun x79 l80 => asI .i64 x79 fun n81 => unc l80 fun x82 l83 => asI .i64 x82 fun n84 => unc l83 fun x85 l86 => asS x85 fun s87 => unc l86 fun x88 l89 => asI .i64 x88 fun n90 => unc l89 fun x91 l92 => asI .i64 x91 fun n93 => unn l92 (unc l77 fun x94 l95 => asB x94 fun b96 => unn l95 (unn l74 (br (!b96)
                    (some ((.tup [(.int .i64 (3)), (.int .i64 p1)]), [(.op [(.os (5, 0) p3), (.os (1, 2) p4), (.os (1, 0) p5)])]))
                    (ocall V 138 [(.op [(.os (5, 0) p3)]), (.agg [(.int .i64 n81), (.int .i64 n84), (.str s87), (.int .i64 n90), (.int .i64 n93)])] fun x97 l98 =>
                     asI .i64 x97 fun n99 => unc l98 fun x100 l101 => asOp x100 fun l102 => unc l102 fun x103 l104 => asOs (5, 0) x103 fun l105 => unn l104 (unn l101 (ocall V 137 [(.op [(.os (5, 0) l105), (.os (1, 2) p4), (.os (1, 0) p5)]), (.int .i64 n99)] fun x106 l107 =>
                           asTup x106 fun l108 => unn l108 (unc l107 fun x109 l110 => asOp x109 fun l111 => unc l111 fun x112 l113 => asOs (5, 0) x112 fun l114 => unc l113 fun x115 l116 => asOs (1, 2) x115 fun l117 => unc l116 fun x118 l119 => asOs (1, 0) x118 fun l120 => unn l119 (unn l110 (Limpl_reading_text_2 p0 p2 l114 l117 l120))))))))))) := by
  exact (Rn_eq _ _ _).trans (by kernel_rfl)
theorem espec_l2DrawAt (a0_0 : List D) (a0_1 : Int) (a0_2 : Int) (a1_0 : List D) : V 66 [.op [.rs (1, 0) a0_0, .int .i64 a0_1, .int .i64 a0_2], .agg [.rs (5, 0) a1_0]] =
  br (ni (List.length a1_0) == 0)
   (ocall V 123 [(.op [(.rs (1, 0) a0_0), (.int .i64 a0_1), (.int .i64 a0_2)]), (.rs (1, 0) [(.int .i64 (-1)), (.int .i64 (0)), (.int .i64 (ni (List.length a1_0)))])] fun x0 l1 =>
    asI .i64 x0 fun n2 => unc l1 fun x3 l4 => asOp x3 fun l5 => unc l5 fun x6 l7 => asRs (1, 0) x6 fun l8 => unc l7 fun x9 l10 => asI .i64 x9 fun n11 => unc l10 fun x12 l13 => asI .i64 x12 fun n14 => unn l13 (unn l4 (some ((.int .i64 n2), [(.op [(.rs (1, 0) l8), (.int .i64 n11), (.int .i64 n14)])]))))
   (ocall V 63 [(.op [(.rs (1, 0) a0_0), (.int .i64 a0_1), (.int .i64 a0_2)]), (.int .i64 (20))] fun x15 l16 =>
    asB x15 fun b17 => unc l16 fun x18 l19 => asOp x18 fun l20 => unc l20 fun x21 l22 => asRs (1, 0) x21 fun l23 => unc l22 fun x24 l25 => asI .i64 x24 fun n26 => unc l25 fun x27 l28 => asI .i64 x27 fun n29 => unn l28 (unn l19 (br b17
              (ocall V 123 [(.op [(.rs (1, 0) l23), (.int .i64 n26), (.int .i64 n29)]), (.rs (1, 0) [(.int .i64 (-1)), (.int .i64 (0)), (.int .i64 (ni (List.length a1_0)))])] fun x30 l31 =>
               asI .i64 x30 fun n32 => unc l31 fun x33 l34 => asOp x33 fun l35 => unc l35 fun x36 l37 => asRs (1, 0) x36 fun l38 => unc l37 fun x39 l40 => asI .i64 x39 fun n41 => unc l40 fun x42 l43 => asI .i64 x42 fun n44 => unn l43 (unn l34 (some ((.int .i64 n32), [(.op [(.rs (1, 0) l38), (.int .i64 n41), (.int .i64 n44)])]))))
              (ocall V 124 [(.int .i64 (ni (List.length a1_0))), (.int .i64 (9))] fun x45 l46 =>
               asI .i64 x45 fun n47 => unn l46 (ocall V 85 [(.op [(.rs (1, 0) l23), (.int .i64 n26), (.int .i64 n29)]), (.int .i64 n47)] fun x48 l49 =>
                 asI .i64 x48 fun n50 => unc l49 fun x51 l52 => asOp x51 fun l53 => unc l53 fun x54 l55 => asRs (1, 0) x54 fun l56 => unc l55 fun x57 l58 => asI .i64 x57 fun n59 => unc l58 fun x60 l61 => asI .i64 x60 fun n62 => unn l61 (unn l52 (some ((.int .i64 (IntKind.wrap IntKind.i64 (IntKind.wrap IntKind.i64 (ni (List.length a1_0) - 1) - n50))), [(.op [(.rs (1, 0) l56), (.int .i64 n59), (.int .i64 n62)])])))))))) := by
  exact (Vn_eq Try.func66 rfl _).trans (by kernel_rfl)
theorem eimpl_reading_put (p : List D) (o : List D) (t : List D) (v : Int) : V 137 [.op [.os (5, 0) p, .os (1, 2) o, .os (1, 0) t], .int .i64 v] =
  grd (decide (0 ≤ IntKind.wrap IntKind.i64 (ni (List.length o) - 1)) && decide (IntKind.wrap IntKind.i64 (ni (List.length o) - 1) < ni (List.length o))) (oget o (Int.toNat (IntKind.wrap IntKind.i64 (ni (List.length o) - 1))) fun x0 =>
   asOs (1, 0) x0 fun l1 => grd (decide (ni (List.length (l1 ++ [D.int IntKind.i64 v])) ≤ LIM)) (nam (l1 ++ [D.int IntKind.i64 v]) fun l2 =>
     grd (decide (0 ≤ IntKind.wrap IntKind.i64 (ni (List.length o) - 1)) && decide (IntKind.wrap IntKind.i64 (ni (List.length o) - 1) < ni (List.length (List.set o (Int.toNat (IntKind.wrap IntKind.i64 (ni (List.length o) - 1))) D.dead)))) (oget (List.set o (Int.toNat (IntKind.wrap IntKind.i64 (ni (List.length o) - 1))) D.dead) (Int.toNat (IntKind.wrap IntKind.i64 (ni (List.length o) - 1))) fun _ =>
      nam (List.set (List.set o (Int.toNat (IntKind.wrap IntKind.i64 (ni (List.length o) - 1))) D.dead) (Int.toNat (IntKind.wrap IntKind.i64 (ni (List.length o) - 1)))
  (D.os
    (TypeInfo.size (Tables.types (Program.toTables Try.prog))[3],
      match flat Try.prog (3) with
      | true => 0
      | false => 1)
    l2)) fun l4 =>
       some ((.tup []), [(.op [(.os (5, 0) p), (.os (1, 2) l4), (.os (1, 0) t)])])))) := by
  exact (Vn_eq Try.func137 rfl _).trans (by kernel_rfl)
theorem espec_l3Num (a0_ : ByteArray) : V 130 [.str a0_] =
  br (decide (ni (ByteArray.size a0_) > 1))
   (grd (decide (0 ≤ 0) && decide (0 < ni (ByteArray.size a0_))) (br (bt a0_ (0) == 45)
    (grd (cutOk (ByteArray.size a0_) (some (1)) none) (br (decide (ni (ByteArray.size (ByteArray.extract a0_ (Int.toNat (1)) (ByteArray.size a0_))) > 10))
     (some ((.tup [(.int .i64 (0)), (.bool false)]), []))
     (br (ni (ByteArray.size (ByteArray.extract a0_ (Int.toNat (1)) (ByteArray.size a0_))) == 0)
      (some ((.tup [(.int .i64 (0)), (.bool false)]), []))
      (Lspec_l3Num_8 a0_ (ByteArray.extract a0_ (Int.toNat (1)) (ByteArray.size a0_)) (0) (0)))))
    (br (decide (ni (ByteArray.size a0_) > 10))
     (some ((.tup [(.int .i64 (0)), (.bool false)]), []))
     (br (ni (ByteArray.size a0_) == 0)
      (some ((.tup [(.int .i64 (0)), (.bool false)]), []))
      (Lspec_l3Num_8 a0_ a0_ (0) (0))))))
   (br (decide (ni (ByteArray.size a0_) > 10))
    (some ((.tup [(.int .i64 (0)), (.bool false)]), []))
    (br (ni (ByteArray.size a0_) == 0)
     (some ((.tup [(.int .i64 (0)), (.bool false)]), []))
     (Lspec_l3Num_8 a0_ a0_ (0) (0)))) := by
  exact (Vn_eq Try.func130 rfl _).trans (by kernel_rfl)
theorem elaws_FnWritten (a0_ : List D) : V 4 [.rs (1, 0) a0_] =
  ocall V 11 [(.rs (1, 0) a0_)] fun x0 l1 =>
   asB x0 fun b2 => unn l1 (br b2
     (some ((.bool true), []))
     (ocall V 19 [(.rs (1, 0) a0_)] fun x3 l4 =>
      asTup x3 fun l5 => unc l5 fun x6 l7 => asAgg x6 fun l8 => unc l8 fun x9 l10 => asAs (5, 0) x9 fun l11 => unn l10 (unc l7 fun x12 l13 => asI .i64 x12 fun n14 => unn l13 (unn l4 (ocall V 16 [(.agg [(.rs (5, 0) l11)]), (.int .i64 n14)] fun x15 l16 =>
              asS x15 fun s17 => unn l16 (ocall V 20 [(.agg [(.rs (5, 0) l11)]), (.int .i64 n14)] fun x18 l19 =>
                asS x18 fun s20 => unn l19 (br (!strEq s17 s20)
                  (some ((.bool false), []))
                  (Llaws_FnWritten_9 s17 (0) (0))))))))) := by
  exact (Vn_eq Try.func4 rfl _).trans (by kernel_rfl)
theorem espec_l1PickInt (a0_0 : List D) (a0_1 : Int) (a0_2 : Int) (a1_ : List D) : V 123 [.op [.rs (1, 0) a0_0, .int .i64 a0_1, .int .i64 a0_2], .rs (1, 0) a1_] =
  ocall V 85 [(.op [(.rs (1, 0) a0_0), (.int .i64 a0_1), (.int .i64 a0_2)]), (.int .i64 (ni (List.length a1_)))] fun x0 l1 =>
   asI .i64 x0 fun n2 => unc l1 fun x3 l4 => asOp x3 fun l5 => unc l5 fun x6 l7 => asRs (1, 0) x6 fun l8 => unc l7 fun x9 l10 => asI .i64 x9 fun n11 => unc l10 fun x12 l13 => asI .i64 x12 fun n14 => unn l13 (unn l4 (grd (decide (0 ≤ n2) && decide (n2 < ni (List.length a1_))) (oget a1_ (Int.toNat n2) fun x15 =>
             asI .i64 x15 fun n16 => some ((.int .i64 n16), [(.op [(.rs (1, 0) l8), (.int .i64 n11), (.int .i64 n14)])])))) := by
  exact (Vn_eq Try.func123 rfl _).trans (by kernel_rfl)
theorem espec_Write (a0_0 : List D) (a1_ : Int) : V 20 [.agg [.rs (5, 0) a0_0], .int .i64 a1_] =
  ocall V 67 [(.agg [(.rs (5, 0) a0_0)])] fun x0 l1 =>
   asB x0 fun b2 => unn l1 (br (!b2)
     (some ((.str ({ data := #[] })), []))
     (ocall V 68 [(.agg [(.rs (5, 0) a0_0)]), (.int .i64 a1_)] fun x3 l4 =>
      asB x3 fun b5 => unn l4 (br (!b5)
        (some ((.str ({ data := #[] })), []))
        (ocall V 69 [(.agg [(.rs (5, 0) a0_0)]), (.int .i64 a1_), (.str ({ data := #[] }))] fun x6 l7 =>
         asS x6 fun s8 => unn l7 (br (decide (ni (ByteArray.size s8) > 400))
           (some ((.str ({ data := #[] })), []))
           (some ((.str s8), []))))))) := by
  exact (Vn_eq Try.func20 rfl _).trans (by kernel_rfl)
theorem Limpl_Pool_list_3_eq (p0 : List D) (p1 : Int) (p2 : Int) (p3 : List D) : Limpl_Pool_list_3 p0 p1 p2 p3 =
  br (decide (p2 ≥ 0))
   (grd (decide (0 ≤ p2) && decide (p2 < ni (List.length p0))) (oget p0 (Int.toNat p2) fun x9 =>
    asI .i64 x9 fun n10 => ocall V 176 [(.op [(.os (5, 0) p3)]), (.int .i64 n10), (.int .i64 p1)] fun x11 l12 =>
      asI .i64 x11 fun n13 => unc l12 fun x14 l15 => asOp x14 fun l16 => unc l16 fun x17 l18 => asOs (5, 0) x17 fun l19 => unn l18 (unn l15 (Limpl_Pool_list_3 p0 n13 (IntKind.wrap IntKind.i64 (p2 - 1)) l19))))
   (some ((.int .i64 p1), [(.op [(.os (5, 0) p3)])])) := by
  exact (Rn_eq _ _ _).trans (by kernel_rfl)
theorem Lspec_l7Roots_2_eq (p0 : List D) (p1 : Int) (p2 : List D) : Lspec_l7Roots_2 p0 p1 p2 =
  br (decide (p1 < ni (List.length p0)))
   (grd (decide (0 ≤ p1) && decide (p1 < ni (List.length p0))) (oget p0 (Int.toNat p1) fun x0 =>
    asI .i64 x0 fun n1 => ocall V 68 [(.agg [(.rs (5, 0) p2)]), (.int .i64 n1)] fun x2 l3 =>
      asB x2 fun b4 => unn l3 (br (!b4)
        (some ((.bool false), []))
        (Lspec_l7Roots_2 p0 (IntKind.wrap IntKind.i64 (p1 + 1)) p2))))
   (ocall V 67 [(.agg [(.rs (5, 0) p2)])] fun x5 l6 =>
    asB x5 fun b7 => unn l6 (some ((.bool b7), []))) := by
  exact (Rn_eq _ _ _).trans (by kernel_rfl)
theorem Lspec_NameOk_2_eq (p0 : ByteArray) (p1 : Int) : Lspec_NameOk_2 p0 p1 =
  br (decide (p1 < ni (ByteArray.size p0)))
   (grd (decide (0 ≤ p1) && decide (p1 < ni (ByteArray.size p0))) (ocall V 128 [(.int .u8 (bt p0 p1))] fun x0 l1 =>
    asB x0 fun b2 => unn l1 (br (!b2)
      (some ((.bool false), []))
      (Lspec_NameOk_2 p0 (IntKind.wrap IntKind.i64 (p1 + 1))))))
   (ocall V 104 [(.int .i64 (ni (ByteArray.size p0))), (.int .i64 (1)), (.int .i64 (12))] fun x3 l4 =>
    asB x3 fun b5 => unn l4 (some ((.bool b5), []))) := by
  exact (Rn_eq _ _ _).trans (by kernel_rfl)
theorem eimpl_Pool_list (p : List D) (l : List D) : V 164 [.op [.os (5, 0) p], .rs (1, 0) l] =
  ocall V 138 [(.op [(.os (5, 0) p)]), (.agg [(.int .i64 (1)), (.int .i64 (0)), (.str ({ data := #[] })), (.int .i64 (0)), (.int .i64 (0))])] fun x0 l1 =>
   asI .i64 x0 fun n2 => unc l1 fun x3 l4 => asOp x3 fun l5 => unc l5 fun x6 l7 => asOs (5, 0) x6 fun l8 => unn l7 (unn l4 (Limpl_Pool_list_3 l n2 (IntKind.wrap IntKind.i64 (ni (List.length l) - 1)) l8)) := by
  exact (Vn_eq Try.func164 rfl _).trans (by kernel_rfl)
theorem espec_l3Digits (a0_ : Int) : V 126 [.int .i64 a0_] =
  br (decide (a0_ < 0))
   (ocall V 126 [(.int .i64 (IntKind.wrap IntKind.i64 (0 - a0_)))] fun x0 l1 =>
    asS x0 fun s2 => unn l1 (grd (decide (ni (ByteArray.size { data := #[45] } + ByteArray.size s2) ≤ LIM)) (some ((.str ({ data := #[45] } ++ s2)), []))))
   (br (a0_ == 0)
    (some ((.str ({ data := #[48] })), []))
    (Lspec_l3Digits_6 a0_ ({ data := #[] }))) := by
  exact (Vn_eq Try.func126 rfl _).trans (by kernel_rfl)
theorem espec_l7Reach (a0_0 : List D) (a1_ : List D) : V 117 [.agg [.rs (5, 0) a0_0], .rs (1, 0) a1_] =
  grd (decide (0 ≤ ni (List.length a0_0)) && decide (ni (List.length a0_0) ≤ LIM)) (Lspec_l7Reach_3 a1_ (0) a0_0 (List.replicate (Int.toNat (ni (List.length a0_0))) (D.bool false))) := by
  exact (Vn_eq Try.func117 rfl _).trans (by kernel_rfl)
theorem eimpl_isNode (a0_0 : List D) (a1_ : Int) : V 59 [.agg [.rs (5, 0) a0_0], .int .i64 a1_] =
  ocall V 106 [(.int .i64 a1_), (.int .i64 (0)), (.int .i64 (IntKind.wrap IntKind.i64 (ni (List.length a0_0) - 1)))] fun x0 l1 =>
   asB x0 fun b2 => unn l1 (some ((.bool b2), [])) := by
  exact (Vn_eq Try.func59 rfl _).trans (by kernel_rfl)
theorem eslices_Clone_impl_Node_impl_Node (a0_ : List D) : V 133 [.rs (5, 0) a0_] =
  nilb a0_
   (some ((.os (5, 0) []), []))
   (grd (decide (ni (List.length ([] ++ a0_)) ≤ LIM)) (nam ([] ++ a0_) fun l0 =>
    some ((.os (5, 0) l0), []))) := by
  exact (Vn_eq Try.func133 rfl _).trans (by kernel_rfl)
theorem espec_l1Min (a0_ : Int) (a1_ : Int) : V 124 [.int .i64 a0_, .int .i64 a1_] =
  br (decide (a0_ < a1_))
   (some ((.int .i64 a0_), []))
   (some ((.int .i64 a1_), [])) := by
  exact (Vn_eq Try.func124 rfl _).trans (by kernel_rfl)
theorem elaws_big (a0_ : List D) : V 11 [.rs (1, 0) a0_] =
  some ((.bool (decide (ni (List.length a0_) > 1048576))), []) := by
  exact (Vn_eq Try.func11 rfl _).trans (by kernel_rfl)
end Go.Eng
