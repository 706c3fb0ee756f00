/- the functions as the interpreter has them -/
import Derived.Test.YtgoidfkdnkjojaaGreatFn0
namespace Go.Eng
open Go.Proofs Go.Proofs.Tryz
set_option maxRecDepth 100000
theorem eimpl_Tidy (a0_0 : List D) (a0_1 : Int) (a0_2 : Int) (a0_3 : Int) (a0_4 : Int) (a0_5 : Int) (a0_6 : Int) (a0_7 : Int) : V 79 [.agg [.rs (5, 0) a0_0, .int .i64 a0_1, .int .i64 a0_2, .int .i64 a0_3, .int .i64 a0_4, .int .i64 a0_5, .int .i64 a0_6, .int .i64 a0_7]] =
  br (a0_5 == 1)
   (grd (decide (ni 4 ≤ LIM)) (ocall V 111 [(.agg [(.rs (5, 0) a0_0)]), (.rs (1, 0) [(.int .i64 a0_2), (.int .i64 a0_3), (.int .i64 a0_4), (.int .i64 a0_7)])] fun x0 l1 =>
    asB x0 fun b2 => unn l1 (br (!b2)
      (ocall V 99 [(.agg [(.rs (5, 0) a0_0), (.int .i64 a0_1), (.int .i64 a0_2), (.int .i64 a0_3), (.int .i64 a0_4), (.int .i64 a0_5), (.int .i64 a0_6), (.int .i64 a0_7)])] fun x3 l4 =>
       asAgg x3 fun l5 => unc l5 fun x6 l7 => asOs (5, 0) x6 fun l8 => unc l7 fun x9 l10 => asI .i64 x9 fun n11 => unc l10 fun x12 l13 => asI .i64 x12 fun n14 => unc l13 fun x15 l16 => asI .i64 x15 fun n17 => unc l16 fun x18 l19 => asI .i64 x18 fun n20 => unc l19 fun x21 l22 => asI .i64 x21 fun n23 => unc l22 fun x24 l25 => asI .i64 x24 fun n26 => unc l25 fun x27 l28 => asI .i64 x27 fun n29 => unn l28 (unn l4 (some ((.agg [(.os (5, 0) l8), (.int .i64 n11), (.int .i64 n14), (.int .i64 n17), (.int .i64 n20), (.int .i64 n23), (.int .i64 n26), (.int .i64 n29)]), []))))
      (ocall V 112 [(.agg [(.rs (5, 0) a0_0)]), (.rs (1, 0) [(.int .i64 a0_2), (.int .i64 a0_3), (.int .i64 a0_4), (.int .i64 a0_7)])] fun x30 l31 =>
       asTup x30 fun l32 => unc l32 fun x33 l34 => asAgg x33 fun l35 => unc l35 fun x36 l37 => asOs (5, 0) x36 fun l38 => unn l37 (unc l34 fun x39 l40 => asOs (1, 0) x39 fun l41 => unn l40 (unn l31 (grd (decide (0 ≤ 0) && decide (0 < ni (List.length l41))) (oget l41 0 fun x42 =>
               asI .i64 x42 fun n43 => grd (decide (0 ≤ 1) && decide (1 < ni (List.length l41))) (oget l41 1 fun x44 =>
                 asI .i64 x44 fun n45 => grd (decide (0 ≤ 2) && decide (2 < ni (List.length l41))) (oget l41 2 fun x46 =>
                   asI .i64 x46 fun n47 => grd (decide (0 ≤ 3) && decide (3 < ni (List.length l41))) (oget l41 3 fun x48 =>
                     asI .i64 x48 fun n49 => some ((.agg [(.os (5, 0) l38), (.int .i64 a0_1), (.int .i64 n43), (.int .i64 n45), (.int .i64 n47), (.int .i64 a0_5), (.int .i64 a0_6), (.int .i64 n49)]), []))))))))))))
   (br (a0_5 == 2)
    (grd (decide (ni 4 ≤ LIM)) (ocall V 111 [(.agg [(.rs (5, 0) a0_0)]), (.rs (1, 0) [(.int .i64 a0_2), (.int .i64 a0_3), (.int .i64 a0_4), (.int .i64 a0_7)])] fun x50 l51 =>
     asB x50 fun b52 => unn l51 (br (!b52)
       (ocall V 99 [(.agg [(.rs (5, 0) a0_0), (.int .i64 a0_1), (.int .i64 a0_2), (.int .i64 a0_3), (.int .i64 a0_4), (.int .i64 a0_5), (.int .i64 a0_6), (.int .i64 a0_7)])] fun x53 l54 =>
        asAgg x53 fun l55 => unc l55 fun x56 l57 => asOs (5, 0) x56 fun l58 => unc l57 fun x59 l60 => asI .i64 x59 fun n61 => unc l60 fun x62 l63 => asI .i64 x62 fun n64 => unc l63 fun x65 l66 => asI .i64 x65 fun n67 => unc l66 fun x68 l69 => asI .i64 x68 fun n70 => unc l69 fun x71 l72 => asI .i64 x71 fun n73 => unc l72 fun x74 l75 => asI .i64 x74 fun n76 => unc l75 fun x77 l78 => asI .i64 x77 fun n79 => unn l78 (unn l54 (some ((.agg [(.os (5, 0) l58), (.int .i64 n61), (.int .i64 n64), (.int .i64 n67), (.int .i64 n70), (.int .i64 n73), (.int .i64 n76), (.int .i64 n79)]), []))))
       (ocall V 112 [(.agg [(.rs (5, 0) a0_0)]), (.rs (1, 0) [(.int .i64 a0_2), (.int .i64 a0_3), (.int .i64 a0_4), (.int .i64 a0_7)])] fun x80 l81 =>
        asTup x80 fun l82 => unc l82 fun x83 l84 => asAgg x83 fun l85 => unc l85 fun x86 l87 => asOs (5, 0) x86 fun l88 => unn l87 (unc l84 fun x89 l90 => asOs (1, 0) x89 fun l91 => unn l90 (unn l81 (grd (decide (0 ≤ 0) && decide (0 < ni (List.length l91))) (oget l91 0 fun x92 =>
                asI .i64 x92 fun n93 => grd (decide (0 ≤ 1) && decide (1 < ni (List.length l91))) (oget l91 1 fun x94 =>
                  asI .i64 x94 fun n95 => grd (decide (0 ≤ 2) && decide (2 < ni (List.length l91))) (oget l91 2 fun x96 =>
                    asI .i64 x96 fun n97 => br (a0_5 == 2)
                      (grd (decide (0 ≤ 3) && decide (3 < ni (List.length l91))) (oget l91 3 fun x98 =>
                       asI .i64 x98 fun n99 => some ((.agg [(.os (5, 0) l88), (.int .i64 a0_1), (.int .i64 n93), (.int .i64 n95), (.int .i64 n97), (.int .i64 a0_5), (.int .i64 a0_6), (.int .i64 n99)]), [])))
                      (some ((.agg [(.os (5, 0) l88), (.int .i64 a0_1), (.int .i64 n93), (.int .i64 n95), (.int .i64 n97), (.int .i64 a0_5), (.int .i64 a0_6), (.int .i64 a0_7)]), []))))))))))))
    (ocall V 111 [(.agg [(.rs (5, 0) a0_0)]), (.rs (1, 0) [(.int .i64 a0_2), (.int .i64 a0_3), (.int .i64 a0_4)])] fun x100 l101 =>
     asB x100 fun b102 => unn l101 (br (!b102)
       (ocall V 99 [(.agg [(.rs (5, 0) a0_0), (.int .i64 a0_1), (.int .i64 a0_2), (.int .i64 a0_3), (.int .i64 a0_4), (.int .i64 a0_5), (.int .i64 a0_6), (.int .i64 a0_7)])] fun x103 l104 =>
        asAgg x103 fun l105 => unc l105 fun x106 l107 => asOs (5, 0) x106 fun l108 => unc l107 fun x109 l110 => asI .i64 x109 fun n111 => unc l110 fun x112 l113 => asI .i64 x112 fun n114 => unc l113 fun x115 l116 => asI .i64 x115 fun n117 => unc l116 fun x118 l119 => asI .i64 x118 fun n120 => unc l119 fun x121 l122 => asI .i64 x121 fun n123 => unc l122 fun x124 l125 => asI .i64 x124 fun n126 => unc l125 fun x127 l128 => asI .i64 x127 fun n129 => unn l128 (unn l104 (some ((.agg [(.os (5, 0) l108), (.int .i64 n111), (.int .i64 n114), (.int .i64 n117), (.int .i64 n120), (.int .i64 n123), (.int .i64 n126), (.int .i64 n129)]), []))))
       (ocall V 112 [(.agg [(.rs (5, 0) a0_0)]), (.rs (1, 0) [(.int .i64 a0_2), (.int .i64 a0_3), (.int .i64 a0_4)])] fun x130 l131 =>
        asTup x130 fun l132 => unc l132 fun x133 l134 => asAgg x133 fun l135 => unc l135 fun x136 l137 => asOs (5, 0) x136 fun l138 => unn l137 (unc l134 fun x139 l140 => asOs (1, 0) x139 fun l141 => unn l140 (unn l131 (grd (decide (0 ≤ 0) && decide (0 < ni (List.length l141))) (oget l141 0 fun x142 =>
                asI .i64 x142 fun n143 => grd (decide (0 ≤ 1) && decide (1 < ni (List.length l141))) (oget l141 1 fun x144 =>
                  asI .i64 x144 fun n145 => grd (decide (0 ≤ 2) && decide (2 < ni (List.length l141))) (oget l141 2 fun x146 =>
                    asI .i64 x146 fun n147 => br (a0_5 == 2)
                      (grd (decide (0 ≤ 3) && decide (3 < ni (List.length l141))) (oget l141 3 fun x148 =>
                       asI .i64 x148 fun n149 => some ((.agg [(.os (5, 0) l138), (.int .i64 a0_1), (.int .i64 n143), (.int .i64 n145), (.int .i64 n147), (.int .i64 a0_5), (.int .i64 a0_6), (.int .i64 n149)]), [])))
                      (some ((.agg [(.os (5, 0) l138), (.int .i64 a0_1), (.int .i64 n143), (.int .i64 n145), (.int .i64 n147), (.int .i64 a0_5), (.int .i64 a0_6), (.int .i64 a0_7)]), [])))))))))))) := by
  exact (Vn_eq Tryz.func79 rfl _).trans (by kernel_rfl)
theorem eimpl_nodeOk (a0_0 : Int) (a0_1 : Int) (a0_2 : ByteArray) (a0_3 : Int) (a0_4 : Int) (a1_ : Int) : V 128 [.agg [.int .i64 a0_0, .int .i64 a0_1, .str a0_2, .int .i64 a0_3, .int .i64 a0_4], .int .i64 a1_] =
  br (a0_0 == 1)
   (ocall V 93 [(.int .i64 a0_1), (.int .i64 (0)), (.int .i64 (0))] fun x0 l1 =>
    asB x0 fun b2 => unn l1 (br b2
      (br (strEq a0_2 { data := #[] })
       (br (a0_3 == 0)
        (some ((.bool (a0_4 == 0)), []))
        (some ((.bool false), [])))
       (some ((.bool false), [])))
      (some ((.bool false), []))))
   (br (a0_0 == 2)
    (ocall V 93 [(.int .i64 a0_1), (.int .i64 (0)), (.int .i64 (1))] fun x3 l4 =>
     asB x3 fun b5 => unn l4 (br b5
       (br (strEq a0_2 { data := #[] })
        (br (a0_3 == 0)
         (some ((.bool (a0_4 == 0)), []))
         (some ((.bool false), [])))
        (some ((.bool false), [])))
       (some ((.bool false), []))))
    (br (a0_0 == 3)
     (ocall V 93 [(.int .i64 a0_1), (.int .i64 (-1000000000)), (.int .i64 (1000000000))] fun x6 l7 =>
      asB x6 fun b8 => unn l7 (br b8
        (br (strEq a0_2 { data := #[] })
         (br (a0_3 == 0)
          (some ((.bool (a0_4 == 0)), []))
          (some ((.bool false), [])))
         (some ((.bool false), [])))
        (some ((.bool false), []))))
     (br (a0_0 == 4)
      (ocall V 120 [(.str a0_2)] fun x9 l10 =>
       asB x9 fun b11 => unn l10 (ocall V 93 [(.int .i64 a0_1), (.int .i64 (0)), (.int .i64 (0))] fun x12 l13 =>
         asB x12 fun b14 => unn l13 (br b14
           (br b11
            (br (a0_3 == 0)
             (some ((.bool (a0_4 == 0)), []))
             (some ((.bool false), [])))
            (some ((.bool false), [])))
           (some ((.bool false), [])))))
      (br (a0_0 == 5)
       (ocall V 93 [(.int .i64 a0_3), (.int .i64 (0)), (.int .i64 (IntKind.wrap IntKind.i64 (a1_ - 1)))] fun x15 l16 =>
        asB x15 fun b17 => unn l16 (ocall V 93 [(.int .i64 a0_4), (.int .i64 (0)), (.int .i64 (IntKind.wrap IntKind.i64 (a1_ - 1)))] fun x18 l19 =>
          asB x18 fun b20 => unn l19 (ocall V 93 [(.int .i64 a0_1), (.int .i64 (0)), (.int .i64 (0))] fun x21 l22 =>
            asB x21 fun b23 => unn l22 (br b23
              (br (strEq a0_2 { data := #[] })
               (br b17
                (some ((.bool b20), []))
                (some ((.bool false), [])))
               (some ((.bool false), [])))
              (some ((.bool false), []))))))
       (br (a0_0 == 6)
        (ocall V 93 [(.int .i64 a0_3), (.int .i64 (0)), (.int .i64 (IntKind.wrap IntKind.i64 (a1_ - 1)))] fun x24 l25 =>
         asB x24 fun b26 => unn l25 (ocall V 93 [(.int .i64 a0_1), (.int .i64 (0)), (.int .i64 (1000000000))] fun x27 l28 =>
           asB x27 fun b29 => unn l28 (br b29
             (br (strEq a0_2 { data := #[] })
              (br b26
               (some ((.bool (a0_4 == 0)), []))
               (some ((.bool false), [])))
              (some ((.bool false), [])))
             (some ((.bool false), [])))))
        (br (a0_0 == 7)
         (ocall V 93 [(.int .i64 a0_3), (.int .i64 (0)), (.int .i64 (IntKind.wrap IntKind.i64 (a1_ - 1)))] fun x30 l31 =>
          asB x30 fun b32 => unn l31 (ocall V 93 [(.int .i64 a0_1), (.int .i64 (0)), (.int .i64 (0))] fun x33 l34 =>
            asB x33 fun b35 => unn l34 (br b35
              (br (strEq a0_2 { data := #[] })
               (br b32
                (some ((.bool (a0_4 == 0)), []))
                (some ((.bool false), [])))
               (some ((.bool false), [])))
              (some ((.bool false), [])))))
         (br (a0_0 == 8)
          (ocall V 93 [(.int .i64 a0_1), (.int .i64 (0)), (.int .i64 (99))] fun x36 l37 =>
           asB x36 fun b38 => unn l37 (br b38
             (br (strEq a0_2 { data := #[] })
              (br (a0_3 == 0)
               (some ((.bool (a0_4 == 0)), []))
               (some ((.bool false), [])))
              (some ((.bool false), [])))
             (some ((.bool false), []))))
          (br (a0_0 == 9)
           (ocall V 93 [(.int .i64 a0_1), (.int .i64 (0)), (.int .i64 (1000000000))] fun x39 l40 =>
            asB x39 fun b41 => unn l40 (br b41
              (br (strEq a0_2 { data := #[] })
               (br (a0_3 == 0)
                (some ((.bool (a0_4 == 0)), []))
                (some ((.bool false), [])))
               (some ((.bool false), [])))
              (some ((.bool false), []))))
           (some ((.bool false), [])))))))))) := by
  exact (Vn_eq Tryz.func128 rfl _).trans (by kernel_rfl)
theorem espec_MachineOk (a0_0 : List D) (a0_1 : List D) (a0_2 : List D) (a1_0 : List D) (a1_1 : Int) (a1_2 : Int) (a1_3 : Int) (a1_4 : Int) (a1_5 : Int) (a1_6 : Int) (a1_7 : Int) : V 70 [.agg [.rs (5, 0) a0_0, .rs (4, 0) a0_1, .rs (3, 0) a0_2], .agg [.rs (5, 0) a1_0, .int .i64 a1_1, .int .i64 a1_2, .int .i64 a1_3, .int .i64 a1_4, .int .i64 a1_5, .int .i64 a1_6, .int .i64 a1_7]] =
  ocall V 88 [(.agg [(.rs (5, 0) a0_0), (.rs (4, 0) a0_1), (.rs (3, 0) a0_2)])] fun x0 l1 =>
   asB x0 fun b2 => unn l1 (br (!b2)
     (some ((.bool false), []))
     (ocall V 69 [(.agg [(.rs (5, 0) a1_0)])] fun x3 l4 =>
      asB x3 fun b5 => unn l4 (br (!b5)
        (some ((.bool false), []))
        (ocall V 103 [(.agg [(.rs (5, 0) a1_0)]), (.int .i64 a1_2)] fun x6 l7 =>
         asB x6 fun b8 => unn l7 (br (!b8)
           (some ((.bool false), []))
           (ocall V 103 [(.agg [(.rs (5, 0) a1_0)]), (.int .i64 a1_3)] fun x9 l10 =>
            asB x9 fun b11 => unn l10 (br (!b11)
              (some ((.bool false), []))
              (ocall V 103 [(.agg [(.rs (5, 0) a1_0)]), (.int .i64 a1_4)] fun x12 l13 =>
               asB x12 fun b14 => unn l13 (br (!b14)
                 (some ((.bool false), []))
                 (ocall V 89 [(.int .i64 a1_1), (.int .i64 (0)), (.int .i64 (IntKind.wrap IntKind.i64 (ni (List.length a0_1) - 1)))] fun x15 l16 =>
                  asB x15 fun b17 => unn l16 (br (a1_5 == 0)
                    (br b17
                     (br (a1_6 == 0)
                      (some ((.bool (a1_7 == 0)), []))
                      (some ((.bool false), [])))
                     (some ((.bool false), [])))
                    (br (a1_5 == 1)
                     (br b17
                      (ocall V 89 [(.int .i64 a1_6), (.int .i64 (13)), (.int .i64 (19))] fun x18 l19 =>
                       asB x18 fun b20 => unn l19 (br b20
                         (br (a1_6 != 18)
                          (ocall V 103 [(.agg [(.rs (5, 0) a1_0)]), (.int .i64 a1_7)] fun x21 l22 =>
                           asB x21 fun b23 => unn l22 (some ((.bool b23), [])))
                          (some ((.bool false), [])))
                         (some ((.bool false), []))))
                      (some ((.bool false), [])))
                     (br (a1_5 == 2)
                      (br (a1_1 == 0)
                       (br (a1_6 == 0)
                        (ocall V 103 [(.agg [(.rs (5, 0) a1_0)]), (.int .i64 a1_7)] fun x24 l25 =>
                         asB x24 fun b26 => unn l25 (some ((.bool b26), [])))
                        (some ((.bool false), [])))
                       (some ((.bool false), [])))
                      (br (a1_5 == 3)
                       (br (a1_1 == 0)
                        (ocall V 89 [(.int .i64 a1_6), (.int .i64 (1)), (.int .i64 (7))] fun x27 l28 =>
                         asB x27 fun b29 => unn l28 (br b29
                           (some ((.bool (a1_7 == 0)), []))
                           (some ((.bool false), []))))
                        (some ((.bool false), [])))
                       (some ((.bool false), [])))))))))))))))) := by
  exact (Vn_eq Tryz.func70 rfl _).trans (by kernel_rfl)
theorem espec_MachinePack (a0_0 : List D) (a0_1 : List D) (a0_2 : List D) (a1_0 : List D) (a1_1 : Int) (a1_2 : Int) (a1_3 : Int) (a1_4 : Int) (a1_5 : Int) (a1_6 : Int) (a1_7 : Int) : V 32 [.agg [.rs (5, 0) a0_0, .rs (4, 0) a0_1, .rs (3, 0) a0_2], .agg [.rs (5, 0) a1_0, .int .i64 a1_1, .int .i64 a1_2, .int .i64 a1_3, .int .i64 a1_4, .int .i64 a1_5, .int .i64 a1_6, .int .i64 a1_7]] =
  ocall V 70 [(.agg [(.rs (5, 0) a0_0), (.rs (4, 0) a0_1), (.rs (3, 0) a0_2)]), (.agg [(.rs (5, 0) a1_0), (.int .i64 a1_1), (.int .i64 a1_2), (.int .i64 a1_3), (.int .i64 a1_4), (.int .i64 a1_5), (.int .i64 a1_6), (.int .i64 a1_7)])] fun x0 l1 =>
   asB x0 fun b2 => unn l1 (br (!b2)
     (some ((.tup [(.str ({ data := #[] })), (.bool false)]), []))
     (ocall V 71 [(.agg [(.rs (5, 0) a1_0), (.int .i64 a1_1), (.int .i64 a1_2), (.int .i64 a1_3), (.int .i64 a1_4), (.int .i64 a1_5), (.int .i64 a1_6), (.int .i64 a1_7)])] fun x3 l4 =>
      asAgg x3 fun l5 => unc l5 fun x6 l7 => asOs (5, 0) x6 fun l8 => unc l7 fun x9 l10 => asI .i64 x9 fun n11 => unc l10 fun x12 l13 => asI .i64 x12 fun n14 => unc l13 fun x15 l16 => asI .i64 x15 fun n17 => unc l16 fun x18 l19 => asI .i64 x18 fun n20 => unc l19 fun x21 l22 => asI .i64 x21 fun n23 => unc l22 fun x24 l25 => asI .i64 x24 fun n26 => unc l25 fun x27 l28 => asI .i64 x27 fun n29 => unn l28 (unn l4 (Lspec_MachinePack_7 (0) n11 n14 n17 n20 n23 n26 n29 [] ([D.int IntKind.i64 n11, D.int IntKind.i64 n23, D.int IntKind.i64 n26, D.int IntKind.i64 n14, D.int IntKind.i64 n17, D.int IntKind.i64 n20, D.int IntKind.i64 n29]) l8)))) := by
  exact (Vn_eq Tryz.func32 rfl _).trans (by kernel_rfl)
theorem Llaws_eqNodeS_4_eq (p0 : List D) (p1 : List D) (p2 : Int) : Llaws_eqNodeS_4 p0 p1 p2 =
  br (decide (p2 < ni (List.length p0)))
   (grd (decide (0 ≤ p2) && decide (p2 < ni (List.length p0))) (oget p0 (Int.toNat p2) fun x0 =>
    asAgg x0 fun l1 => unc l1 fun x2 l3 => asI .i64 x2 fun n4 => unc l3 fun x5 l6 => asI .i64 x5 fun n7 => unc l6 fun x8 l9 => asS x8 fun s10 => unc l9 fun x11 l12 => asI .i64 x11 fun n13 => unc l12 fun x14 l15 => asI .i64 x14 fun n16 => unn l15 (grd (decide (0 ≤ p2) && decide (p2 < ni (List.length p1))) (oget p1 (Int.toNat p2) fun x17 =>
                asAgg x17 fun l18 => unc l18 fun x19 l20 => asI .i64 x19 fun n21 => unc l20 fun x22 l23 => asI .i64 x22 fun n24 => unc l23 fun x25 l26 => asS x25 fun s27 => unc l26 fun x28 l29 => asI .i64 x28 fun n30 => unc l29 fun x31 l32 => asI .i64 x31 fun n33 => unn l32 (ocall V 113 [(.agg [(.int .i64 n4), (.int .i64 n7), (.str s10), (.int .i64 n13), (.int .i64 n16)]), (.agg [(.int .i64 n21), (.int .i64 n24), (.str s27), (.int .i64 n30), (.int .i64 n33)])] fun x34 l35 =>
                            asB x34 fun b36 => unn l35 (br (!b36)
                              (some ((.bool false), []))
                              (Llaws_eqNodeS_4 p0 p1 (IntKind.wrap IntKind.i64 (p2 + 1)))))))))
   (some ((.bool true), [])) := by
  exact (Rn_eq _ _ _).trans (by kernel_rfl)
theorem Llaws_toNodeS_3_eq (p0 : List D) (p1 : Int) (p2 : List D) : Llaws_toNodeS_3 p0 p1 p2 =
  br (decide (p1 < ni (List.length p0)))
   (grd (decide (0 ≤ p1) && decide (p1 < ni (List.length p0))) (oget p0 (Int.toNat p1) fun x0 =>
    asAgg x0 fun l1 => unc l1 fun x2 l3 => asI .i64 x2 fun n4 => unc l3 fun x5 l6 => asI .i64 x5 fun n7 => unc l6 fun x8 l9 => asS x8 fun s10 => unc l9 fun x11 l12 => asI .i64 x11 fun n13 => unc l12 fun x14 l15 => asI .i64 x14 fun n16 => unn l15 (ocall V 106 [(.agg [(.int .i64 n4), (.int .i64 n7), (.str s10), (.int .i64 n13), (.int .i64 n16)])] fun x17 l18 =>
                asAgg x17 fun l19 => unc l19 fun x20 l21 => asI .i64 x20 fun n22 => unc l21 fun x23 l24 => asI .i64 x23 fun n25 => unc l24 fun x26 l27 => asS x26 fun s28 => unc l27 fun x29 l30 => asI .i64 x29 fun n31 => unc l30 fun x32 l33 => asI .i64 x32 fun n34 => unn l33 (unn l18 (grd (decide (0 ≤ p1) && decide (p1 < ni (List.length p2))) (oget p2 (Int.toNat p1) fun _ =>
                            nam (List.set p2 (Int.toNat p1) (D.agg [D.int IntKind.i64 n22, D.int IntKind.i64 n25, D.str s28, D.int IntKind.i64 n31, D.int IntKind.i64 n34])) fun l36 =>
                             Llaws_toNodeS_3 p0 (IntKind.wrap IntKind.i64 (p1 + 1)) l36))))))
   (some ((.os (5, 0) p2), [])) := by
  exact (Rn_eq _ _ _).trans (by kernel_rfl)
theorem elaws_heldProc (a0_0 : Int) (a0_1 : List D) (a0_2 : Int) (a0_3 : Int) (a0_4 : Int) (a0_5 : Int) (a0_6 : Int) (a0_7 : Int) (a0_8 : Int) (a0_9 : List D) (a0_10 : List D) (a1_ : Int) : V 20 [.agg [.int .i64 a0_0, .rs (5, 0) a0_1, .int .i64 a0_2, .int .i64 a0_3, .int .i64 a0_4, .int .i64 a0_5, .int .i64 a0_6, .int .i64 a0_7, .int .i64 a0_8, .rs (1, 0) a0_9, .rs (1, 0) a0_10], .int .i64 a1_] =
  ocall V 15 [(.agg [(.rs (5, 0) a0_1), (.int .i64 a0_2), (.int .i64 a0_3), (.int .i64 a0_4), (.int .i64 a0_5), (.int .i64 a0_6), (.int .i64 a0_7), (.int .i64 a0_8)]), (.int .i64 a1_)] fun x0 l1 =>
   asI .i64 x0 fun n2 => unn l1 (br (decide (n2 < 0))
     (some ((.int .i64 (-1)), []))
     (ocall V 52 [(.rs (1, 0) a0_9), (.int .i64 n2)] fun x3 l4 =>
      asI .i64 x3 fun n5 => unn l4 (br (decide (n5 < 0))
        (some ((.int .i64 (-1)), []))
        (ocall V 52 [(.rs (1, 0) a0_10), (.int .i64 n5)] fun x6 l7 =>
         asI .i64 x6 fun n8 => unn l7 (br (decide (n8 < 0))
           (some ((.int .i64 (-1)), []))
           (some ((.int .i64 n8), []))))))) := by
  exact (Vn_eq Tryz.func20 rfl _).trans (by kernel_rfl)
theorem elaws_szProc (a0_0 : Int) (a0_1 : List D) (a0_2 : Int) (a0_3 : Int) (a0_4 : Int) (a0_5 : Int) (a0_6 : Int) (a0_7 : Int) (a0_8 : Int) (a0_9 : List D) (a0_10 : List D) (a1_ : Int) : V 21 [.agg [.int .i64 a0_0, .rs (5, 0) a0_1, .int .i64 a0_2, .int .i64 a0_3, .int .i64 a0_4, .int .i64 a0_5, .int .i64 a0_6, .int .i64 a0_7, .int .i64 a0_8, .rs (1, 0) a0_9, .rs (1, 0) a0_10], .int .i64 a1_] =
  ocall V 53 [(.agg [(.rs (5, 0) a0_1), (.int .i64 a0_2), (.int .i64 a0_3), (.int .i64 a0_4), (.int .i64 a0_5), (.int .i64 a0_6), (.int .i64 a0_7), (.int .i64 a0_8)]), (.int .i64 a1_)] fun x0 l1 =>
   asI .i64 x0 fun n2 => unn l1 (br (decide (n2 < 0))
     (some ((.int .i64 (-1)), []))
     (ocall V 54 [(.rs (1, 0) a0_9), (.int .i64 n2)] fun x3 l4 =>
      asI .i64 x3 fun n5 => unn l4 (br (decide (n5 < 0))
        (some ((.int .i64 (-1)), []))
        (ocall V 54 [(.rs (1, 0) a0_10), (.int .i64 n5)] fun x6 l7 =>
         asI .i64 x6 fun n8 => unn l7 (br (decide (n8 < 0))
           (some ((.int .i64 (-1)), []))
           (some ((.int .i64 n8), []))))))) := by
  exact (Vn_eq Tryz.func21 rfl _).trans (by kernel_rfl)
theorem espec_ValuePack (a0_0 : List D) (a1_ : Int) : V 116 [.agg [.rs (5, 0) a0_0], .int .i64 a1_] =
  ocall V 69 [(.agg [(.rs (5, 0) a0_0)])] fun x0 l1 =>
   asB x0 fun b2 => unn l1 (br (!b2)
     (some ((.tup [(.str ({ data := #[] })), (.bool false)]), []))
     (ocall V 103 [(.agg [(.rs (5, 0) a0_0)]), (.int .i64 a1_)] fun x3 l4 =>
      asB x3 fun b5 => unn l4 (br (!b5)
        (some ((.tup [(.str ({ data := #[] })), (.bool false)]), []))
        (ocall V 105 [(.agg [(.rs (5, 0) a0_0)]), (.rs (1, 0) [(.int .i64 a1_)])] fun x6 l7 =>
         asTup x6 fun l8 => unc l8 fun x9 l10 => asAgg x9 fun l11 => unc l11 fun x12 l13 => asOs (5, 0) x12 fun l14 => unn l13 (unc l10 fun x15 l16 => asOs (1, 0) x15 fun _ => unn l16 (unn l7 (ocall V 72 [(.agg [(.rs (5, 0) l14)])] fun x18 l19 =>
                 asOs (1, 0) x18 fun l20 => unn l19 (obytes l20 fun s21 => some ((.tup [(.str s21), (.bool true)]), []))))))))) := by
  exact (Vn_eq Tryz.func116 rfl _).trans (by kernel_rfl)
theorem elaws_markCode (a0_0 : List D) (a0_1 : List D) (a0_2 : List D) (a1_ : Int) : V 13 [.agg [.os (5, 0) a0_0, .os (4, 0) a0_1, .os (3, 0) a0_2], .int .i64 a1_] =
  ocall V 42 [(.agg [(.os (5, 0) a0_0)]), (.int .i64 a1_)] fun x0 l1 =>
   asI .i64 x0 fun n2 => unc l1 fun x3 l4 => asAgg x3 fun l5 => unc l5 fun x6 l7 => asOs (5, 0) x6 fun l8 => unn l7 (unn l4 (ocall V 43 [(.os (4, 0) a0_1), (.int .i64 n2)] fun x9 l10 =>
         asI .i64 x9 fun n11 => unc l10 fun x12 l13 => asOs (4, 0) x12 fun l14 => unn l13 (ocall V 44 [(.os (3, 0) a0_2), (.int .i64 n11)] fun x15 l16 =>
             asI .i64 x15 fun n17 => unc l16 fun x18 l19 => asOs (3, 0) x18 fun l20 => unn l19 (some ((.int .i64 n17), [(.agg [(.os (5, 0) l8), (.os (4, 0) l14), (.os (3, 0) l20)])]))))) := by
  exact (Vn_eq Tryz.func13 rfl _).trans (by kernel_rfl)
theorem Llaws_szInstrS_5_eq (p0 : List D) (p1 : Int) (p2 : Int) : Llaws_szInstrS_5 p0 p1 p2 =
  br (decide (p2 < ni (List.length p0)))
   (grd (decide (0 ≤ p2) && decide (p2 < ni (List.length p0))) (oget p0 (Int.toNat p2) fun x0 =>
    asAgg x0 fun l1 => unc l1 fun x2 l3 => asI .i64 x2 fun n4 => unc l3 fun x5 l6 => asI .i64 x5 fun n7 => unc l6 fun x8 l9 => asI .i64 x8 fun n10 => unc l9 fun x11 l12 => asS x11 fun s13 => unn l12 (ocall V 65 [(.agg [(.int .i64 n4), (.int .i64 n7), (.int .i64 n10), (.str s13)]), (.int .i64 p1)] fun x14 l15 =>
              asI .i64 x14 fun n16 => unn l15 (br (decide (n16 < 0))
                (some ((.int .i64 (-1)), []))
                (Llaws_szInstrS_5 p0 n16 (IntKind.wrap IntKind.i64 (p2 + 1)))))))
   (some ((.int .i64 p1), [])) := by
  exact (Rn_eq _ _ _).trans (by kernel_rfl)
theorem elaws_markMachine (a0_0 : List D) (a0_1 : Int) (a0_2 : Int) (a0_3 : Int) (a0_4 : Int) (a0_5 : Int) (a0_6 : Int) (a0_7 : Int) (a1_ : Int) : V 14 [.agg [.os (5, 0) a0_0, .int .i64 a0_1, .int .i64 a0_2, .int .i64 a0_3, .int .i64 a0_4, .int .i64 a0_5, .int .i64 a0_6, .int .i64 a0_7], .int .i64 a1_] =
  ocall V 42 [(.agg [(.os (5, 0) a0_0)]), (.int .i64 a1_)] fun x0 l1 =>
   asI .i64 x0 fun n2 => unc l1 fun x3 l4 => asAgg x3 fun l5 => unc l5 fun x6 l7 => asOs (5, 0) x6 fun l8 => unn l7 (unn l4 (some ((.int .i64 n2), [(.agg [(.os (5, 0) l8), (.int .i64 a0_1), (.int .i64 a0_2), (.int .i64 a0_3), (.int .i64 a0_4), (.int .i64 a0_5), (.int .i64 a0_6), (.int .i64 a0_7)])]))) := by
  exact (Vn_eq Tryz.func14 rfl _).trans (by kernel_rfl)
theorem Lspec_ProcOk_10_eq (p0 : Int) (p1 : Int) (p2 : List D) (p3 : Int) (p4 : Int) (p5 : Int) (p6 : Int) (p7 : Int) (p8 : Int) (p9 : Int) (p10 : List D) (p11 : List D) : Lspec_ProcOk_10 p0 p1 p2 p3 p4 p5 p6 p7 p8 p9 p10 p11 =
  br (decide (p0 < ni (List.length p11)))
   (grd (decide (0 ≤ p0) && decide (p0 < ni (List.length p11))) (oget p11 (Int.toNat p0) fun x23 =>
    asS x23 fun s24 => br (decide (ni (ByteArray.size s24) > 400))
      (some ((.bool false), []))
      (Lspec_ProcOk_10 (IntKind.wrap IntKind.i64 (p0 + 1)) p1 p2 p3 p4 p5 p6 p7 p8 p9 p10 p11)))
   (some ((.bool true), [])) := by
  exact (Rn_eq _ _ _).trans (by kernel_rfl)
theorem eimpl_copyMachine (a0_0 : List D) (a0_1 : Int) (a0_2 : Int) (a0_3 : Int) (a0_4 : Int) (a0_5 : Int) (a0_6 : Int) (a0_7 : Int) : V 99 [.agg [.rs (5, 0) a0_0, .int .i64 a0_1, .int .i64 a0_2, .int .i64 a0_3, .int .i64 a0_4, .int .i64 a0_5, .int .i64 a0_6, .int .i64 a0_7]] =
  ocall V 124 [(.agg [(.rs (5, 0) a0_0)])] fun x0 l1 =>
   asAgg x0 fun l2 => unc l2 fun x3 l4 => asOs (5, 0) x3 fun l5 => unn l4 (unn l1 (some ((.agg [(.os (5, 0) l5), (.int .i64 a0_1), (.int .i64 a0_2), (.int .i64 a0_3), (.int .i64 a0_4), (.int .i64 a0_5), (.int .i64 a0_6), (.int .i64 a0_7)]), []))) := by
  exact (Vn_eq Tryz.func99 rfl _).trans (by kernel_rfl)
theorem Lspec_l7Roots_2_eq (p0 : List D) (p1 : Int) (p2 : List D) : Lspec_l7Roots_2 p0 p1 p2 =
  br (decide (p1 < ni (List.length p0)))
   (grd (decide (0 ≤ p1) && decide (p1 < ni (List.length p0))) (oget p0 (Int.toNat p1) fun x0 =>
    asI .i64 x0 fun n1 => ocall V 103 [(.agg [(.rs (5, 0) p2)]), (.int .i64 n1)] fun x2 l3 =>
      asB x2 fun b4 => unn l3 (br (!b4)
        (some ((.bool false), []))
        (Lspec_l7Roots_2 p0 (IntKind.wrap IntKind.i64 (p1 + 1)) p2))))
   (ocall V 69 [(.agg [(.rs (5, 0) p2)])] fun x5 l6 =>
    asB x5 fun b7 => unn l6 (some ((.bool b7), []))) := by
  exact (Rn_eq _ _ _).trans (by kernel_rfl)
theorem elaws_eqInstr (a0_0 : Int) (a0_1 : Int) (a0_2 : Int) (a0_3 : ByteArray) (a1_0 : Int) (a1_1 : Int) (a1_2 : Int) (a1_3 : ByteArray) : V 82 [.agg [.int .i64 a0_0, .int .i64 a0_1, .int .i64 a0_2, .str a0_3], .agg [.int .i64 a1_0, .int .i64 a1_1, .int .i64 a1_2, .str a1_3]] =
  br (a0_0 != a1_0)
   (some ((.bool false), []))
   (br (a0_1 != a1_1)
    (some ((.bool false), []))
    (br (a0_2 != a1_2)
     (some ((.bool false), []))
     (br (!strEq a0_3 a1_3)
      (some ((.bool false), []))
      (some ((.bool true), []))))) := by
  exact (Vn_eq Tryz.func82 rfl _).trans (by kernel_rfl)
theorem Lspec_NameOk_2_eq (p0 : ByteArray) (p1 : Int) : Lspec_NameOk_2 p0 p1 =
  br (decide (p1 < ni (ByteArray.size p0)))
   (grd (decide (0 ≤ p1) && decide (p1 < ni (ByteArray.size p0))) (ocall V 132 [(.int .u8 (bt p0 p1))] fun x0 l1 =>
    asB x0 fun b2 => unn l1 (br (!b2)
      (some ((.bool false), []))
      (Lspec_NameOk_2 p0 (IntKind.wrap IntKind.i64 (p1 + 1))))))
   (ocall V 89 [(.int .i64 (ni (ByteArray.size p0))), (.int .i64 (1)), (.int .i64 (12))] fun x3 l4 =>
    asB x3 fun b5 => unn l4 (some ((.bool b5), []))) := by
  exact (Rn_eq _ _ _).trans (by kernel_rfl)
theorem LIndexFunc_rootsOk_2_eq (p0 : List D) (p1 : List D) (p2 : Int) (p3 : Int) : LIndexFunc_rootsOk_2 p0 p1 p2 p3 =
  br (decide (p3 < p2))
   (grd (decide (0 ≤ p3) && decide (p3 < ni (List.length p0))) (oget p0 (Int.toNat p3) fun x0 =>
    asI .i64 x0 fun n1 => ocall V 130 [(.int .i64 n1), (.bp [(.rs (5, 0) p1)])] fun x2 l3 =>
      asB x2 fun b4 => unn l3 (br b4
        (some ((.int .i64 p3), []))
        (LIndexFunc_rootsOk_2 p0 p1 p2 (IntKind.wrap IntKind.i64 (p3 + 1))))))
   (some ((.int .i64 (-1)), [])) := by
  exact (Rn_eq _ _ _).trans (by kernel_rfl)
theorem espec_l7Keep (a0_0 : List D) (a1_ : List D) : V 105 [.agg [.rs (5, 0) a0_0], .rs (1, 0) a1_] =
  ocall V 126 [(.agg [(.rs (5, 0) a0_0)]), (.rs (1, 0) a1_)] fun x0 l1 =>
   asOs (1, 0) x0 fun l2 => unn l1 (ocall V 125 [(.op [(.os (5, 0) [])]), (.agg [(.rs (5, 0) a0_0)]), (.rs (1, 0) l2)] fun x3 l4 =>
     asOs (1, 0) x3 fun l5 => unc l4 fun x6 l7 => asOp x6 fun l8 => unc l8 fun x9 l10 => asOs (5, 0) x9 fun l11 => unn l10 (unn l7 (Lspec_l7Keep_5 a1_ (0) l5 [] l11))) := by
  exact (Vn_eq Tryz.func105 rfl _).trans (by kernel_rfl)
theorem eimpl_Pool_moveIn (p : List D) (q : List D) (l : List D) : V 131 [.op [.os (5, 0) p], .agg [.rs (5, 0) q], .rs (1, 0) l] =
  grd (decide (0 ≤ ni (List.length q)) && decide (ni (List.length q) ≤ LIM)) (ocall V 138 [(.agg [(.rs (5, 0) q)]), (.rs (1, 0) l)] fun x0 l1 =>
   asOs (1, 0) x0 fun l2 => unn l1 (Limpl_Pool_moveIn_4 q (ni (List.length q)) (0) (List.replicate (Int.toNat (ni (List.length q))) (D.int IntKind.i64 (0))) l2 p)) := by
  exact (Vn_eq Tryz.func131 rfl _).trans (by kernel_rfl)
theorem Limpl_NameOk_4_eq (p0 : ByteArray) (p1 : Int) (p2 : Int) : Limpl_NameOk_4 p0 p1 p2 =
  br (decide (p2 < p1))
   (grd (decide (0 ≤ p2) && decide (p2 < ni (ByteArray.size p0))) (ocall V 133 [(.int .u8 (bt p0 p2))] fun x3 l4 =>
    asB x3 fun b5 => unn l4 (br (!b5)
      (some ((.bool false), []))
      (Limpl_NameOk_4 p0 p1 (IntKind.wrap IntKind.i64 (p2 + 1))))))
   (some ((.bool true), [])) := by
  exact (Rn_eq _ _ _).trans (by kernel_rfl)
theorem eimpl_rootsOk (a0_0 : List D) (a1_ : List D) : V 111 [.agg [.rs (5, 0) a0_0], .rs (1, 0) a1_] =
  ocall V 108 [(.agg [(.rs (5, 0) a0_0)])] fun x0 l1 =>
   asB x0 fun b2 => unn l1 (br b2
     (ocall V 129 [(.rs (1, 0) a1_), (.fn 130 [(.bp [(.rs (5, 0) a0_0)])])] fun x3 l4 =>
      asB x3 fun b5 => unn l4 (some ((.bool (!b5)), [])))
     (some ((.bool false), []))) := by
  exact (Vn_eq Tryz.func111 rfl _).trans (by kernel_rfl)
theorem eimpl_isValue (a0_ : ByteArray) : V 96 [.str a0_] =
  ocall V 122 [(.str a0_)] fun x0 l1 =>
   asTup x0 fun l2 => unc l2 fun x3 l4 => asAgg x3 fun l5 => unc l5 fun x6 l7 => asOs (5, 0) x6 fun _ => unn l7 (unc l4 fun x9 l10 => asI .i64 x9 fun _ => unc l10 fun x12 l13 => asB x12 fun b14 => unn l13 (unn l1 (some ((.bool b14), [])))) := by
  exact (Vn_eq Tryz.func96 rfl _).trans (by kernel_rfl)
theorem elaws_markPool (a0_0 : List D) (a1_ : Int) : V 42 [.agg [.os (5, 0) a0_0], .int .i64 a1_] =
  ocall V 84 [(.os (5, 0) a0_0), (.int .i64 a1_)] fun x0 l1 =>
   asI .i64 x0 fun n2 => unc l1 fun x3 l4 => asOs (5, 0) x3 fun l5 => unn l4 (some ((.int .i64 n2), [(.agg [(.os (5, 0) l5)])])) := by
  exact (Vn_eq Tryz.func42 rfl _).trans (by kernel_rfl)
theorem eimpl_PutText (a0_ : ByteArray) : V 61 [.str a0_] =
  ocall V 60 [(.int .i64 (ni (ByteArray.size a0_)))] fun x0 l1 =>
   asOs (1, 0) x0 fun l2 => unn l1 (grd (decide (ni (List.length (l2 ++ bytesD a0_)) ≤ LIM)) (nam (l2 ++ bytesD a0_) fun l3 =>
     some ((.os (1, 0) l3), []))) := by
  exact (Vn_eq Tryz.func61 rfl _).trans (by kernel_rfl)
theorem elaws_szInstrS (a0_ : List D) (a1_ : Int) : V 28 [.rs (4, 0) a0_, .int .i64 a1_] =
  br (decide (IntKind.wrap IntKind.i64 (a1_ - ni (List.length a0_)) < 0))
   (some ((.int .i64 (-1)), []))
   (Llaws_szInstrS_5 a0_ (IntKind.wrap IntKind.i64 (a1_ - ni (List.length a0_))) (0)) := by
  exact (Vn_eq Tryz.func28 rfl _).trans (by kernel_rfl)
theorem elaws_toStringS (a0_ : List D) : V 59 [.rs (1, 0) a0_] =
  grd (decide (0 ≤ ni (List.length a0_)) && decide (ni (List.length a0_) ≤ LIM)) (Llaws_toStringS_3 a0_ (0) (List.replicate (Int.toNat (ni (List.length a0_))) (D.str { data := #[] }))) := by
  exact (Vn_eq Tryz.func59 rfl _).trans (by kernel_rfl)
theorem elaws_toInstr (a0_0 : Int) (a0_1 : Int) (a0_2 : Int) (a0_3 : ByteArray) : V 74 [.agg [.int .i64 a0_0, .int .i64 a0_1, .int .i64 a0_2, .str a0_3]] =
  some ((.agg [(.int .i64 a0_0), (.int .i64 a0_1), (.int .i64 a0_2), (.str a0_3)]), []) := by
  exact (Vn_eq Tryz.func74 rfl _).trans (by kernel_rfl)
theorem elaws_eqStringS (a0_ : List D) (a1_ : List D) : V 50 [.rs (1, 0) a0_, .rs (1, 0) a1_] =
  br (ni (List.length a0_) != ni (List.length a1_))
   (some ((.bool false), []))
   (Llaws_eqStringS_4 a0_ a1_ (0)) := by
  exact (Vn_eq Tryz.func50 rfl _).trans (by kernel_rfl)
theorem erootsOk_1 (r : Int) (p : List D) : V 130 [.int .i64 r, .bp [.rs (5, 0) p]] =
  ocall V 109 [(.agg [(.rs (5, 0) p)]), (.int .i64 r)] fun x0 l1 =>
   asB x0 fun b2 => unn l1 (some ((.bool (!b2)), [])) := by
  exact (Vn_eq Tryz.func130 rfl _).trans (by kernel_rfl)
theorem espec_l8Nodes (a0_0 : List D) : V 72 [.agg [.rs (5, 0) a0_0]] =
  ocall V 55 [(.int .i64 (ni (List.length a0_0)))] fun x0 l1 =>
   asOs (1, 0) x0 fun l2 => unn l1 (Lspec_l8Nodes_3 (0) a0_0 l2) := by
  exact (Vn_eq Tryz.func72 rfl _).trans (by kernel_rfl)
theorem elaws_markText (a0_ : Int) : V 85 [.int .i64 a0_] =
  br (decide (a0_ ≤ 0))
   (some ((.str ({ data := #[109, 48] })), []))
   (Llaws_markText_4 a0_ ({ data := #[] })) := by
  exact (Vn_eq Tryz.func85 rfl _).trans (by kernel_rfl)
theorem eimpl_PutNum (a0_ : Int) : V 60 [.int .i64 a0_] =
  br (decide (a0_ < 0))
   (some ((.os (1, 0) []), []))
   (Limpl_PutNum_4 a0_ []) := by
  exact (Vn_eq Tryz.func60 rfl _).trans (by kernel_rfl)
theorem eimpl_PoolOk (a0_0 : List D) : V 108 [.agg [.rs (5, 0) a0_0]] =
  Limpl_PoolOk_2 a0_0 (ni (List.length a0_0)) (0) a0_0 := by
  exact (Vn_eq Tryz.func108 rfl _).trans (by kernel_rfl)
theorem elaws_heldNodeS (a0_ : List D) (a1_ : Int) : V 86 [.rs (5, 0) a0_, .int .i64 a1_] =
  Llaws_heldNodeS_2 a0_ a1_ (0) := by
  exact (Vn_eq Tryz.func86 rfl _).trans (by kernel_rfl)
end Go.Eng
