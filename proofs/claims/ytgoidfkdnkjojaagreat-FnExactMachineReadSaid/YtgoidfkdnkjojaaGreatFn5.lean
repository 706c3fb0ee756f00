/- the functions as the interpreter has them -/
import Derived.Test.YtgoidfkdnkjojaaGreatFn0
namespace Go.Eng
open Go.Proofs Go.Proofs.Tryz
set_option maxRecDepth 100000
theorem elaws_FnExactMachineRead (a0_0 : List D) (a0_1 : List D) (a0_2 : List D) (a1_ : ByteArray) : V 3 [.agg [.rs (5, 0) a0_0, .rs (4, 0) a0_1, .rs (3, 0) a0_2], .str a1_] =
  br (decide (ni (ByteArray.size a1_) > 1048576))
   (some ((.bool true), []))
   (ocall V 7 [(.agg [(.rs (5, 0) a0_0), (.rs (4, 0) a0_1), (.rs (3, 0) a0_2)]), (.int .i64 (1048576))] fun x0 l1 =>
    asI .i64 x0 fun n2 => unn l1 (br (decide (n2 < 0))
      (some ((.bool true), []))
      (ocall V 9 [(.agg [(.rs (5, 0) a0_0), (.rs (4, 0) a0_1), (.rs (3, 0) a0_2)])] fun x3 l4 =>
       asAgg x3 fun l5 => unc l5 fun x6 l7 => asOs (5, 0) x6 fun l8 => unc l7 fun x9 l10 => asOs (4, 0) x9 fun l11 => unc l10 fun x12 l13 => asOs (3, 0) x12 fun l14 => unn l13 (unn l4 (ocall V 8 [(.agg [(.rs (5, 0) l8), (.rs (4, 0) l11), (.rs (3, 0) l14)]), (.str a1_)] fun x15 l16 =>
               asTup x15 fun l17 => unc l17 fun x18 l19 => asAgg x18 fun l20 => unc l20 fun x21 l22 => asOs (5, 0) x21 fun l23 => unc l22 fun x24 l25 => asI .i64 x24 fun n26 => unc l25 fun x27 l28 => asI .i64 x27 fun n29 => unc l28 fun x30 l31 => asI .i64 x30 fun n32 => unc l31 fun x33 l34 => asI .i64 x33 fun n35 => unc l34 fun x36 l37 => asI .i64 x36 fun n38 => unc l37 fun x39 l40 => asI .i64 x39 fun n41 => unc l40 fun x42 l43 => asI .i64 x42 fun n44 => unn l43 (unc l19 fun x45 l46 => asB x45 fun b47 => unn l46 (unn l16 (ocall V 9 [(.agg [(.rs (5, 0) a0_0), (.rs (4, 0) a0_1), (.rs (3, 0) a0_2)])] fun x48 l49 =>
                                     asAgg x48 fun l50 => unc l50 fun x51 l52 => asOs (5, 0) x51 fun l53 => unc l52 fun x54 l55 => asOs (4, 0) x54 fun l56 => unc l55 fun x57 l58 => asOs (3, 0) x57 fun l59 => unn l58 (unn l49 (ocall V 10 [(.agg [(.rs (5, 0) l53), (.rs (4, 0) l56), (.rs (3, 0) l59)]), (.str a1_)] fun x60 l61 =>
                                             asTup x60 fun l62 => unc l62 fun x63 l64 => asAgg x63 fun l65 => unc l65 fun x66 l67 => asOs (5, 0) x66 fun l68 => unc l67 fun x69 l70 => asI .i64 x69 fun n71 => unc l70 fun x72 l73 => asI .i64 x72 fun n74 => unc l73 fun x75 l76 => asI .i64 x75 fun n77 => unc l76 fun x78 l79 => asI .i64 x78 fun n80 => unc l79 fun x81 l82 => asI .i64 x81 fun n83 => unc l82 fun x84 l85 => asI .i64 x84 fun n86 => unc l85 fun x87 l88 => asI .i64 x87 fun n89 => unn l88 (unc l64 fun x90 l91 => asB x90 fun b92 => unn l91 (unn l61 (ocall V 11 [(.agg [(.rs (5, 0) l68), (.int .i64 n71), (.int .i64 n74), (.int .i64 n77), (.int .i64 n80), (.int .i64 n83), (.int .i64 n86), (.int .i64 n89)]), (.agg [(.rs (5, 0) l23), (.int .i64 n26), (.int .i64 n29), (.int .i64 n32), (.int .i64 n35), (.int .i64 n38), (.int .i64 n41), (.int .i64 n44)])] fun x93 l94 =>
                                                                   asB x93 fun b95 => unn l94 (br (!b95)
                                                                     (some ((.bool false), []))
                                                                     (br (!b92 == b47)
                                                                      (some ((.bool false), []))
                                                                      (ocall V 9 [(.agg [(.rs (5, 0) a0_0), (.rs (4, 0) a0_1), (.rs (3, 0) a0_2)])] fun x96 l97 =>
                                                                       asAgg x96 fun l98 => unc l98 fun x99 l100 => asOs (5, 0) x99 fun l101 => unc l100 fun x102 l103 => asOs (4, 0) x102 fun l104 => unc l103 fun x105 l106 => asOs (3, 0) x105 fun l107 => unn l106 (unn l97 (ocall V 12 [(.agg [(.rs (5, 0) l53), (.rs (4, 0) l56), (.rs (3, 0) l59)]), (.agg [(.rs (5, 0) l101), (.rs (4, 0) l104), (.rs (3, 0) l107)])] fun x108 l109 =>
                                                                               asB x108 fun b110 => unn l109 (br (!b110)
                                                                                 (some ((.bool false), []))
                                                                                 (ocall V 13 [(.agg [(.os (5, 0) l53), (.os (4, 0) l56), (.os (3, 0) l59)]), (.int .i64 (1))] fun x111 l112 =>
                                                                                  asI .i64 x111 fun n113 => unc l112 fun x114 l115 => asAgg x114 fun l116 => unc l116 fun x117 l118 => asOs (5, 0) x117 fun _ => unc l118 fun x120 l121 => asOs (4, 0) x120 fun _ => unc l121 fun x123 l124 => asOs (3, 0) x123 fun _ => unn l124 (unn l115 (br (decide (n113 < 0))
                                                                                            (some ((.bool false), []))
                                                                                            (ocall V 11 [(.agg [(.rs (5, 0) l68), (.int .i64 n71), (.int .i64 n74), (.int .i64 n77), (.int .i64 n80), (.int .i64 n83), (.int .i64 n86), (.int .i64 n89)]), (.agg [(.rs (5, 0) l23), (.int .i64 n26), (.int .i64 n29), (.int .i64 n32), (.int .i64 n35), (.int .i64 n38), (.int .i64 n41), (.int .i64 n44)])] fun x126 l127 =>
                                                                                             asB x126 fun b128 => unn l127 (br (!b128)
                                                                                               (some ((.bool false), []))
                                                                                               (br (!b92 == b47)
                                                                                                (some ((.bool false), []))
                                                                                                (ocall V 14 [(.agg [(.os (5, 0) l68), (.int .i64 n71), (.int .i64 n74), (.int .i64 n77), (.int .i64 n80), (.int .i64 n83), (.int .i64 n86), (.int .i64 n89)]), (.int .i64 (1))] fun x129 l130 =>
                                                                                                 asI .i64 x129 fun n131 => unc l130 fun x132 l133 => asAgg x132 fun l134 => unc l134 fun x135 l136 => asOs (5, 0) x135 fun l137 => unc l136 fun x138 l139 => asI .i64 x138 fun _ => unc l139 fun x141 l142 => asI .i64 x141 fun _ => unc l142 fun x144 l145 => asI .i64 x144 fun _ => unc l145 fun x147 l148 => asI .i64 x147 fun _ => unc l148 fun x150 l151 => asI .i64 x150 fun _ => unc l151 fun x153 l154 => asI .i64 x153 fun _ => unc l154 fun x156 l157 => asI .i64 x156 fun _ => unn l157 (unn l133 (ocall V 15 [(.agg [(.rs (5, 0) l137), (.int .i64 n71), (.int .i64 n74), (.int .i64 n77), (.int .i64 n80), (.int .i64 n83), (.int .i64 n86), (.int .i64 n89)]), (.int .i64 (1))] fun x159 l160 =>
                                                                                                                     asI .i64 x159 fun n161 => unn l160 (br (decide (n161 < 0))
                                                                                                                       (some ((.bool false), []))
                                                                                                                       (br (n161 != n131)
                                                                                                                        (some ((.bool false), []))
                                                                                                                        (ocall V 9 [(.agg [(.rs (5, 0) a0_0), (.rs (4, 0) a0_1), (.rs (3, 0) a0_2)])] fun x162 l163 =>
                                                                                                                         asAgg x162 fun l164 => unc l164 fun x165 l166 => asOs (5, 0) x165 fun l167 => unc l166 fun x168 l169 => asOs (4, 0) x168 fun l170 => unc l169 fun x171 l172 => asOs (3, 0) x171 fun l173 => unn l172 (unn l163 (ocall V 10 [(.agg [(.rs (5, 0) l167), (.rs (4, 0) l170), (.rs (3, 0) l173)]), (.str a1_)] fun x174 l175 =>
                                                                                                                                 asTup x174 fun l176 => unc l176 fun x177 l178 => asAgg x177 fun l179 => unc l179 fun x180 l181 => asOs (5, 0) x180 fun l182 => unc l181 fun x183 l184 => asI .i64 x183 fun n185 => unc l184 fun x186 l187 => asI .i64 x186 fun n188 => unc l187 fun x189 l190 => asI .i64 x189 fun n191 => unc l190 fun x192 l193 => asI .i64 x192 fun n194 => unc l193 fun x195 l196 => asI .i64 x195 fun n197 => unc l196 fun x198 l199 => asI .i64 x198 fun n200 => unc l199 fun x201 l202 => asI .i64 x201 fun n203 => unn l202 (unc l178 fun x204 l205 => asB x204 fun b206 => unn l205 (unn l175 (ocall V 11 [(.agg [(.rs (5, 0) l182), (.int .i64 n185), (.int .i64 n188), (.int .i64 n191), (.int .i64 n194), (.int .i64 n197), (.int .i64 n200), (.int .i64 n203)]), (.agg [(.rs (5, 0) l23), (.int .i64 n26), (.int .i64 n29), (.int .i64 n32), (.int .i64 n35), (.int .i64 n38), (.int .i64 n41), (.int .i64 n44)])] fun x207 l208 =>
                                                                                                                                                       asB x207 fun b209 => unn l208 (br (!b209)
                                                                                                                                                         (some ((.bool false), []))
                                                                                                                                                         (br (!b206 == b47)
                                                                                                                                                          (some ((.bool false), []))
                                                                                                                                                          (ocall V 15 [(.agg [(.rs (5, 0) l137), (.int .i64 n71), (.int .i64 n74), (.int .i64 n77), (.int .i64 n80), (.int .i64 n83), (.int .i64 n86), (.int .i64 n89)]), (.int .i64 (1))] fun x210 l211 =>
                                                                                                                                                           asI .i64 x210 fun n212 => unn l211 (br (decide (n212 < 0))
                                                                                                                                                             (some ((.bool false), []))
                                                                                                                                                             (br (n212 != n131)
                                                                                                                                                              (some ((.bool false), []))
                                                                                                                                                              (some ((.bool true), []))))))))))))))))))))))))))))))))))))))))))) := by
  exact (Vn_eq Tryz.func3 rfl _).trans (by kernel_rfl)
theorem eimpl_instrOk (a0_0 : List D) (a0_1 : List D) (a0_2 : List D) (a1_ : Int) : V 119 [.agg [.rs (5, 0) a0_0, .rs (4, 0) a0_1, .rs (3, 0) a0_2], .int .i64 a1_] =
  grd (decide (0 ≤ a1_) && decide (a1_ < ni (List.length a0_1))) (oget a0_1 (Int.toNat a1_) fun x0 =>
   asAgg x0 fun l1 => unc l1 fun x2 l3 => asI .i64 x2 fun n4 => unc l3 fun x5 l6 => asI .i64 x5 fun n7 => unc l6 fun x8 l9 => asI .i64 x8 fun n10 => unc l9 fun x11 l12 => asS x11 fun s13 => unn l12 (br (n4 == 1)
             (ocall V 109 [(.agg [(.rs (5, 0) a0_0)]), (.int .i64 n7)] fun x14 l15 =>
              asB x14 fun b16 => unn l15 (br b16
                (br (n10 == 0)
                 (some ((.bool (strEq s13 { data := #[] })), []))
                 (some ((.bool false), [])))
                (some ((.bool false), []))))
             (br (n4 == 2)
              (ocall V 93 [(.int .i64 n7), (.int .i64 (0)), (.int .i64 (20))] fun x17 l18 =>
               asB x17 fun b19 => unn l18 (ocall V 93 [(.int .i64 n10), (.int .i64 (0)), (.int .i64 (3))] fun x20 l21 =>
                 asB x20 fun b22 => unn l21 (br b19
                   (br b22
                    (some ((.bool (strEq s13 { data := #[] })), []))
                    (some ((.bool false), [])))
                   (some ((.bool false), [])))))
              (br (n4 == 3)
               (ocall V 120 [(.str s13)] fun x23 l24 =>
                asB x23 fun b25 => unn l24 (br (n7 == 0)
                  (br (n10 == 0)
                   (some ((.bool b25), []))
                   (some ((.bool false), [])))
                  (some ((.bool false), []))))
               (br (n4 == 4)
                (br (n4 == 4)
                 (ocall V 93 [(.int .i64 n7), (.int .i64 (IntKind.wrap IntKind.i64 (a1_ + 1))), (.int .i64 (ni (List.length a0_1)))] fun x26 l27 =>
                  asB x26 fun b28 => unn l27 (br b28
                    (br (n10 == 0)
                     (some ((.bool (strEq s13 { data := #[] })), []))
                     (some ((.bool false), [])))
                    (some ((.bool false), []))))
                 (br (n4 == 6)
                  (ocall V 93 [(.int .i64 n7), (.int .i64 (IntKind.wrap IntKind.i64 (a1_ + 1))), (.int .i64 (IntKind.wrap IntKind.i64 (ni (List.length a0_1) - 1)))] fun x29 l30 =>
                   asB x29 fun b31 => unn l30 (ocall V 93 [(.int .i64 n10), (.int .i64 (0)), (.int .i64 (4))] fun x32 l33 =>
                     asB x32 fun b34 => unn l33 (br b31
                       (br b34
                        (some ((.bool (strEq s13 { data := #[] })), []))
                        (some ((.bool false), [])))
                       (some ((.bool false), [])))))
                  (br (n4 == 7)
                   (ocall V 93 [(.int .i64 n10), (.int .i64 (0)), (.int .i64 (4))] fun x35 l36 =>
                    asB x35 fun b37 => unn l36 (br (n7 == 0)
                      (br b37
                       (some ((.bool (strEq s13 { data := #[] })), []))
                       (some ((.bool false), [])))
                      (some ((.bool false), []))))
                   (br (n4 == 8)
                    (br (n4 == 8)
                     (br (n7 == 0)
                      (br (n10 == 0)
                       (some ((.bool (strEq s13 { data := #[] })), []))
                       (some ((.bool false), [])))
                      (some ((.bool false), [])))
                     (some ((.bool false), [])))
                    (br (n4 == 9)
                     (br (n7 == 0)
                      (br (n10 == 0)
                       (some ((.bool (strEq s13 { data := #[] })), []))
                       (some ((.bool false), [])))
                      (some ((.bool false), [])))
                     (some ((.bool false), [])))))))
                (br (n4 == 5)
                 (ocall V 93 [(.int .i64 n7), (.int .i64 (IntKind.wrap IntKind.i64 (a1_ + 1))), (.int .i64 (ni (List.length a0_1)))] fun x38 l39 =>
                  asB x38 fun b40 => unn l39 (br b40
                    (br (n10 == 0)
                     (some ((.bool (strEq s13 { data := #[] })), []))
                     (some ((.bool false), [])))
                    (some ((.bool false), []))))
                 (br (n4 == 6)
                  (ocall V 93 [(.int .i64 n7), (.int .i64 (IntKind.wrap IntKind.i64 (a1_ + 1))), (.int .i64 (IntKind.wrap IntKind.i64 (ni (List.length a0_1) - 1)))] fun x41 l42 =>
                   asB x41 fun b43 => unn l42 (ocall V 93 [(.int .i64 n10), (.int .i64 (0)), (.int .i64 (4))] fun x44 l45 =>
                     asB x44 fun b46 => unn l45 (br b43
                       (br b46
                        (some ((.bool (strEq s13 { data := #[] })), []))
                        (some ((.bool false), [])))
                       (some ((.bool false), [])))))
                  (br (n4 == 7)
                   (ocall V 93 [(.int .i64 n10), (.int .i64 (0)), (.int .i64 (4))] fun x47 l48 =>
                    asB x47 fun b49 => unn l48 (br (n7 == 0)
                      (br b49
                       (some ((.bool (strEq s13 { data := #[] })), []))
                       (some ((.bool false), [])))
                      (some ((.bool false), []))))
                   (br (n4 == 8)
                    (br (n4 == 8)
                     (br (n7 == 0)
                      (br (n10 == 0)
                       (some ((.bool (strEq s13 { data := #[] })), []))
                       (some ((.bool false), [])))
                      (some ((.bool false), [])))
                     (some ((.bool false), [])))
                    (br (n4 == 9)
                     (br (n7 == 0)
                      (br (n10 == 0)
                       (some ((.bool (strEq s13 { data := #[] })), []))
                       (some ((.bool false), [])))
                      (some ((.bool false), [])))
                     (some ((.bool false), [])))))))))))) := by
  exact (Vn_eq Tryz.func119 rfl _).trans (by kernel_rfl)
theorem espec_MachineRead (a0_0 : List D) (a0_1 : List D) (a0_2 : List D) (a1_ : ByteArray) : V 8 [.agg [.rs (5, 0) a0_0, .rs (4, 0) a0_1, .rs (3, 0) a0_2], .str a1_] =
  ocall V 30 [(.op [(.os (1, 0) (bytesD a1_)), (.int .i64 (0)), (.bool true)])] fun x0 l1 =>
   asI .i64 x0 fun n2 => unc l1 fun x3 l4 => asOp x3 fun l5 => unc l5 fun x6 l7 => asOs (1, 0) x6 fun l8 => unc l7 fun x9 l10 => asI .i64 x9 fun n11 => unc l10 fun x12 l13 => asB x12 fun b14 => unn l13 (unn l4 (ocall V 30 [(.op [(.os (1, 0) l8), (.int .i64 n11), (.bool b14)])] fun x15 l16 =>
             asI .i64 x15 fun n17 => unc l16 fun x18 l19 => asOp x18 fun l20 => unc l20 fun x21 l22 => asOs (1, 0) x21 fun l23 => unc l22 fun x24 l25 => asI .i64 x24 fun n26 => unc l25 fun x27 l28 => asB x27 fun b29 => unn l28 (unn l19 (ocall V 30 [(.op [(.os (1, 0) l23), (.int .i64 n26), (.bool b29)])] fun x30 l31 =>
                       asI .i64 x30 fun n32 => unc l31 fun x33 l34 => asOp x33 fun l35 => unc l35 fun x36 l37 => asOs (1, 0) x36 fun l38 => unc l37 fun x39 l40 => asI .i64 x39 fun n41 => unc l40 fun x42 l43 => asB x42 fun b44 => unn l43 (unn l34 (ocall V 30 [(.op [(.os (1, 0) l38), (.int .i64 n41), (.bool b44)])] fun x45 l46 =>
                                 asI .i64 x45 fun n47 => unc l46 fun x48 l49 => asOp x48 fun l50 => unc l50 fun x51 l52 => asOs (1, 0) x51 fun l53 => unc l52 fun x54 l55 => asI .i64 x54 fun n56 => unc l55 fun x57 l58 => asB x57 fun b59 => unn l58 (unn l49 (ocall V 30 [(.op [(.os (1, 0) l53), (.int .i64 n56), (.bool b59)])] fun x60 l61 =>
                                           asI .i64 x60 fun n62 => unc l61 fun x63 l64 => asOp x63 fun l65 => unc l65 fun x66 l67 => asOs (1, 0) x66 fun l68 => unc l67 fun x69 l70 => asI .i64 x69 fun n71 => unc l70 fun x72 l73 => asB x72 fun b74 => unn l73 (unn l64 (ocall V 30 [(.op [(.os (1, 0) l68), (.int .i64 n71), (.bool b74)])] fun x75 l76 =>
                                                     asI .i64 x75 fun n77 => unc l76 fun x78 l79 => asOp x78 fun l80 => unc l80 fun x81 l82 => asOs (1, 0) x81 fun l83 => unc l82 fun x84 l85 => asI .i64 x84 fun n86 => unc l85 fun x87 l88 => asB x87 fun b89 => unn l88 (unn l79 (ocall V 30 [(.op [(.os (1, 0) l83), (.int .i64 n86), (.bool b89)])] fun x90 l91 =>
                                                               asI .i64 x90 fun n92 => unc l91 fun x93 l94 => asOp x93 fun l95 => unc l95 fun x96 l97 => asOs (1, 0) x96 fun l98 => unc l97 fun x99 l100 => asI .i64 x99 fun n101 => unc l100 fun x102 l103 => asB x102 fun b104 => unn l103 (unn l94 (ocall V 31 [(.op [(.os (1, 0) l98), (.int .i64 n101), (.bool b104)])] fun x105 l106 =>
                                                                         asAgg x105 fun l107 => unc l107 fun x108 l109 => asOs (5, 0) x108 fun l110 => unn l109 (unc l106 fun x111 l112 => asOp x111 fun l113 => unc l113 fun x114 l115 => asOs (1, 0) x114 fun _ => unc l115 fun x117 l118 => asI .i64 x117 fun _ => unc l118 fun x120 l121 => asB x120 fun b122 => unn l121 (unn l112 (br (!b122)
                                                                                     (some ((.tup [(.agg [(.os (5, 0) []), (.int .i64 (0)), (.int .i64 (0)), (.int .i64 (0)), (.int .i64 (0)), (.int .i64 (0)), (.int .i64 (0)), (.int .i64 (0))]), (.bool false)]), []))
                                                                                     (ocall V 32 [(.agg [(.rs (5, 0) a0_0), (.rs (4, 0) a0_1), (.rs (3, 0) a0_2)]), (.agg [(.rs (5, 0) l110), (.int .i64 n2), (.int .i64 n47), (.int .i64 n62), (.int .i64 n77), (.int .i64 n17), (.int .i64 n32), (.int .i64 n92)])] fun x123 l124 =>
                                                                                      asTup x123 fun l125 => unc l125 fun x126 l127 => asS x126 fun s128 => unc l127 fun x129 l130 => asB x129 fun b131 => unn l130 (unn l124 (br (!b131)
                                                                                            (some ((.tup [(.agg [(.os (5, 0) []), (.int .i64 (0)), (.int .i64 (0)), (.int .i64 (0)), (.int .i64 (0)), (.int .i64 (0)), (.int .i64 (0)), (.int .i64 (0))]), (.bool false)]), []))
                                                                                            (br (!strEq s128 a1_)
                                                                                             (some ((.tup [(.agg [(.os (5, 0) []), (.int .i64 (0)), (.int .i64 (0)), (.int .i64 (0)), (.int .i64 (0)), (.int .i64 (0)), (.int .i64 (0)), (.int .i64 (0))]), (.bool false)]), []))
                                                                                             (some ((.tup [(.agg [(.os (5, 0) l110), (.int .i64 n2), (.int .i64 n47), (.int .i64 n62), (.int .i64 n77), (.int .i64 n17), (.int .i64 n32), (.int .i64 n92)]), (.bool true)]), []))))))))))))))))))))))) := by
  exact (Vn_eq Tryz.func8 rfl _).trans (by kernel_rfl)
theorem eimpl_MachineOk (a0_0 : List D) (a0_1 : List D) (a0_2 : List D) (a1_0 : List D) (a1_1 : Int) (a1_2 : Int) (a1_3 : Int) (a1_4 : Int) (a1_5 : Int) (a1_6 : Int) (a1_7 : Int) : V 78 [.agg [.rs (5, 0) a0_0, .rs (4, 0) a0_1, .rs (3, 0) a0_2], .agg [.rs (5, 0) a1_0, .int .i64 a1_1, .int .i64 a1_2, .int .i64 a1_3, .int .i64 a1_4, .int .i64 a1_5, .int .i64 a1_6, .int .i64 a1_7]] =
  ocall V 92 [(.agg [(.rs (5, 0) a0_0), (.rs (4, 0) a0_1), (.rs (3, 0) a0_2)])] fun x0 l1 =>
   asB x0 fun b2 => unn l1 (br (!b2)
     (some ((.bool false), []))
     (ocall V 108 [(.agg [(.rs (5, 0) a1_0)])] fun x3 l4 =>
      asB x3 fun b5 => unn l4 (br (!b5)
        (some ((.bool false), []))
        (ocall V 109 [(.agg [(.rs (5, 0) a1_0)]), (.int .i64 a1_2)] fun x6 l7 =>
         asB x6 fun b8 => unn l7 (br (!b8)
           (some ((.bool false), []))
           (ocall V 109 [(.agg [(.rs (5, 0) a1_0)]), (.int .i64 a1_3)] fun x9 l10 =>
            asB x9 fun b11 => unn l10 (br (!b11)
              (some ((.bool false), []))
              (ocall V 109 [(.agg [(.rs (5, 0) a1_0)]), (.int .i64 a1_4)] fun x12 l13 =>
               asB x12 fun b14 => unn l13 (br (!b14)
                 (some ((.bool false), []))
                 (br (a1_5 == 0)
                  (ocall V 110 [(.agg [(.rs (5, 0) a0_0), (.rs (4, 0) a0_1), (.rs (3, 0) a0_2)]), (.int .i64 a1_1)] fun x15 l16 =>
                   asB x15 fun b17 => unn l16 (br b17
                     (br (a1_6 == 0)
                      (some ((.bool (a1_7 == 0)), []))
                      (some ((.bool false), [])))
                     (some ((.bool false), []))))
                  (br (a1_5 == 1)
                   (ocall V 110 [(.agg [(.rs (5, 0) a0_0), (.rs (4, 0) a0_1), (.rs (3, 0) a0_2)]), (.int .i64 a1_1)] fun x18 l19 =>
                    asB x18 fun b20 => unn l19 (br b20
                      (ocall V 93 [(.int .i64 a1_6), (.int .i64 (13)), (.int .i64 (19))] fun x21 l22 =>
                       asB x21 fun b23 => unn l22 (br b23
                         (br (a1_6 != 18)
                          (ocall V 109 [(.agg [(.rs (5, 0) a1_0)]), (.int .i64 a1_7)] fun x24 l25 =>
                           asB x24 fun b26 => unn l25 (some ((.bool b26), [])))
                          (some ((.bool false), [])))
                         (some ((.bool false), []))))
                      (some ((.bool false), []))))
                   (br (a1_5 == 2)
                    (br (a1_1 == 0)
                     (br (a1_6 == 0)
                      (ocall V 109 [(.agg [(.rs (5, 0) a1_0)]), (.int .i64 a1_7)] fun x27 l28 =>
                       asB x27 fun b29 => unn l28 (some ((.bool b29), [])))
                      (some ((.bool false), [])))
                     (some ((.bool false), [])))
                    (br (a1_5 == 3)
                     (br (a1_1 == 0)
                      (ocall V 93 [(.int .i64 a1_6), (.int .i64 (1)), (.int .i64 (7))] fun x30 l31 =>
                       asB x30 fun b32 => unn l31 (br b32
                         (some ((.bool (a1_7 == 0)), []))
                         (some ((.bool false), []))))
                      (some ((.bool false), [])))
                     (some ((.bool false), []))))))))))))))) := by
  exact (Vn_eq Tryz.func78 rfl _).trans (by kernel_rfl)
theorem Lspec_l7Reach_7_eq (p0 : Int) (p1 : List D) (p2 : List D) : Lspec_l7Reach_7 p0 p1 p2 =
  br (decide (p0 ≥ 0))
   (grd (decide (0 ≤ p0) && decide (p0 < ni (List.length p1))) (oget p1 (Int.toNat p0) fun x4 =>
    asAgg x4 fun l5 => unc l5 fun x6 l7 => asI .i64 x6 fun n8 => unc l7 fun x9 l10 => asI .i64 x9 fun _ => unc l10 fun x12 l13 => asS x12 fun _ => unc l13 fun x15 l16 => asI .i64 x15 fun n17 => unc l16 fun x18 l19 => asI .i64 x18 fun n20 => unn l19 (grd (decide (0 ≤ p0) && decide (p0 < ni (List.length p2))) (oget p2 (Int.toNat p0) fun x21 =>
                asB x21 fun b22 => br (!b22)
                  (Lspec_l7Reach_7 (IntKind.wrap IntKind.i64 (p0 - 1)) p1 p2)
                  (br (n8 == 5)
                   (grd (decide (0 ≤ n17) && decide (n17 < ni (List.length p2))) (oget p2 (Int.toNat n17) fun _ =>
                    nam (List.set p2 (Int.toNat n17) (D.bool true)) fun l24 =>
                     grd (decide (0 ≤ n20) && decide (n20 < ni (List.length l24))) (oget l24 (Int.toNat n20) fun _ =>
                      nam (List.set l24 (Int.toNat n20) (D.bool true)) fun l26 =>
                       Lspec_l7Reach_7 (IntKind.wrap IntKind.i64 (p0 - 1)) p1 l26)))
                   (br (n8 == 6)
                    (br (n8 == 6)
                     (grd (decide (0 ≤ n17) && decide (n17 < ni (List.length p2))) (oget p2 (Int.toNat n17) fun _ =>
                      nam (List.set p2 (Int.toNat n17) (D.bool true)) fun l28 =>
                       Lspec_l7Reach_7 (IntKind.wrap IntKind.i64 (p0 - 1)) p1 l28))
                     (Lspec_l7Reach_7 (IntKind.wrap IntKind.i64 (p0 - 1)) p1 p2))
                    (br (n8 == 7)
                     (grd (decide (0 ≤ n17) && decide (n17 < ni (List.length p2))) (oget p2 (Int.toNat n17) fun _ =>
                      nam (List.set p2 (Int.toNat n17) (D.bool true)) fun l30 =>
                       Lspec_l7Reach_7 (IntKind.wrap IntKind.i64 (p0 - 1)) p1 l30))
                     (Lspec_l7Reach_7 (IntKind.wrap IntKind.i64 (p0 - 1)) p1 p2))))))))
   (some ((.os (1, 0) p2), [])) := by
  exact (Rn_eq _ _ _).trans (by kernel_rfl)
theorem Limpl_reach_8_eq (p0 : Int) (p1 : List D) (p2 : List D) : Limpl_reach_8 p0 p1 p2 =
  br (decide (p0 ≥ 0))
   (grd (decide (0 ≤ p0) && decide (p0 < ni (List.length p2))) (oget p2 (Int.toNat p0) fun x4 =>
    asB x4 fun b5 => br (!b5)
      (Limpl_reach_8 (IntKind.wrap IntKind.i64 (p0 - 1)) p1 p2)
      (grd (decide (0 ≤ p0) && decide (p0 < ni (List.length p1))) (oget p1 (Int.toNat p0) fun x6 =>
       asAgg x6 fun l7 => unc l7 fun x8 l9 => asI .i64 x8 fun n10 => unc l9 fun x11 l12 => asI .i64 x11 fun _ => unc l12 fun x14 l15 => asS x14 fun _ => unc l15 fun x17 l18 => asI .i64 x17 fun n19 => unc l18 fun x20 l21 => asI .i64 x20 fun n22 => unn l21 (br (n10 == 5)
                   (grd (decide (0 ≤ n19) && decide (n19 < ni (List.length p2))) (oget p2 (Int.toNat n19) fun _ =>
                    nam (List.set p2 (Int.toNat n19) (D.bool true)) fun l24 =>
                     grd (decide (0 ≤ n22) && decide (n22 < ni (List.length l24))) (oget l24 (Int.toNat n22) fun _ =>
                      nam (List.set l24 (Int.toNat n22) (D.bool true)) fun l26 =>
                       Limpl_reach_8 (IntKind.wrap IntKind.i64 (p0 - 1)) p1 l26)))
                   (br (n10 == 6)
                    (br (n10 == 6)
                     (grd (decide (0 ≤ n19) && decide (n19 < ni (List.length p2))) (oget p2 (Int.toNat n19) fun _ =>
                      nam (List.set p2 (Int.toNat n19) (D.bool true)) fun l28 =>
                       Limpl_reach_8 (IntKind.wrap IntKind.i64 (p0 - 1)) p1 l28))
                     (Limpl_reach_8 (IntKind.wrap IntKind.i64 (p0 - 1)) p1 p2))
                    (br (n10 == 7)
                     (grd (decide (0 ≤ n19) && decide (n19 < ni (List.length p2))) (oget p2 (Int.toNat n19) fun _ =>
                      nam (List.set p2 (Int.toNat n19) (D.bool true)) fun l30 =>
                       Limpl_reach_8 (IntKind.wrap IntKind.i64 (p0 - 1)) p1 l30))
                     (Limpl_reach_8 (IntKind.wrap IntKind.i64 (p0 - 1)) p1 p2))))))))
   (some ((.os (1, 0) p2), [])) := by
  exact (Rn_eq _ _ _).trans (by kernel_rfl)
theorem eimpl_ProcOk (a0_0 : List D) (a0_1 : List D) (a0_2 : List D) (a1_0 : Int) (a1_1 : List D) (a1_2 : Int) (a1_3 : Int) (a1_4 : Int) (a1_5 : Int) (a1_6 : Int) (a1_7 : Int) (a1_8 : Int) (a1_9 : List D) (a1_10 : List D) : V 49 [.agg [.rs (5, 0) a0_0, .rs (4, 0) a0_1, .rs (3, 0) a0_2], .agg [.int .i64 a1_0, .rs (5, 0) a1_1, .int .i64 a1_2, .int .i64 a1_3, .int .i64 a1_4, .int .i64 a1_5, .int .i64 a1_6, .int .i64 a1_7, .int .i64 a1_8, .rs (1, 0) a1_9, .rs (1, 0) a1_10]] =
  ocall V 93 [(.int .i64 a1_0), (.int .i64 (1)), (.int .i64 (1000000000))] fun x0 l1 =>
   asB x0 fun b2 => unn l1 (br (!b2)
     (some ((.bool false), []))
     (ocall V 78 [(.agg [(.rs (5, 0) a0_0), (.rs (4, 0) a0_1), (.rs (3, 0) a0_2)]), (.agg [(.rs (5, 0) a1_1), (.int .i64 a1_2), (.int .i64 a1_3), (.int .i64 a1_4), (.int .i64 a1_5), (.int .i64 a1_6), (.int .i64 a1_7), (.int .i64 a1_8)])] fun x3 l4 =>
      asB x3 fun b5 => unn l4 (br (!b5)
        (some ((.bool false), []))
        (br (decide (ni (List.length a1_9) > 20))
         (some ((.bool false), []))
         (br (decide (ni (List.length a1_10) > 40))
          (some ((.bool false), []))
          (ocall V 94 [(.rs (1, 0) a1_9), (.fn 95 [])] fun x6 l7 =>
           asB x6 fun b8 => unn l7 (br (!b8)
             (ocall V 94 [(.rs (1, 0) a1_10), (.fn 97 [])] fun x9 l10 =>
              asB x9 fun b11 => unn l10 (some ((.bool (!b11)), [])))
             (some ((.bool false), []))))))))) := by
  exact (Vn_eq Tryz.func49 rfl _).trans (by kernel_rfl)
theorem espec_ProcOk (a0_0 : List D) (a0_1 : List D) (a0_2 : List D) (a1_0 : Int) (a1_1 : List D) (a1_2 : Int) (a1_3 : Int) (a1_4 : Int) (a1_5 : Int) (a1_6 : Int) (a1_7 : Int) (a1_8 : Int) (a1_9 : List D) (a1_10 : List D) : V 47 [.agg [.rs (5, 0) a0_0, .rs (4, 0) a0_1, .rs (3, 0) a0_2], .agg [.int .i64 a1_0, .rs (5, 0) a1_1, .int .i64 a1_2, .int .i64 a1_3, .int .i64 a1_4, .int .i64 a1_5, .int .i64 a1_6, .int .i64 a1_7, .int .i64 a1_8, .rs (1, 0) a1_9, .rs (1, 0) a1_10]] =
  ocall V 89 [(.int .i64 a1_0), (.int .i64 (1)), (.int .i64 (1000000000))] fun x0 l1 =>
   asB x0 fun b2 => unn l1 (br (!b2)
     (some ((.bool false), []))
     (ocall V 70 [(.agg [(.rs (5, 0) a0_0), (.rs (4, 0) a0_1), (.rs (3, 0) a0_2)]), (.agg [(.rs (5, 0) a1_1), (.int .i64 a1_2), (.int .i64 a1_3), (.int .i64 a1_4), (.int .i64 a1_5), (.int .i64 a1_6), (.int .i64 a1_7), (.int .i64 a1_8)])] fun x3 l4 =>
      asB x3 fun b5 => unn l4 (br (!b5)
        (some ((.bool false), []))
        (br (decide (ni (List.length a1_9) > 20))
         (some ((.bool false), []))
         (br (decide (ni (List.length a1_10) > 40))
          (some ((.bool false), []))
          (Lspec_ProcOk_4 (0) a1_0 a1_1 a1_2 a1_3 a1_4 a1_5 a1_6 a1_7 a1_8 a1_9 a1_10)))))) := by
  exact (Vn_eq Tryz.func47 rfl _).trans (by kernel_rfl)
theorem espec_ValueRead (a0_ : ByteArray) : V 90 [.str a0_] =
  ocall V 31 [(.op [(.os (1, 0) (bytesD a0_)), (.int .i64 (0)), (.bool true)])] fun x0 l1 =>
   asAgg x0 fun l2 => unc l2 fun x3 l4 => asOs (5, 0) x3 fun l5 => unn l4 (unc l1 fun x6 l7 => asOp x6 fun l8 => unc l8 fun x9 l10 => asOs (1, 0) x9 fun _ => unc l10 fun x12 l13 => asI .i64 x12 fun _ => unc l13 fun x15 l16 => asB x15 fun b17 => unn l16 (unn l7 (br (!b17)
               (some ((.tup [(.agg [(.os (5, 0) [])]), (.int .i64 (0)), (.bool false)]), []))
               (br (ni (List.length l5) == 0)
                (some ((.tup [(.agg [(.os (5, 0) [])]), (.int .i64 (0)), (.bool false)]), []))
                (ocall V 116 [(.agg [(.rs (5, 0) l5)]), (.int .i64 (IntKind.wrap IntKind.i64 (ni (List.length l5) - 1)))] fun x18 l19 =>
                 asTup x18 fun l20 => unc l20 fun x21 l22 => asS x21 fun s23 => unc l22 fun x24 l25 => asB x24 fun _ => unn l25 (unn l19 (br (!strEq s23 a0_)
                       (some ((.tup [(.agg [(.os (5, 0) [])]), (.int .i64 (0)), (.bool false)]), []))
                       (some ((.tup [(.agg [(.os (5, 0) l5)]), (.int .i64 (IntKind.wrap IntKind.i64 (ni (List.length l5) - 1))), (.bool true)]), []))))))))) := by
  exact (Vn_eq Tryz.func90 rfl _).trans (by kernel_rfl)
theorem eimpl_ValuePack (a0_0 : List D) (a1_ : Int) : V 134 [.agg [.rs (5, 0) a0_0], .int .i64 a1_] =
  ocall V 108 [(.agg [(.rs (5, 0) a0_0)])] fun x0 l1 =>
   asB x0 fun b2 => unn l1 (br (!b2)
     (some ((.tup [(.str ({ data := #[] })), (.bool false)]), []))
     (ocall V 109 [(.agg [(.rs (5, 0) a0_0)]), (.int .i64 a1_)] fun x3 l4 =>
      asB x3 fun b5 => unn l4 (br (!b5)
        (some ((.tup [(.str ({ data := #[] })), (.bool false)]), []))
        (ocall V 112 [(.agg [(.rs (5, 0) a0_0)]), (.rs (1, 0) [(.int .i64 a1_)])] fun x6 l7 =>
         asTup x6 fun l8 => unc l8 fun x9 l10 => asAgg x9 fun l11 => unc l11 fun x12 l13 => asOs (5, 0) x12 fun l14 => unn l13 (unc l10 fun x15 l16 => asOs (1, 0) x15 fun _ => unn l16 (unn l7 (ocall V 80 [(.agg [(.rs (5, 0) l14)])] fun x18 l19 =>
                 asOs (1, 0) x18 fun l20 => unn l19 (obytes l20 fun s21 => some ((.tup [(.str s21), (.bool true)]), []))))))))) := by
  exact (Vn_eq Tryz.func134 rfl _).trans (by kernel_rfl)
theorem Limpl_MachinePack_6_eq (p0 : Int) (p1 : Int) (p2 : Int) (p3 : Int) (p4 : Int) (p5 : Int) (p6 : Int) (p7 : Int) (p8 : Int) (p9 : List D) (p10 : List D) (p11 : List D) : Limpl_MachinePack_6 p0 p1 p2 p3 p4 p5 p6 p7 p8 p9 p10 p11 =
  br (decide (p1 < p0))
   (grd (decide (0 ≤ p1) && decide (p1 < ni (List.length p10))) (oget p10 (Int.toNat p1) fun x30 =>
    asI .i64 x30 fun n31 => ocall V 60 [(.int .i64 n31)] fun x32 l33 =>
      asOs (1, 0) x32 fun l34 => unn l33 (grd (decide (ni (List.length (p9 ++ l34)) ≤ LIM)) (nam (p9 ++ l34) fun l35 =>
        Limpl_MachinePack_6 p0 (IntKind.wrap IntKind.i64 (p1 + 1)) p2 p3 p4 p5 p6 p7 p8 l35 p10 p11))))
   (ocall V 80 [(.agg [(.rs (5, 0) p11)])] fun x36 l37 =>
    asOs (1, 0) x36 fun l38 => unn l37 (grd (decide (ni (List.length (p9 ++ l38)) ≤ LIM)) (nam (p9 ++ l38) fun l39 =>
      obytes l39 fun s40 => some ((.tup [(.str s40), (.bool true)]), [])))) := by
  exact (Rn_eq _ _ _).trans (by kernel_rfl)
theorem Llaws_szNodeS_5_eq (p0 : List D) (p1 : Int) (p2 : Int) : Llaws_szNodeS_5 p0 p1 p2 =
  br (decide (p2 < ni (List.length p0)))
   (grd (decide (0 ≤ p2) && decide (p2 < ni (List.length p0))) (oget p0 (Int.toNat p2) fun x0 =>
    asAgg x0 fun l1 => unc l1 fun x2 l3 => asI .i64 x2 fun n4 => unc l3 fun x5 l6 => asI .i64 x5 fun n7 => unc l6 fun x8 l9 => asS x8 fun s10 => unc l9 fun x11 l12 => asI .i64 x11 fun n13 => unc l12 fun x14 l15 => asI .i64 x14 fun n16 => unn l15 (ocall V 101 [(.agg [(.int .i64 n4), (.int .i64 n7), (.str s10), (.int .i64 n13), (.int .i64 n16)]), (.int .i64 p1)] fun x17 l18 =>
                asI .i64 x17 fun n19 => unn l18 (br (decide (n19 < 0))
                  (some ((.int .i64 (-1)), []))
                  (Llaws_szNodeS_5 p0 n19 (IntKind.wrap IntKind.i64 (p2 + 1)))))))
   (some ((.int .i64 p1), [])) := by
  exact (Rn_eq _ _ _).trans (by kernel_rfl)
theorem elaws_szCode (a0_0 : List D) (a0_1 : List D) (a0_2 : List D) (a1_ : Int) : V 7 [.agg [.rs (5, 0) a0_0, .rs (4, 0) a0_1, .rs (3, 0) a0_2], .int .i64 a1_] =
  ocall V 27 [(.agg [(.rs (5, 0) a0_0)]), (.int .i64 a1_)] fun x0 l1 =>
   asI .i64 x0 fun n2 => unn l1 (br (decide (n2 < 0))
     (some ((.int .i64 (-1)), []))
     (ocall V 28 [(.rs (4, 0) a0_1), (.int .i64 n2)] fun x3 l4 =>
      asI .i64 x3 fun n5 => unn l4 (br (decide (n5 < 0))
        (some ((.int .i64 (-1)), []))
        (ocall V 29 [(.rs (3, 0) a0_2), (.int .i64 n5)] fun x6 l7 =>
         asI .i64 x6 fun n8 => unn l7 (br (decide (n8 < 0))
           (some ((.int .i64 (-1)), []))
           (some ((.int .i64 n8), []))))))) := by
  exact (Vn_eq Tryz.func7 rfl _).trans (by kernel_rfl)
theorem Llaws_szDefS_5_eq (p0 : List D) (p1 : Int) (p2 : Int) : Llaws_szDefS_5 p0 p1 p2 =
  br (decide (p2 < ni (List.length p0)))
   (grd (decide (0 ≤ p2) && decide (p2 < ni (List.length p0))) (oget p0 (Int.toNat p2) fun x0 =>
    asAgg x0 fun l1 => unc l1 fun x2 l3 => asS x2 fun s4 => unc l3 fun x5 l6 => asI .i64 x5 fun n7 => unc l6 fun x8 l9 => asI .i64 x8 fun n10 => unn l9 (ocall V 66 [(.agg [(.str s4), (.int .i64 n7), (.int .i64 n10)]), (.int .i64 p1)] fun x11 l12 =>
            asI .i64 x11 fun n13 => unn l12 (br (decide (n13 < 0))
              (some ((.int .i64 (-1)), []))
              (Llaws_szDefS_5 p0 n13 (IntKind.wrap IntKind.i64 (p2 + 1)))))))
   (some ((.int .i64 p1), [])) := by
  exact (Rn_eq _ _ _).trans (by kernel_rfl)
theorem Limpl_keep_5_eq (p0 : List D) (p1 : Int) (p2 : Int) (p3 : List D) (p4 : List D) (p5 : List D) : Limpl_keep_5 p0 p1 p2 p3 p4 p5 =
  br (decide (p2 < p1))
   (grd (decide (0 ≤ p2) && decide (p2 < ni (List.length p0))) (oget p0 (Int.toNat p2) fun x9 =>
    asI .i64 x9 fun n10 => grd (decide (0 ≤ n10) && decide (n10 < ni (List.length p3))) (oget p3 (Int.toNat n10) fun x11 =>
      asI .i64 x11 fun n12 => grd (decide (ni (List.length (p4 ++ [D.int IntKind.i64 n12])) ≤ LIM)) (nam (p4 ++ [D.int IntKind.i64 n12]) fun l13 =>
        Limpl_keep_5 p0 p1 (IntKind.wrap IntKind.i64 (p2 + 1)) p3 l13 p5))))
   (some ((.tup [(.agg [(.os (5, 0) p5)]), (.os (1, 0) p4)]), [])) := by
  exact (Rn_eq _ _ _).trans (by kernel_rfl)
theorem Lspec_l7Reach_3_eq (p0 : List D) (p1 : Int) (p2 : List D) (p3 : List D) : Lspec_l7Reach_3 p0 p1 p2 p3 =
  br (decide (p1 < ni (List.length p0)))
   (grd (decide (0 ≤ p1) && decide (p1 < ni (List.length p0))) (oget p0 (Int.toNat p1) fun x0 =>
    asI .i64 x0 fun n1 => grd (decide (0 ≤ n1) && decide (n1 < ni (List.length p3))) (oget p3 (Int.toNat n1) fun _ =>
      nam (List.set p3 (Int.toNat n1) (D.bool true)) fun l3 =>
       Lspec_l7Reach_3 p0 (IntKind.wrap IntKind.i64 (p1 + 1)) p2 l3)))
   (Lspec_l7Reach_7 (IntKind.wrap IntKind.i64 (ni (List.length p2) - 1)) p2 p3) := by
  exact (Rn_eq _ _ _).trans (by kernel_rfl)
theorem Llaws_markText_4_eq (p0 : Int) (p1 : ByteArray) : Llaws_markText_4 p0 p1 =
  br (decide (p0 > 0))
   (grd (!decide (10 = 0)) (obytes ([D.int IntKind.u8 (IntKind.wrap IntKind.u8 (IntKind.wrap IntKind.i64 (48 + Int.tmod p0 (10))))]) fun s0 => grd (decide (ni (ByteArray.size s0 + ByteArray.size p1) ≤ LIM)) (grd (!decide (10 = 0)) (Llaws_markText_4 (IntKind.wrap IntKind.i64 (Int.tdiv p0 (10))) (s0 ++ p1)))))
   (grd (decide (ni (ByteArray.size { data := #[109] } + ByteArray.size p1) ≤ LIM)) (some ((.str ({ data := #[109] } ++ p1)), []))) := by
  exact (Rn_eq _ _ _).trans (by kernel_rfl)
theorem eimpl_reader_num (b : List D) (i : Int) (k : Bool)  : V 36 [.op [.os (1, 0) b, .int .i64 i, .bool k]] =
  ocall V 76 [(.rs (1, 0) b), (.int .i64 i)] fun x0 l1 =>
   asTup x0 fun l2 => unc l2 fun x3 l4 => asI .i64 x3 fun n5 => unc l4 fun x6 l7 => asI .i64 x6 fun n8 => unc l7 fun x9 l10 => asB x9 fun b11 => unn l10 (unn l1 (br (!b11)
           (some ((.int .i64 (0)), [(.op [(.os (1, 0) b), (.int .i64 i), (.bool false)])]))
           (some ((.int .i64 n5), [(.op [(.os (1, 0) b), (.int .i64 n8), (.bool k)])])))) := by
  exact (Vn_eq Tryz.func36 rfl _).trans (by kernel_rfl)
theorem Llaws_heldStringS_2_eq (p0 : List D) (p1 : Int) (p2 : Int) : Llaws_heldStringS_2 p0 p1 p2 =
  br (decide (p2 < ni (List.length p0)))
   (grd (decide (0 ≤ p2) && decide (p2 < ni (List.length p0))) (oget p0 (Int.toNat p2) fun x0 =>
    asS x0 fun s1 => ocall V 85 [(.int .i64 p1)] fun x2 l3 =>
      asS x2 fun s4 => unn l3 (br (!strEq s1 s4)
        (some ((.int .i64 (-1)), []))
        (Llaws_heldStringS_2 p0 (IntKind.wrap IntKind.i64 (p1 + 1)) (IntKind.wrap IntKind.i64 (p2 + 1))))))
   (some ((.int .i64 p1), [])) := by
  exact (Rn_eq _ _ _).trans (by kernel_rfl)
theorem Llaws_toStringS_3_eq (p0 : List D) (p1 : Int) (p2 : List D) : Llaws_toStringS_3 p0 p1 p2 =
  br (decide (p1 < ni (List.length p0)))
   (grd (decide (0 ≤ p1) && decide (p1 < ni (List.length p0))) (oget p0 (Int.toNat p1) fun x0 =>
    asS x0 fun s1 => grd (decide (0 ≤ p1) && decide (p1 < ni (List.length p2))) (oget p2 (Int.toNat p1) fun _ =>
      nam (List.set p2 (Int.toNat p1) (D.str s1)) fun l3 =>
       Llaws_toStringS_3 p0 (IntKind.wrap IntKind.i64 (p1 + 1)) l3)))
   (some ((.os (1, 0) p2), [])) := by
  exact (Rn_eq _ _ _).trans (by kernel_rfl)
theorem Lspec_DefOf_2_eq (p0 : ByteArray) (p1 : Int) (p2 : List D) (p3 : List D) (p4 : List D) : Lspec_DefOf_2 p0 p1 p2 p3 p4 =
  br (decide (p1 < ni (List.length p4)))
   (grd (decide (0 ≤ p1) && decide (p1 < ni (List.length p4))) (oget p4 (Int.toNat p1) fun x0 =>
    asAgg x0 fun l1 => oget l1 0 fun x2 =>
      asS x2 fun s3 => br (strEq s3 p0)
        (some ((.int .i64 p1), []))
        (Lspec_DefOf_2 p0 (IntKind.wrap IntKind.i64 (p1 + 1)) p2 p3 p4)))
   (some ((.int .i64 (-1)), [])) := by
  exact (Rn_eq _ _ _).trans (by kernel_rfl)
theorem eimpl_reader_nodes (b : List D) (i : Int) (k : Bool)  : V 37 [.op [.os (1, 0) b, .int .i64 i, .bool k]] =
  ocall V 36 [(.op [(.os (1, 0) b), (.int .i64 i), (.bool k)])] fun x0 l1 =>
   asI .i64 x0 fun n2 => unc l1 fun x3 l4 => asOp x3 fun l5 => unc l5 fun x6 l7 => asOs (1, 0) x6 fun l8 => unc l7 fun x9 l10 => asI .i64 x9 fun n11 => unc l10 fun x12 l13 => asB x12 fun b14 => unn l13 (unn l4 (Limpl_reader_nodes_4 n2 (0) n11 b14 l8)) := by
  exact (Vn_eq Tryz.func37 rfl _).trans (by kernel_rfl)
theorem eimpl_keep (a0_0 : List D) (a1_ : List D) : V 112 [.agg [.rs (5, 0) a0_0], .rs (1, 0) a1_] =
  ocall V 131 [(.op [(.os (5, 0) [])]), (.agg [(.rs (5, 0) a0_0)]), (.rs (1, 0) a1_)] fun x0 l1 =>
   asOs (1, 0) x0 fun l2 => unc l1 fun x3 l4 => asOp x3 fun l5 => unc l5 fun x6 l7 => asOs (5, 0) x6 fun l8 => unn l7 (unn l4 (Limpl_keep_5 a1_ (ni (List.length a1_)) (0) l2 [] l8)) := by
  exact (Vn_eq Tryz.func112 rfl _).trans (by kernel_rfl)
theorem elaws_szInstr (a0_0 : Int) (a0_1 : Int) (a0_2 : Int) (a0_3 : ByteArray) (a1_ : Int) : V 65 [.agg [.int .i64 a0_0, .int .i64 a0_1, .int .i64 a0_2, .str a0_3], .int .i64 a1_] =
  br (decide (IntKind.wrap IntKind.i64 (a1_ - ni (ByteArray.size a0_3)) < 0))
   (some ((.int .i64 (-1)), []))
   (some ((.int .i64 (IntKind.wrap IntKind.i64 (a1_ - ni (ByteArray.size a0_3)))), [])) := by
  exact (Vn_eq Tryz.func65 rfl _).trans (by kernel_rfl)
theorem elaws_toInstrS (a0_ : List D) : V 34 [.rs (4, 0) a0_] =
  grd (decide (0 ≤ ni (List.length a0_)) && decide (ni (List.length a0_) ≤ LIM)) (Llaws_toInstrS_3 a0_ (0) (List.replicate (Int.toNat (ni (List.length a0_))) (D.agg [D.int IntKind.i64 (0), D.int IntKind.i64 (0), D.int IntKind.i64 (0), D.str { data := #[] }]))) := by
  exact (Vn_eq Tryz.func34 rfl _).trans (by kernel_rfl)
theorem eimpl_DefOf (a0_0 : List D) (a0_1 : List D) (a0_2 : List D) (a1_ : ByteArray) : V 91 [.agg [.rs (5, 0) a0_0, .rs (4, 0) a0_1, .rs (3, 0) a0_2], .str a1_] =
  ocall V 117 [(.rs (3, 0) a0_2), (.fn 118 [(.bp [(.str a1_)])])] fun x0 l1 =>
   asI .i64 x0 fun n2 => unn l1 (some ((.int .i64 n2), [])) := by
  exact (Vn_eq Tryz.func91 rfl _).trans (by kernel_rfl)
theorem espec_PutText (a0_ : ByteArray) : V 56 [.str a0_] =
  ocall V 55 [(.int .i64 (ni (ByteArray.size a0_)))] fun x0 l1 =>
   asOs (1, 0) x0 fun l2 => unn l1 (grd (decide (ni (List.length (l2 ++ bytesD a0_)) ≤ LIM)) (nam (l2 ++ bytesD a0_) fun l3 =>
     some ((.os (1, 0) l3), []))) := by
  exact (Vn_eq Tryz.func56 rfl _).trans (by kernel_rfl)
theorem elaws_szPool (a0_0 : List D) (a1_ : Int) : V 27 [.agg [.rs (5, 0) a0_0], .int .i64 a1_] =
  ocall V 64 [(.rs (5, 0) a0_0), (.int .i64 a1_)] fun x0 l1 =>
   asI .i64 x0 fun n2 => unn l1 (br (decide (n2 < 0))
     (some ((.int .i64 (-1)), []))
     (some ((.int .i64 n2), []))) := by
  exact (Vn_eq Tryz.func27 rfl _).trans (by kernel_rfl)
theorem espec_l2Has (a0_0 : List D) (a1_ : Int) : V 103 [.agg [.rs (5, 0) a0_0], .int .i64 a1_] =
  ocall V 89 [(.int .i64 a1_), (.int .i64 (0)), (.int .i64 (IntKind.wrap IntKind.i64 (ni (List.length a0_0) - 1)))] fun x0 l1 =>
   asB x0 fun b2 => unn l1 (some ((.bool b2), [])) := by
  exact (Vn_eq Tryz.func103 rfl _).trans (by kernel_rfl)
theorem elaws_eqNodeS (a0_ : List D) (a1_ : List D) : V 81 [.rs (5, 0) a0_, .rs (5, 0) a1_] =
  br (ni (List.length a0_) != ni (List.length a1_))
   (some ((.bool false), []))
   (Llaws_eqNodeS_4 a0_ a1_ (0)) := by
  exact (Vn_eq Tryz.func81 rfl _).trans (by kernel_rfl)
theorem espec_DefOf (a0_0 : List D) (a0_1 : List D) (a0_2 : List D) (a1_ : ByteArray) : V 87 [.agg [.rs (5, 0) a0_0, .rs (4, 0) a0_1, .rs (3, 0) a0_2], .str a1_] =
  Lspec_DefOf_2 a1_ (0) a0_0 a0_1 a0_2 := by
  exact (Vn_eq Tryz.func87 rfl _).trans (by kernel_rfl)
theorem eimpl_copyPool (a0_0 : List D) : V 124 [.agg [.rs (5, 0) a0_0]] =
  ocall V 135 [(.rs (5, 0) a0_0)] fun x0 l1 =>
   asOs (5, 0) x0 fun l2 => unn l1 (some ((.agg [(.os (5, 0) l2)]), [])) := by
  exact (Vn_eq Tryz.func124 rfl _).trans (by kernel_rfl)
theorem eIndexFunc_rootsOk (l : List D) (p : List D) : V 137 [.rs (1, 0) l, .fn 130 [.bp [.rs (5, 0) p]]] =
  LIndexFunc_rootsOk_2 l p (ni (List.length l)) (0) := by
  exact (Vn_eq Tryz.func137 rfl _).trans (by kernel_rfl)
theorem eimpl_ProcOk_1 (a0_ : ByteArray) : V 95 [.str a0_] =
  ocall V 96 [(.str a0_)] fun x0 l1 =>
   asB x0 fun b2 => unn l1 (some ((.bool (!b2)), [])) := by
  exact (Vn_eq Tryz.func95 rfl _).trans (by kernel_rfl)
theorem elaws_heldStringS (a0_ : List D) (a1_ : Int) : V 52 [.rs (1, 0) a0_, .int .i64 a1_] =
  Llaws_heldStringS_2 a0_ a1_ (0) := by
  exact (Vn_eq Tryz.func52 rfl _).trans (by kernel_rfl)
theorem elaws_markNodeS (a0_ : List D) (a1_ : Int) : V 84 [.os (5, 0) a0_, .int .i64 a1_] =
  Llaws_markNodeS_2 a1_ (0) a0_ := by
  exact (Vn_eq Tryz.func84 rfl _).trans (by kernel_rfl)
theorem espec_PoolOk (a0_0 : List D) : V 69 [.agg [.rs (5, 0) a0_0]] =
  Lspec_PoolOk_2 (0) a0_0 := by
  exact (Vn_eq Tryz.func69 rfl _).trans (by kernel_rfl)
end Go.Eng
