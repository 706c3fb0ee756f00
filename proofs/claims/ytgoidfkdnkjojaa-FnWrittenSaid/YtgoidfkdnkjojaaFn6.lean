/- the functions as the interpreter has them -/
import Derived.Test.YtgoidfkdnkjojaaFn0
namespace Go.Eng
open Go.Proofs Go.Proofs.Try
set_option maxRecDepth 100000
theorem Lspec_Read_27_eq (p0 : ByteArray) (p1 : Int) (p2 : Int) (p3 : Int) (p4 : List D) (p5 : List D) (p6 : List D) (p7 : List D) : Lspec_Read_27 p0 p1 p2 p3 p4 p5 p6 p7 =
  br (decide (p1 < ni (ByteArray.size p0)))
   (grd (decide (0 ≤ p1) && decide (p1 < ni (ByteArray.size p0))) (ocall V 73 [(.int .u8 (bt p0 p1))] fun x143 l144 =>
    asB x143 fun b145 => unn l144 (br b145
      (Lspec_Read_27 p0 (IntKind.wrap IntKind.i64 (p1 + 1)) p2 p3 p4 p5 p6 p7)
      (grd (cutOk (ByteArray.size p0) (some p3) (some p1)) (ocall V 74 [(.str (ByteArray.extract p0 (Int.toNat p3) (Int.toNat p1)))] fun x146 l147 =>
       asTup x146 fun l148 => unc l148 fun x149 l150 => asAgg x149 fun l151 => unc l151 fun x152 l153 => asI .i64 x152 fun n154 => unc l153 fun x155 l156 => asI .i64 x155 fun n157 => unc l156 fun x158 l159 => asS x158 fun s160 => unc l159 fun x161 l162 => asI .i64 x161 fun n163 => unc l162 fun x164 l165 => asI .i64 x164 fun n166 => unn l165 (unc l150 fun x167 l168 => asB x167 fun b169 => unn l168 (unn l147 (br (!b169)
                       (ocall V 71 [(.agg [(.rs (5, 0) p4)])] fun x170 l171 =>
                        asAgg x170 fun l172 => unc l172 fun x173 l174 => asOs (5, 0) x173 fun l175 => unn l174 (unn l171 (some ((.tup [(.agg [(.os (5, 0) l175)]), (.os (1, 0) p5), (.int .i64 (3)), (.int .i64 p3)]), []))))
                       (grd (decide (0 ≤ p2) && decide (p2 < ni (List.length p6))) (oget p6 (Int.toNat p2) fun x176 =>
                        asAgg x176 fun l177 => oget l177 1 fun x178 =>
                          asOs (1, 0) x178 fun l179 => asAgg x176 fun l180 => ocall V 75 [(.op [(.os (5, 0) p7)]), (.agg [(.int .i64 n154), (.int .i64 n157), (.str s160), (.int .i64 n163), (.int .i64 n166)])] fun x181 l182 =>
                             asI .i64 x181 fun n183 => unc l182 fun x184 l185 => asOp x184 fun l186 => unc l186 fun x187 l188 => asOs (5, 0) x187 fun l189 => unn l188 (unn l185 (grd (decide (ni (List.length (l179 ++ [D.int IntKind.i64 n183])) ≤ LIM)) (nam (l179 ++ [D.int IntKind.i64 n183]) fun l190 =>
                                   grd (decide (0 ≤ p2) && decide (p2 < ni (List.length (List.set p6 (Int.toNat p2) (D.agg (List.take 1 l180 ++ [D.dead] ++ List.drop 2 l180)))))) (oget (List.set p6 (Int.toNat p2) (D.agg (List.take 1 l180 ++ [D.dead] ++ List.drop 2 l180))) (Int.toNat p2) fun x191 =>
                                    asAgg x191 fun l192 => nam (List.set (List.set p6 (Int.toNat p2) (D.agg (List.take 1 l180 ++ [D.dead] ++ List.drop 2 l180))) (Int.toNat p2)
  (D.agg
    (List.take 1 l192 ++
        [D.os
            (TypeInfo.size (Tables.types (Program.toTables Try.prog))[3],
              match flat Try.prog (3) with
              | true => 0
              | false => 1)
            l190] ++
      List.drop 2 l192))) fun l193 =>
                                      Lspec_Read_9 p0 p1 p4 p5 l193 l189))))))))))))))
   (grd (cutOk (ByteArray.size p0) (some p3) (some p1)) (ocall V 74 [(.str (ByteArray.extract p0 (Int.toNat p3) (Int.toNat p1)))] fun x194 l195 =>
    asTup x194 fun l196 => unc l196 fun x197 l198 => asAgg x197 fun l199 => unc l199 fun x200 l201 => asI .i64 x200 fun n202 => unc l201 fun x203 l204 => asI .i64 x203 fun n205 => unc l204 fun x206 l207 => asS x206 fun s208 => unc l207 fun x209 l210 => asI .i64 x209 fun n211 => unc l210 fun x212 l213 => asI .i64 x212 fun n214 => unn l213 (unc l198 fun x215 l216 => asB x215 fun b217 => unn l216 (unn l195 (br (!b217)
                    (ocall V 71 [(.agg [(.rs (5, 0) p4)])] fun x218 l219 =>
                     asAgg x218 fun l220 => unc l220 fun x221 l222 => asOs (5, 0) x221 fun l223 => unn l222 (unn l219 (some ((.tup [(.agg [(.os (5, 0) l223)]), (.os (1, 0) p5), (.int .i64 (3)), (.int .i64 p3)]), []))))
                    (grd (decide (0 ≤ p2) && decide (p2 < ni (List.length p6))) (oget p6 (Int.toNat p2) fun x224 =>
                     asAgg x224 fun l225 => oget l225 1 fun x226 =>
                       asOs (1, 0) x226 fun l227 => asAgg x224 fun l228 => ocall V 75 [(.op [(.os (5, 0) p7)]), (.agg [(.int .i64 n202), (.int .i64 n205), (.str s208), (.int .i64 n211), (.int .i64 n214)])] fun x229 l230 =>
                          asI .i64 x229 fun n231 => unc l230 fun x232 l233 => asOp x232 fun l234 => unc l234 fun x235 l236 => asOs (5, 0) x235 fun l237 => unn l236 (unn l233 (grd (decide (ni (List.length (l227 ++ [D.int IntKind.i64 n231])) ≤ LIM)) (nam (l227 ++ [D.int IntKind.i64 n231]) fun l238 =>
                                grd (decide (0 ≤ p2) && decide (p2 < ni (List.length (List.set p6 (Int.toNat p2) (D.agg (List.take 1 l228 ++ [D.dead] ++ List.drop 2 l228)))))) (oget (List.set p6 (Int.toNat p2) (D.agg (List.take 1 l228 ++ [D.dead] ++ List.drop 2 l228))) (Int.toNat p2) fun x239 =>
                                 asAgg x239 fun l240 => nam (List.set (List.set p6 (Int.toNat p2) (D.agg (List.take 1 l228 ++ [D.dead] ++ List.drop 2 l228))) (Int.toNat p2)
  (D.agg
    (List.take 1 l240 ++
        [D.os
            (TypeInfo.size (Tables.types (Program.toTables Try.prog))[3],
              match flat Try.prog (3) with
              | true => 0
              | false => 1)
            l238] ++
      List.drop 2 l240))) fun l241 =>
                                   Lspec_Read_9 p0 p1 p4 p5 l241 l237))))))))))) := by
  exact (Rn_eq _ _ _).trans (by kernel_rfl)
theorem espec_l2DrawNode (a0_0 : List D) (a0_1 : Int) (a0_2 : Int) (a1_ : Int) : V 148 [.op [.rs (1, 0) a0_0, .int .i64 a0_1, .int .i64 a0_2], .int .i64 a1_] =
  br (a1_ == 0)
   (ocall V 170 [(.op [(.rs (1, 0) a0_0), (.int .i64 a0_1), (.int .i64 a0_2)])] fun x0 l1 =>
    asAgg x0 fun l2 => unc l2 fun x3 l4 => asI .i64 x3 fun n5 => unc l4 fun x6 l7 => asI .i64 x6 fun n8 => unc l7 fun x9 l10 => asS x9 fun s11 => unc l10 fun x12 l13 => asI .i64 x12 fun n14 => unc l13 fun x15 l16 => asI .i64 x15 fun n17 => unn l16 (unc l1 fun x18 l19 => asOp x18 fun l20 => unc l20 fun x21 l22 => asRs (1, 0) x21 fun l23 => unc l22 fun x24 l25 => asI .i64 x24 fun n26 => unc l25 fun x27 l28 => asI .i64 x27 fun n29 => unn l28 (unn l19 (some ((.agg [(.int .i64 n5), (.int .i64 n8), (.str s11), (.int .i64 n14), (.int .i64 n17)]), [(.op [(.rs (1, 0) l23), (.int .i64 n26), (.int .i64 n29)])])))))
   (ocall V 63 [(.op [(.rs (1, 0) a0_0), (.int .i64 a0_1), (.int .i64 a0_2)]), (.int .i64 (2))] fun x30 l31 =>
    asB x30 fun b32 => unc l31 fun x33 l34 => asOp x33 fun l35 => unc l35 fun x36 l37 => asRs (1, 0) x36 fun l38 => unc l37 fun x39 l40 => asI .i64 x39 fun n41 => unc l40 fun x42 l43 => asI .i64 x42 fun n44 => unn l43 (unn l34 (br b32
              (ocall V 170 [(.op [(.rs (1, 0) l38), (.int .i64 n41), (.int .i64 n44)])] fun x45 l46 =>
               asAgg x45 fun l47 => unc l47 fun x48 l49 => asI .i64 x48 fun n50 => unc l49 fun x51 l52 => asI .i64 x51 fun n53 => unc l52 fun x54 l55 => asS x54 fun s56 => unc l55 fun x57 l58 => asI .i64 x57 fun n59 => unc l58 fun x60 l61 => asI .i64 x60 fun n62 => unn l61 (unc l46 fun x63 l64 => asOp x63 fun l65 => unc l65 fun x66 l67 => asRs (1, 0) x66 fun l68 => unc l67 fun x69 l70 => asI .i64 x69 fun n71 => unc l70 fun x72 l73 => asI .i64 x72 fun n74 => unn l73 (unn l64 (some ((.agg [(.int .i64 n50), (.int .i64 n53), (.str s56), (.int .i64 n59), (.int .i64 n62)]), [(.op [(.rs (1, 0) l68), (.int .i64 n71), (.int .i64 n74)])])))))
              (ocall V 124 [(.int .i64 a1_), (.int .i64 (5))] fun x75 l76 =>
               asI .i64 x75 fun n77 => unn l76 (ocall V 85 [(.op [(.rs (1, 0) l38), (.int .i64 n41), (.int .i64 n44)]), (.int .i64 n77)] fun x78 l79 =>
                 asI .i64 x78 fun n80 => unc l79 fun x81 l82 => asOp x81 fun l83 => unc l83 fun x84 l85 => asRs (1, 0) x84 fun l86 => unc l85 fun x87 l88 => asI .i64 x87 fun n89 => unc l88 fun x90 l91 => asI .i64 x90 fun n92 => unn l91 (unn l82 (ocall V 85 [(.op [(.rs (1, 0) l86), (.int .i64 n89), (.int .i64 n92)]), (.int .i64 (8))] fun x93 l94 =>
                           asI .i64 x93 fun n95 => unc l94 fun x96 l97 => asOp x96 fun l98 => unc l98 fun x99 l100 => asRs (1, 0) x99 fun l101 => unc l100 fun x102 l103 => asI .i64 x102 fun n104 => unc l103 fun x105 l106 => asI .i64 x105 fun n107 => unn l106 (unn l97 (br (n95 == 0)
                                     (ocall V 85 [(.op [(.rs (1, 0) l101), (.int .i64 n104), (.int .i64 n107)]), (.int .i64 (9))] fun x108 l109 =>
                                      asI .i64 x108 fun n110 => unc l109 fun x111 l112 => asOp x111 fun l113 => unc l113 fun x114 l115 => asRs (1, 0) x114 fun l116 => unc l115 fun x117 l118 => asI .i64 x117 fun n119 => unc l118 fun x120 l121 => asI .i64 x120 fun n122 => unn l121 (unn l112 (some ((.agg [(.int .i64 (6)), (.int .i64 n110), (.str ({ data := #[] })), (.int .i64 (IntKind.wrap IntKind.i64 (IntKind.wrap IntKind.i64 (a1_ - 1) - n80))), (.int .i64 (0))]), [(.op [(.rs (1, 0) l116), (.int .i64 n119), (.int .i64 n122)])]))))
                                     (br (n95 == 1)
                                      (some ((.agg [(.int .i64 (7)), (.int .i64 (0)), (.str ({ data := #[] })), (.int .i64 (IntKind.wrap IntKind.i64 (IntKind.wrap IntKind.i64 (a1_ - 1) - n80))), (.int .i64 (0))]), [(.op [(.rs (1, 0) l101), (.int .i64 n104), (.int .i64 n107)])]))
                                      (ocall V 124 [(.int .i64 a1_), (.int .i64 (4))] fun x123 l124 =>
                                       asI .i64 x123 fun n125 => unn l124 (ocall V 85 [(.op [(.rs (1, 0) l101), (.int .i64 n104), (.int .i64 n107)]), (.int .i64 n125)] fun x126 l127 =>
                                         asI .i64 x126 fun n128 => unc l127 fun x129 l130 => asOp x129 fun l131 => unc l131 fun x132 l133 => asRs (1, 0) x132 fun l134 => unc l133 fun x135 l136 => asI .i64 x135 fun n137 => unc l136 fun x138 l139 => asI .i64 x138 fun n140 => unn l139 (unn l130 (some ((.agg [(.int .i64 (5)), (.int .i64 (0)), (.str ({ data := #[] })), (.int .i64 (IntKind.wrap IntKind.i64 (IntKind.wrap IntKind.i64 (a1_ - 1) - n80))), (.int .i64 (IntKind.wrap IntKind.i64 (IntKind.wrap IntKind.i64 (a1_ - 1) - n128)))]), [(.op [(.rs (1, 0) l134), (.int .i64 n137), (.int .i64 n140)])]))))))))))))))) := by
  exact (Vn_eq Try.func148 rfl _).trans (by kernel_rfl)
theorem espec_l2Node (a0_0 : Int) (a0_1 : Int) (a0_2 : ByteArray) (a0_3 : Int) (a0_4 : Int) (a1_ : Int) : V 125 [.agg [.int .i64 a0_0, .int .i64 a0_1, .str a0_2, .int .i64 a0_3, .int .i64 a0_4], .int .i64 a1_] =
  ocall V 104 [(.int .i64 a0_3), (.int .i64 (0)), (.int .i64 (IntKind.wrap IntKind.i64 (a1_ - 1)))] fun x0 l1 =>
   asB x0 fun b2 => unn l1 (ocall V 104 [(.int .i64 a0_4), (.int .i64 (0)), (.int .i64 (IntKind.wrap IntKind.i64 (a1_ - 1)))] fun x3 l4 =>
     asB x3 fun b5 => unn l4 (br (a0_0 == 1)
       (some ((.bool (a0_0 == 1 && (a0_1 == 0 && (strEq a0_2 { data := #[] } && (a0_3 == 0 && (a0_4 == 0 && true)))))), []))
       (br (a0_0 == 2)
        (ocall V 104 [(.int .i64 a0_1), (.int .i64 (0)), (.int .i64 (1))] fun x6 l7 =>
         asB x6 fun b8 => unn l7 (br b8
           (some ((.bool (a0_0 == 2 && (a0_1 == a0_1 && (strEq a0_2 { data := #[] } && (a0_3 == 0 && (a0_4 == 0 && true)))))), []))
           (some ((.bool false), []))))
        (br (a0_0 == 3)
         (ocall V 104 [(.int .i64 a0_1), (.int .i64 (-1000000000)), (.int .i64 (1000000000))] fun x9 l10 =>
          asB x9 fun b11 => unn l10 (br b11
            (some ((.bool (a0_0 == 3 && (a0_1 == a0_1 && (strEq a0_2 { data := #[] } && (a0_3 == 0 && (a0_4 == 0 && true)))))), []))
            (some ((.bool false), []))))
         (br (a0_0 == 4)
          (ocall V 131 [(.str a0_2)] fun x12 l13 =>
           asB x12 fun b14 => unn l13 (br b14
             (some ((.bool (a0_0 == 4 && (a0_1 == 0 && (strEq a0_2 a0_2 && (a0_3 == 0 && (a0_4 == 0 && true)))))), []))
             (some ((.bool false), []))))
          (br (a0_0 == 5)
           (br b2
            (br b5
             (br (a0_1 == 0)
              (some ((.bool (strEq a0_2 { data := #[] })), []))
              (some ((.bool false), [])))
             (some ((.bool false), [])))
            (some ((.bool false), [])))
           (br (a0_0 == 6)
            (br b2
             (ocall V 104 [(.int .i64 a0_1), (.int .i64 (0)), (.int .i64 (1000000000))] fun x15 l16 =>
              asB x15 fun b17 => unn l16 (br b17
                (br (a0_4 == 0)
                 (some ((.bool (strEq a0_2 { data := #[] })), []))
                 (some ((.bool false), [])))
                (some ((.bool false), []))))
             (some ((.bool false), [])))
            (br (a0_0 == 7)
             (br b2
              (br (a0_1 == 0)
               (br (a0_4 == 0)
                (some ((.bool (strEq a0_2 { data := #[] })), []))
                (some ((.bool false), [])))
               (some ((.bool false), [])))
              (some ((.bool false), [])))
             (br (a0_0 == 8)
              (ocall V 104 [(.int .i64 a0_1), (.int .i64 (0)), (.int .i64 (99))] fun x18 l19 =>
               asB x18 fun b20 => unn l19 (br b20
                 (some ((.bool (a0_0 == 8 && (a0_1 == a0_1 && (strEq a0_2 { data := #[] } && (a0_3 == 0 && (a0_4 == 0 && true)))))), []))
                 (some ((.bool false), []))))
              (br (a0_0 == 9)
               (ocall V 104 [(.int .i64 a0_1), (.int .i64 (0)), (.int .i64 (1000000000))] fun x21 l22 =>
                asB x21 fun b23 => unn l22 (br b23
                  (some ((.bool (a0_0 == 9 && (a0_1 == a0_1 && (strEq a0_2 { data := #[] } && (a0_3 == 0 && (a0_4 == 0 && true)))))), []))
                  (some ((.bool false), []))))
               (some ((.bool false), [])))))))))))) := by
  exact (Vn_eq Try.func125 rfl _).trans (by kernel_rfl)
theorem espec_l1Below (a0_0 : List D) (a0_1 : Int) (a0_2 : Int) (a1_ : Int) : V 85 [.op [.rs (1, 0) a0_0, .int .i64 a0_1, .int .i64 a0_2], .int .i64 a1_] =
  br (decide (a1_ ≤ 0))
   (some ((.int .i64 (0)), [(.op [(.rs (1, 0) a0_0), (.int .i64 a0_1), (.int .i64 a0_2)])]))
   (br (decide (a1_ ≤ 256))
    (ocall V 145 [(.op [(.rs (1, 0) a0_0), (.int .i64 a0_1), (.int .i64 a0_2)])] fun x0 l1 =>
     asI .i64 x0 fun n2 => unc l1 fun x3 l4 => asOp x3 fun l5 => unc l5 fun x6 l7 => asRs (1, 0) x6 fun l8 => unc l7 fun x9 l10 => asI .i64 x9 fun n11 => unc l10 fun x12 l13 => asI .i64 x12 fun n14 => unn l13 (unn l4 (grd (!decide (a1_ = 0)) (some ((.int .i64 (Int.tmod n2 a1_)), [(.op [(.rs (1, 0) l8), (.int .i64 n11), (.int .i64 n14)])])))))
    (ocall V 145 [(.op [(.rs (1, 0) a0_0), (.int .i64 a0_1), (.int .i64 a0_2)])] fun x15 l16 =>
     asI .i64 x15 fun n17 => unc l16 fun x18 l19 => asOp x18 fun l20 => unc l20 fun x21 l22 => asRs (1, 0) x21 fun l23 => unc l22 fun x24 l25 => asI .i64 x24 fun n26 => unc l25 fun x27 l28 => asI .i64 x27 fun n29 => unn l28 (unn l19 (ocall V 145 [(.op [(.rs (1, 0) l23), (.int .i64 n26), (.int .i64 n29)])] fun x30 l31 =>
               asI .i64 x30 fun n32 => unc l31 fun x33 l34 => asOp x33 fun l35 => unc l35 fun x36 l37 => asRs (1, 0) x36 fun l38 => unc l37 fun x39 l40 => asI .i64 x39 fun n41 => unc l40 fun x42 l43 => asI .i64 x42 fun n44 => unn l43 (unn l34 (ocall V 145 [(.op [(.rs (1, 0) l38), (.int .i64 n41), (.int .i64 n44)])] fun x45 l46 =>
                         asI .i64 x45 fun n47 => unc l46 fun x48 l49 => asOp x48 fun l50 => unc l50 fun x51 l52 => asRs (1, 0) x51 fun l53 => unc l52 fun x54 l55 => asI .i64 x54 fun n56 => unc l55 fun x57 l58 => asI .i64 x57 fun n59 => unn l58 (unn l49 (ocall V 145 [(.op [(.rs (1, 0) l53), (.int .i64 n56), (.int .i64 n59)])] fun x60 l61 =>
                                   asI .i64 x60 fun n62 => unc l61 fun x63 l64 => asOp x63 fun l65 => unc l65 fun x66 l67 => asRs (1, 0) x66 fun l68 => unc l67 fun x69 l70 => asI .i64 x69 fun n71 => unc l70 fun x72 l73 => asI .i64 x72 fun n74 => unn l73 (unn l64 (grd (!decide (a1_ = 0)) (some ((.int .i64 (Int.tmod (IntKind.wrap IntKind.i64 (IntKind.wrap IntKind.i64 (IntKind.wrap IntKind.i64 (IntKind.wrap IntKind.i64 (n17 * 16777216) + IntKind.wrap IntKind.i64 (n32 * 65536)) + IntKind.wrap IntKind.i64 (n47 * 256)) + n62)) a1_)), [(.op [(.rs (1, 0) l68), (.int .i64 n71), (.int .i64 n74)])])))))))))))) := by
  exact (Vn_eq Try.func85 rfl _).trans (by kernel_rfl)
theorem eimpl_reading_close (p : List D) (o : List D) (t : List D)  : V 134 [.op [.os (5, 0) p, .os (1, 2) o, .os (1, 0) t]] =
  br (IntKind.wrap IntKind.i64 (ni (List.length o) - 1) == 0)
   (some ((.bool false), [(.op [(.os (5, 0) p), (.os (1, 2) o), (.os (1, 0) t)])]))
   (grd (decide (0 ≤ IntKind.wrap IntKind.i64 (ni (List.length o) - 1)) && decide (IntKind.wrap IntKind.i64 (ni (List.length o) - 1) < ni (List.length o))) (oget o (Int.toNat (IntKind.wrap IntKind.i64 (ni (List.length o) - 1))) fun x0 =>
    asOs (1, 0) x0 fun l1 => ocall V 164 [(.op [(.os (5, 0) p)]), (.rs (1, 0) l1)] fun x2 l3 =>
      asI .i64 x2 fun n4 => unc l3 fun x5 l6 => asOp x5 fun l7 => unc l7 fun x8 l9 => asOs (5, 0) x8 fun l10 => unn l9 (unn l6 (grd (cutOk (List.length (List.set o (Int.toNat (IntKind.wrap IntKind.i64 (ni (List.length o) - 1))) D.dead)) none (some (IntKind.wrap IntKind.i64 (ni (List.length o) - 1)))) (grd (cutOk (List.length t) none (some (IntKind.wrap IntKind.i64 (ni (List.length t) - 1)))) (ocall V 137 [(.op [(.os (5, 0) l10), (.os (1, 2) (part (List.set o (Int.toNat (IntKind.wrap IntKind.i64 (ni (List.length o) - 1))) D.dead) (some (0, Int.toNat (IntKind.wrap IntKind.i64 (ni (List.length o) - 1)))))), (.os (1, 0) (part t (some (0, Int.toNat (IntKind.wrap IntKind.i64 (ni (List.length t) - 1))))))]), (.int .i64 n4)] fun x11 l12 =>
            asTup x11 fun l13 => unn l13 (unc l12 fun x14 l15 => asOp x14 fun l16 => unc l16 fun x17 l18 => asOs (5, 0) x17 fun l19 => unc l18 fun x20 l21 => asOs (1, 2) x20 fun l22 => unc l21 fun x23 l24 => asOs (1, 0) x23 fun l25 => unn l24 (unn l15 (some ((.bool true), [(.op [(.os (5, 0) l19), (.os (1, 2) l22), (.os (1, 0) l25)])])))))))))) := by
  exact (Vn_eq Try.func134 rfl _).trans (by kernel_rfl)
theorem eimpl_Write (a0_0 : List D) (a1_ : Int) : V 16 [.agg [.rs (5, 0) a0_0], .int .i64 a1_] =
  ocall V 18 [(.agg [(.rs (5, 0) a0_0)])] fun x0 l1 =>
   asB x0 fun b2 => unn l1 (br (!b2)
     (some ((.str ({ data := #[] })), []))
     (ocall V 59 [(.agg [(.rs (5, 0) a0_0)]), (.int .i64 a1_)] fun x3 l4 =>
      asB x3 fun b5 => unn l4 (br (!b5)
        (some ((.str ({ data := #[] })), []))
        (grd (decide (0 ≤ a1_) && decide (a1_ < ni (List.length a0_0))) (oget a0_0 (Int.toNat a1_) fun x6 =>
         asAgg x6 fun l7 => oget l7 0 fun x8 =>
           asI .i64 x8 fun n9 => br (n9 == 1)
             (some ((.str ({ data := #[40, 41] })), []))
             (ocall V 60 [(.op [(.rs (5, 0) a0_0), (.os (1, 0) [])]), (.int .i64 a1_)] fun x10 l11 =>
              asTup x10 fun l12 => unn l12 (unc l11 fun x13 l14 => asOp x13 fun l15 => unc l15 fun x16 l17 => asRs (5, 0) x16 fun l18 => unc l17 fun x19 l20 => asOs (1, 0) x19 fun l21 => unn l20 (unn l14 (ocall V 61 [(.op [(.rs (5, 0) l18), (.os (1, 0) l21)])] fun x22 l23 =>
                      asB x22 fun b24 => unc l23 fun x25 l26 => asOp x25 fun l27 => unc l27 fun x28 l29 => asRs (5, 0) x28 fun _ => unc l29 fun x31 l32 => asOs (1, 0) x31 fun l33 => unn l32 (unn l26 (br b24
                              (some ((.str ({ data := #[] })), []))
                              (obytes l33 fun s34 => some ((.str s34), []))))))))))))) := by
  exact (Vn_eq Try.func16 rfl _).trans (by kernel_rfl)
theorem Lspec_l2DrawRight_4_eq (p0 : Int) (p1 : Int) (p2 : List D) (p3 : Int) (p4 : Int) : Lspec_l2DrawRight_4 p0 p1 p2 p3 p4 =
  br (decide (p1 < p0))
   (ocall V 148 [(.op [(.rs (1, 0) p2), (.int .i64 p3), (.int .i64 p4)]), (.int .i64 p1)] fun x15 l16 =>
    asAgg x15 fun l17 => unc l17 fun x18 l19 => asI .i64 x18 fun n20 => unc l19 fun x21 l22 => asI .i64 x21 fun n23 => unc l22 fun x24 l25 => asS x24 fun s26 => unc l25 fun x27 l28 => asI .i64 x27 fun n29 => unc l28 fun x30 l31 => asI .i64 x30 fun n32 => unn l31 (unc l16 fun x33 l34 => asOp x33 fun l35 => unc l35 fun x36 l37 => asRs (1, 0) x36 fun l38 => unc l37 fun x39 l40 => asI .i64 x39 fun n41 => unc l40 fun x42 l43 => asI .i64 x42 fun n44 => unn l43 (unn l34 (ocall V 75 [(.op [(.os (5, 0) [])]), (.agg [(.int .i64 n20), (.int .i64 n23), (.str s26), (.int .i64 n29), (.int .i64 n32)])] fun x45 l46 =>
                        asI .i64 x45 fun _ => unc l46 fun x48 l49 => asOp x48 fun l50 => unc l50 fun x51 l52 => asOs (5, 0) x51 fun l53 => unn l52 (unn l49 (Lspec_l2DrawRight_4v1 p0 (IntKind.wrap IntKind.i64 (p1 + 1)) l38 n41 n44 l53))))))
   (some ((.agg [(.os (5, 0) [])]), [(.op [(.rs (1, 0) p2), (.int .i64 p3), (.int .i64 p4)])])) := by
  exact (Rn_eq _ _ _).trans (by kernel_rfl)
theorem Lspec_l7DrawRoots_3_eq (p0 : Int) (p1 : List D) (p2 : Int) (p3 : Int) (p4 : List D) (p5 : List D) : Lspec_l7DrawRoots_3 p0 p1 p2 p3 p4 p5 =
  ocall V 85 [(.op [(.rs (1, 0) p1), (.int .i64 p2), (.int .i64 p3)]), (.int .i64 (4))] fun x0 l1 =>
   asI .i64 x0 fun n2 => unc l1 fun x3 l4 => asOp x3 fun l5 => unc l5 fun x6 l7 => asRs (1, 0) x6 fun l8 => unc l7 fun x9 l10 => asI .i64 x9 fun n11 => unc l10 fun x12 l13 => asI .i64 x12 fun n14 => unn l13 (unn l4 (br (decide (p0 < n2))
             (ocall V 66 [(.op [(.rs (1, 0) l8), (.int .i64 n11), (.int .i64 n14)]), (.agg [(.rs (5, 0) p4)])] fun x15 l16 =>
              asI .i64 x15 fun n17 => unc l16 fun x18 l19 => asOp x18 fun l20 => unc l20 fun x21 l22 => asRs (1, 0) x21 fun l23 => unc l22 fun x24 l25 => asI .i64 x24 fun n26 => unc l25 fun x27 l28 => asI .i64 x27 fun n29 => unn l28 (unn l19 (grd (decide (ni (List.length (p5 ++ [D.int IntKind.i64 n17])) ≤ LIM)) (nam (p5 ++ [D.int IntKind.i64 n17]) fun l30 =>
                        Lspec_l7DrawRoots_3 (IntKind.wrap IntKind.i64 (p0 + 1)) l23 n26 n29 p4 l30))))
             (some ((.os (1, 0) p5), [(.op [(.rs (1, 0) l8), (.int .i64 n11), (.int .i64 n14)])])))) := by
  exact (Rn_eq _ _ _).trans (by kernel_rfl)
theorem espec_Read (a0_0 : List D) (a1_ : ByteArray) : V 22 [.agg [.rs (5, 0) a0_0], .str a1_] =
  ocall V 67 [(.agg [(.rs (5, 0) a0_0)])] fun x0 l1 =>
   asB x0 fun b2 => unn l1 (br (!b2)
     (some ((.tup [(.agg [(.os (5, 0) [])]), (.os (1, 0) []), (.int .i64 (6)), (.int .i64 (0))]), []))
     (br (decide (ni (ByteArray.size a1_) > 400))
      (ocall V 71 [(.agg [(.rs (5, 0) a0_0)])] fun x3 l4 =>
       asAgg x3 fun l5 => unc l5 fun x6 l7 => asOs (5, 0) x6 fun l8 => unn l7 (unn l4 (some ((.tup [(.agg [(.os (5, 0) l8)]), (.os (1, 0) []), (.int .i64 (1)), (.int .i64 (0))]), []))))
      (ocall V 71 [(.agg [(.rs (5, 0) a0_0)])] fun x9 l10 =>
       asAgg x9 fun l11 => unc l11 fun x12 l13 => asOs (5, 0) x12 fun l14 => unn l13 (unn l10 (Lspec_Read_9 a1_ (0) a0_0 [] ([D.agg
    [D.int IntKind.i64 (0),
      D.os
        (TypeInfo.size (Tables.types (Program.toTables Try.prog))[3],
          match flat Try.prog (3) with
          | true => 0
          | false => 1)
        []]]) l14))))) := by
  exact (Vn_eq Try.func22 rfl _).trans (by kernel_rfl)
theorem eimpl_isNameByte (a0_ : Int) : V 163 [.int .u8 a0_] =
  br (decide (a0_ ≥ 97))
   (br (decide (a0_ ≤ 122))
    (some ((.bool true), []))
    (grd (decide (0 < 8)) (ocall V 175 [(.rs (1, 0) [(.int .u8 (43)), (.int .u8 (45)), (.int .u8 (42)), (.int .u8 (60)), (.int .u8 (61)), (.int .u8 (63)), (.int .u8 (33)), (.int .u8 (47))]), (.int .u8 a0_)] fun x0 l1 =>
     asB x0 fun b2 => unn l1 (some ((.bool b2), [])))))
   (grd (decide (0 < 8)) (ocall V 175 [(.rs (1, 0) [(.int .u8 (43)), (.int .u8 (45)), (.int .u8 (42)), (.int .u8 (60)), (.int .u8 (61)), (.int .u8 (63)), (.int .u8 (33)), (.int .u8 (47))]), (.int .u8 a0_)] fun x3 l4 =>
    asB x3 fun b5 => unn l4 (some ((.bool b5), [])))) := by
  exact (Vn_eq Try.func163 rfl _).trans (by kernel_rfl)
theorem Lspec_l7Reach_3_eq (p0 : List D) (p1 : Int) (p2 : List D) (p3 : List D) : Lspec_l7Reach_3 p0 p1 p2 p3 =
  br (decide (p1 < ni (List.length p0)))
   (grd (decide (0 ≤ p1) && decide (p1 < ni (List.length p0))) (oget p0 (Int.toNat p1) fun x0 =>
    asI .i64 x0 fun n1 => grd (decide (0 ≤ n1) && decide (n1 < ni (List.length p3))) (oget p3 (Int.toNat n1) fun _ =>
      nam (List.set p3 (Int.toNat n1) (D.bool true)) fun l3 =>
       Lspec_l7Reach_3 p0 (IntKind.wrap IntKind.i64 (p1 + 1)) p2 l3)))
   (Lspec_l7Reach_7 (IntKind.wrap IntKind.i64 (ni (List.length p2) - 1)) p2 p3) := by
  exact (Rn_eq _ _ _).trans (by kernel_rfl)
theorem Limpl_reach_3_eq (p0 : List D) (p1 : Int) (p2 : Int) (p3 : List D) (p4 : List D) : Limpl_reach_3 p0 p1 p2 p3 p4 =
  br (decide (p2 < p1))
   (grd (decide (0 ≤ p2) && decide (p2 < ni (List.length p0))) (oget p0 (Int.toNat p2) fun x0 =>
    asI .i64 x0 fun n1 => grd (decide (0 ≤ n1) && decide (n1 < ni (List.length p4))) (oget p4 (Int.toNat n1) fun _ =>
      nam (List.set p4 (Int.toNat n1) (D.bool true)) fun l3 =>
       Limpl_reach_3 p0 p1 (IntKind.wrap IntKind.i64 (p2 + 1)) p3 l3)))
   (Limpl_reach_8 (IntKind.wrap IntKind.i64 (ni (List.length p3) - 1)) p3 p4) := by
  exact (Rn_eq _ _ _).trans (by kernel_rfl)
theorem espec_l7Keep (a0_0 : List D) (a1_ : List D) : V 58 [.agg [.rs (5, 0) a0_0], .rs (1, 0) a1_] =
  ocall V 117 [(.agg [(.rs (5, 0) a0_0)]), (.rs (1, 0) a1_)] fun x0 l1 =>
   asOs (1, 0) x0 fun l2 => unn l1 (ocall V 116 [(.op [(.os (5, 0) [])]), (.agg [(.rs (5, 0) a0_0)]), (.rs (1, 0) l2)] fun x3 l4 =>
     asOs (1, 0) x3 fun l5 => unc l4 fun x6 l7 => asOp x6 fun l8 => unc l8 fun x9 l10 => asOs (5, 0) x9 fun l11 => unn l10 (unn l7 (Lspec_l7Keep_5 a1_ (0) l5 [] l11))) := by
  exact (Vn_eq Try.func58 rfl _).trans (by kernel_rfl)
theorem Lspec_l3Digits_6_eq (p0 : Int) (p1 : ByteArray) : Lspec_l3Digits_6 p0 p1 =
  br (decide (p0 > 0))
   (grd (!decide (10 = 0)) (obytes ([D.int IntKind.u8 (IntKind.wrap IntKind.u8 (IntKind.wrap IntKind.i64 (48 + Int.tmod p0 (10))))]) fun s3 => grd (decide (ni (ByteArray.size s3 + ByteArray.size p1) ≤ LIM)) (grd (!decide (10 = 0)) (Lspec_l3Digits_6 (IntKind.wrap IntKind.i64 (Int.tdiv p0 (10))) (s3 ++ p1)))))
   (some ((.str p1), [])) := by
  exact (Rn_eq _ _ _).trans (by kernel_rfl)
theorem eimpl_writing_text (p : List D) (o : List D) (s : ByteArray) : V 118 [.op [.rs (5, 0) p, .os (1, 0) o], .str s] =
  grd (decide (ni (List.length (o ++ bytesD s)) ≤ LIM)) (nam (o ++ bytesD s) fun l0 =>
   some ((.tup []), [(.op [(.rs (5, 0) p), (.os (1, 0) l0)])])) := by
  exact (Vn_eq Try.func118 rfl _).trans (by kernel_rfl)
theorem espec_l7DrawRoots (a0_0 : List D) (a0_1 : Int) (a0_2 : Int) (a1_0 : List D) : V 54 [.op [.rs (1, 0) a0_0, .int .i64 a0_1, .int .i64 a0_2], .agg [.rs (5, 0) a1_0]] =
  Lspec_l7DrawRoots_3 (0) a0_0 a0_1 a0_2 a1_0 [] := by
  exact (Vn_eq Try.func54 rfl _).trans (by kernel_rfl)
theorem eimpl_writing_full (p : List D) (o : List D)  : V 61 [.op [.rs (5, 0) p, .os (1, 0) o]] =
  some ((.bool (decide (ni (List.length o) > 400))), [(.op [(.rs (5, 0) p), (.os (1, 0) o)])]) := by
  exact (Vn_eq Try.func61 rfl _).trans (by kernel_rfl)
theorem eslices_Index_byte_byte (a0_ : List D) (a1_ : Int) : V 180 [.rs (1, 0) a0_, .int .u8 a1_] =
  Lslices_Index_byte_byte_2 a0_ a1_ (ni (List.length a0_)) (0) := by
  exact (Vn_eq Try.func180 rfl _).trans (by kernel_rfl)
theorem eimpl_writing_pairs (p : List D) (o : List D) (v : Int) : V 119 [.op [.rs (5, 0) p, .os (1, 0) o], .int .i64 v] =
  Limpl_writing_pairs_1 v true p o := by
  exact (Vn_eq Try.func119 rfl _).trans (by kernel_rfl)
theorem espec_PoolOk (a0_0 : List D) : V 67 [.agg [.rs (5, 0) a0_0]] =
  Lspec_PoolOk_2 (0) a0_0 := by
  exact (Vn_eq Try.func67 rfl _).trans (by kernel_rfl)
end Go.Eng
