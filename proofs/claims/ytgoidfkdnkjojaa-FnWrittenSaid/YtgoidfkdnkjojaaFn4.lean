/- the functions as the interpreter has them -/
import Derived.Test.YtgoidfkdnkjojaaFn0
namespace Go.Eng
open Go.Proofs Go.Proofs.Try
set_option maxRecDepth 100000
theorem espec_l2Draw (a0_0 : List D) (a0_1 : Int) (a0_2 : Int) : V 53 [.op [.rs (1, 0) a0_0, .int .i64 a0_1, .int .i64 a0_2]] =
  ocall V 89 [(.op [(.rs (1, 0) a0_0), (.int .i64 a0_1), (.int .i64 a0_2)])] fun x0 l1 =>
   asAgg x0 fun l2 => unc l2 fun x3 l4 => asOs (5, 0) x3 fun l5 => unn l4 (unc l1 fun x6 l7 => asOp x6 fun l8 => unc l8 fun x9 l10 => asRs (1, 0) x9 fun l11 => unc l10 fun x12 l13 => asI .i64 x12 fun n14 => unc l13 fun x15 l16 => asI .i64 x15 fun n17 => unn l16 (unn l7 (br (decide (ni (List.length l5) > 0))
               (ocall V 63 [(.op [(.rs (1, 0) l11), (.int .i64 n14), (.int .i64 n17)]), (.int .i64 (12))] fun x18 l19 =>
                asB x18 fun b20 => unc l19 fun x21 l22 => asOp x21 fun l23 => unc l23 fun x24 l25 => asRs (1, 0) x24 fun l26 => unc l25 fun x27 l28 => asI .i64 x27 fun n29 => unc l28 fun x30 l31 => asI .i64 x30 fun n32 => unn l31 (unn l22 (br b20
                          (ocall V 85 [(.op [(.rs (1, 0) l26), (.int .i64 n29), (.int .i64 n32)]), (.int .i64 (ni (List.length l5)))] fun x33 l34 =>
                           asI .i64 x33 fun n35 => unc l34 fun x36 l37 => asOp x36 fun l38 => unc l38 fun x39 l40 => asRs (1, 0) x39 fun l41 => unc l40 fun x42 l43 => asI .i64 x42 fun n44 => unc l43 fun x45 l46 => asI .i64 x45 fun n47 => unn l46 (unn l37 (grd (decide (0 ≤ n35) && decide (n35 < ni (List.length l5))) (oget l5 (Int.toNat n35) fun x48 =>
                                     asAgg x48 fun l49 => unc l49 fun x50 l51 => asI .i64 x50 fun n52 => unc l51 fun x53 l54 => asI .i64 x53 fun n55 => unc l54 fun x56 l57 => asS x56 fun s58 => unc l57 fun x59 l60 => asI .i64 x59 fun n61 => unc l60 fun x62 l63 => asI .i64 x62 fun n64 => unn l63 (ocall V 112 [(.op [(.rs (1, 0) l41), (.int .i64 n44), (.int .i64 n47)]), (.agg [(.int .i64 n52), (.int .i64 n55), (.str s58), (.int .i64 n61), (.int .i64 n64)])] fun x65 l66 =>
                                                 asAgg x65 fun l67 => unc l67 fun x68 l69 => asI .i64 x68 fun n70 => unc l69 fun x71 l72 => asI .i64 x71 fun n73 => unc l72 fun x74 l75 => asS x74 fun s76 => unc l75 fun x77 l78 => asI .i64 x77 fun n79 => unc l78 fun x80 l81 => asI .i64 x80 fun n82 => unn l81 (unc l66 fun x83 l84 => asOp x83 fun l85 => unc l85 fun x86 l87 => asRs (1, 0) x86 fun l88 => unc l87 fun x89 l90 => asI .i64 x89 fun n91 => unc l90 fun x92 l93 => asI .i64 x92 fun n94 => unn l93 (unn l84 (grd (decide (0 ≤ n35) && decide (n35 < ni (List.length l5))) (oget l5 (Int.toNat n35) fun _ =>
                                                                     nam (List.set l5 (Int.toNat n35) (D.agg [D.int IntKind.i64 n70, D.int IntKind.i64 n73, D.str s76, D.int IntKind.i64 n79, D.int IntKind.i64 n82])) fun l96 =>
                                                                      ocall V 63 [(.op [(.rs (1, 0) l88), (.int .i64 n91), (.int .i64 n94)]), (.int .i64 (60))] fun x97 l98 =>
                                                                       asB x97 fun b99 => unc l98 fun x100 l101 => asOp x100 fun l102 => unc l102 fun x103 l104 => asRs (1, 0) x103 fun l105 => unc l104 fun x106 l107 => asI .i64 x106 fun n108 => unc l107 fun x109 l110 => asI .i64 x109 fun n111 => unn l110 (unn l101 (br b99
                                                                                 (ocall V 85 [(.op [(.rs (1, 0) l105), (.int .i64 n108), (.int .i64 n111)]), (.int .i64 (2))] fun x112 l113 =>
                                                                                  asI .i64 x112 fun n114 => unc l113 fun x115 l116 => asOp x115 fun l117 => unc l117 fun x118 l119 => asRs (1, 0) x118 fun l120 => unc l119 fun x121 l122 => asI .i64 x121 fun n123 => unc l122 fun x124 l125 => asI .i64 x124 fun n126 => unn l125 (unn l116 (grd (decide (0 ≤ IntKind.wrap IntKind.i64 (3000 + n114)) && decide (IntKind.wrap IntKind.i64 (3000 + n114) ≤ LIM)) (Lspec_l2Draw_8 (0) l120 n123 n126 (List.replicate (Int.toNat (IntKind.wrap IntKind.i64 (3000 + n114))) (D.agg [D.int IntKind.i64 (0), D.int IntKind.i64 (0), D.str { data := #[] }, D.int IntKind.i64 (0), D.int IntKind.i64 (0)]))))))
                                                                                 (some ((.agg [(.os (5, 0) l96)]), [(.op [(.rs (1, 0) l105), (.int .i64 n108), (.int .i64 n111)])])))))))))))))
                          (ocall V 63 [(.op [(.rs (1, 0) l26), (.int .i64 n29), (.int .i64 n32)]), (.int .i64 (60))] fun x127 l128 =>
                           asB x127 fun b129 => unc l128 fun x130 l131 => asOp x130 fun l132 => unc l132 fun x133 l134 => asRs (1, 0) x133 fun l135 => unc l134 fun x136 l137 => asI .i64 x136 fun n138 => unc l137 fun x139 l140 => asI .i64 x139 fun n141 => unn l140 (unn l131 (br b129
                                     (ocall V 85 [(.op [(.rs (1, 0) l135), (.int .i64 n138), (.int .i64 n141)]), (.int .i64 (2))] fun x142 l143 =>
                                      asI .i64 x142 fun n144 => unc l143 fun x145 l146 => asOp x145 fun l147 => unc l147 fun x148 l149 => asRs (1, 0) x148 fun l150 => unc l149 fun x151 l152 => asI .i64 x151 fun n153 => unc l152 fun x154 l155 => asI .i64 x154 fun n156 => unn l155 (unn l146 (grd (decide (0 ≤ IntKind.wrap IntKind.i64 (3000 + n144)) && decide (IntKind.wrap IntKind.i64 (3000 + n144) ≤ LIM)) (Lspec_l2Draw_8 (0) l150 n153 n156 (List.replicate (Int.toNat (IntKind.wrap IntKind.i64 (3000 + n144))) (D.agg [D.int IntKind.i64 (0), D.int IntKind.i64 (0), D.str { data := #[] }, D.int IntKind.i64 (0), D.int IntKind.i64 (0)]))))))
                                     (some ((.agg [(.os (5, 0) l5)]), [(.op [(.rs (1, 0) l135), (.int .i64 n138), (.int .i64 n141)])]))))))))
               (ocall V 63 [(.op [(.rs (1, 0) l11), (.int .i64 n14), (.int .i64 n17)]), (.int .i64 (60))] fun x157 l158 =>
                asB x157 fun b159 => unc l158 fun x160 l161 => asOp x160 fun l162 => unc l162 fun x163 l164 => asRs (1, 0) x163 fun l165 => unc l164 fun x166 l167 => asI .i64 x166 fun n168 => unc l167 fun x169 l170 => asI .i64 x169 fun n171 => unn l170 (unn l161 (br b159
                          (ocall V 85 [(.op [(.rs (1, 0) l165), (.int .i64 n168), (.int .i64 n171)]), (.int .i64 (2))] fun x172 l173 =>
                           asI .i64 x172 fun n174 => unc l173 fun x175 l176 => asOp x175 fun l177 => unc l177 fun x178 l179 => asRs (1, 0) x178 fun l180 => unc l179 fun x181 l182 => asI .i64 x181 fun n183 => unc l182 fun x184 l185 => asI .i64 x184 fun n186 => unn l185 (unn l176 (grd (decide (0 ≤ IntKind.wrap IntKind.i64 (3000 + n174)) && decide (IntKind.wrap IntKind.i64 (3000 + n174) ≤ LIM)) (Lspec_l2Draw_8 (0) l180 n183 n186 (List.replicate (Int.toNat (IntKind.wrap IntKind.i64 (3000 + n174))) (D.agg [D.int IntKind.i64 (0), D.int IntKind.i64 (0), D.str { data := #[] }, D.int IntKind.i64 (0), D.int IntKind.i64 (0)]))))))
                          (some ((.agg [(.os (5, 0) l5)]), [(.op [(.rs (1, 0) l165), (.int .i64 n168), (.int .i64 n171)])])))))))) := by
  exact (Vn_eq Try.func53 rfl _).trans (by kernel_rfl)
theorem Lspec_Read_27v1_eq (p0 : ByteArray) (p1 : Nat) (p2 : Int) (p3 : Int) (p4 : Int) (p5 : List D) (p6 : List D) (p7 : List D) (p8 : List D) : Lspec_Read_27v1 p0 p1 p2 p3 p4 p5 p6 p7 p8 =
  br (decide (p2 < ni (ByteArray.size p0)))
   (grd (decide (0 ≤ p2) && decide (p2 < ni (ByteArray.size p0))) (ocall V 73 [(.int .u8 (bt p0 p2))] fun x242 l243 =>
    asB x242 fun b244 => unn l243 (br b244
      (Lspec_Read_27v1 p0 p1 (IntKind.wrap IntKind.i64 (p2 + 1)) p3 p4 p5 p6 p7 p8)
      (grd (cutOk (ByteArray.size p0) (some p4) (some p2)) (ocall V 74 [(.str (ByteArray.extract p0 (Int.toNat p4) (Int.toNat p2)))] fun x245 l246 =>
       asTup x245 fun l247 => unc l247 fun x248 l249 => asAgg x248 fun l250 => unc l250 fun x251 l252 => asI .i64 x251 fun n253 => unc l252 fun x254 l255 => asI .i64 x254 fun n256 => unc l255 fun x257 l258 => asS x257 fun s259 => unc l258 fun x260 l261 => asI .i64 x260 fun n262 => unc l261 fun x263 l264 => asI .i64 x263 fun n265 => unn l264 (unc l249 fun x266 l267 => asB x266 fun b268 => unn l267 (unn l246 (br (!b268)
                       (ocall V 71 [(.agg [(.rs (5, 0) p5)])] fun x269 l270 =>
                        asAgg x269 fun l271 => unc l271 fun x272 l273 => asOs (5, 0) x272 fun l274 => unn l273 (unn l270 (some ((.tup [(.agg [(.os (5, 0) l274)]), (.os (1, 0) p6), (.int .i64 (3)), (.int .i64 p4)]), []))))
                       (grd (decide (0 ≤ p3) && decide (p3 < ni p1) && decide (0 + p1 ≤ List.length p7)) (oget p7 (0 + Int.toNat p3) fun x275 =>
                        asAgg x275 fun l276 => oget l276 1 fun x277 =>
                          asOs (1, 0) x277 fun l278 => asAgg x275 fun l279 => ocall V 75 [(.op [(.os (5, 0) p8)]), (.agg [(.int .i64 n253), (.int .i64 n256), (.str s259), (.int .i64 n262), (.int .i64 n265)])] fun x280 l281 =>
                             asI .i64 x280 fun n282 => unc l281 fun x283 l284 => asOp x283 fun l285 => unc l285 fun x286 l287 => asOs (5, 0) x286 fun l288 => unn l287 (unn l284 (grd (decide (ni (List.length (l278 ++ [D.int IntKind.i64 n282])) ≤ LIM)) (nam (l278 ++ [D.int IntKind.i64 n282]) fun l289 =>
                                   grd (decide (0 ≤ p3) && decide (p3 < ni p1) && decide (0 + p1 ≤ List.length (List.set p7 (0 + Int.toNat p3) (D.agg (List.take 1 l279 ++ [D.dead] ++ List.drop 2 l279))))) (oget (List.set p7 (0 + Int.toNat p3) (D.agg (List.take 1 l279 ++ [D.dead] ++ List.drop 2 l279))) (0 + Int.toNat p3) fun x290 =>
                                    asAgg x290 fun l291 => nam (List.set (List.set p7 (0 + Int.toNat p3) (D.agg (List.take 1 l279 ++ [D.dead] ++ List.drop 2 l279))) (0 + Int.toNat p3)
  (D.agg
    (List.take 1 l291 ++
        [D.os
            (TypeInfo.size (Tables.types (Program.toTables Try.prog))[3],
              match flat Try.prog (3) with
              | true => 0
              | false => 1)
            l289] ++
      List.drop 2 l291))) fun l292 =>
                                      Lspec_Read_9v1 p0 p1 p2 p5 p6 l292 l288))))))))))))))
   (grd (cutOk (ByteArray.size p0) (some p4) (some p2)) (ocall V 74 [(.str (ByteArray.extract p0 (Int.toNat p4) (Int.toNat p2)))] fun x293 l294 =>
    asTup x293 fun l295 => unc l295 fun x296 l297 => asAgg x296 fun l298 => unc l298 fun x299 l300 => asI .i64 x299 fun n301 => unc l300 fun x302 l303 => asI .i64 x302 fun n304 => unc l303 fun x305 l306 => asS x305 fun s307 => unc l306 fun x308 l309 => asI .i64 x308 fun n310 => unc l309 fun x311 l312 => asI .i64 x311 fun n313 => unn l312 (unc l297 fun x314 l315 => asB x314 fun b316 => unn l315 (unn l294 (br (!b316)
                    (ocall V 71 [(.agg [(.rs (5, 0) p5)])] fun x317 l318 =>
                     asAgg x317 fun l319 => unc l319 fun x320 l321 => asOs (5, 0) x320 fun l322 => unn l321 (unn l318 (some ((.tup [(.agg [(.os (5, 0) l322)]), (.os (1, 0) p6), (.int .i64 (3)), (.int .i64 p4)]), []))))
                    (grd (decide (0 ≤ p3) && decide (p3 < ni p1) && decide (0 + p1 ≤ List.length p7)) (oget p7 (0 + Int.toNat p3) fun x323 =>
                     asAgg x323 fun l324 => oget l324 1 fun x325 =>
                       asOs (1, 0) x325 fun l326 => asAgg x323 fun l327 => ocall V 75 [(.op [(.os (5, 0) p8)]), (.agg [(.int .i64 n301), (.int .i64 n304), (.str s307), (.int .i64 n310), (.int .i64 n313)])] fun x328 l329 =>
                          asI .i64 x328 fun n330 => unc l329 fun x331 l332 => asOp x331 fun l333 => unc l333 fun x334 l335 => asOs (5, 0) x334 fun l336 => unn l335 (unn l332 (grd (decide (ni (List.length (l326 ++ [D.int IntKind.i64 n330])) ≤ LIM)) (nam (l326 ++ [D.int IntKind.i64 n330]) fun l337 =>
                                grd (decide (0 ≤ p3) && decide (p3 < ni p1) && decide (0 + p1 ≤ List.length (List.set p7 (0 + Int.toNat p3) (D.agg (List.take 1 l327 ++ [D.dead] ++ List.drop 2 l327))))) (oget (List.set p7 (0 + Int.toNat p3) (D.agg (List.take 1 l327 ++ [D.dead] ++ List.drop 2 l327))) (0 + Int.toNat p3) fun x338 =>
                                 asAgg x338 fun l339 => nam (List.set (List.set p7 (0 + Int.toNat p3) (D.agg (List.take 1 l327 ++ [D.dead] ++ List.drop 2 l327))) (0 + Int.toNat p3)
  (D.agg
    (List.take 1 l339 ++
        [D.os
            (TypeInfo.size (Tables.types (Program.toTables Try.prog))[3],
              match flat Try.prog (3) with
              | true => 0
              | false => 1)
            l337] ++
      List.drop 2 l339))) fun l340 =>
                                   Lspec_Read_9v1 p0 p1 p2 p5 p6 l340 l336))))))))))) := by
  exact (Rn_eq _ _ _).trans (by kernel_rfl)
theorem espec_l3Write (a0_0 : List D) (a1_ : Int) (a2_ : ByteArray) : V 69 [.agg [.rs (5, 0) a0_0], .int .i64 a1_, .str a2_] =
  br (decide (ni (ByteArray.size a2_) > 400))
   (some ((.str a2_), []))
   (grd (decide (0 ≤ a1_) && decide (a1_ < ni (List.length a0_0))) (oget a0_0 (Int.toNat a1_) fun x0 =>
    asAgg x0 fun l1 => unc l1 fun x2 l3 => asI .i64 x2 fun n4 => unc l3 fun x5 l6 => asI .i64 x5 fun n7 => unc l6 fun x8 l9 => asS x8 fun s10 => unc l9 fun x11 l12 => asI .i64 x11 fun n13 => unc l12 fun x14 l15 => asI .i64 x14 fun n16 => unn l15 (br (n4 == 1)
                (grd (decide (ni (ByteArray.size a2_ + ByteArray.size { data := #[40, 41] }) ≤ LIM)) (some ((.str (a2_ ++ { data := #[40, 41] })), [])))
                (br (n4 == 2)
                 (br (n7 == 1)
                  (grd (decide (ni (ByteArray.size a2_ + ByteArray.size { data := #[35, 116] }) ≤ LIM)) (some ((.str (a2_ ++ { data := #[35, 116] })), [])))
                  (grd (decide (ni (ByteArray.size a2_ + ByteArray.size { data := #[35, 102] }) ≤ LIM)) (some ((.str (a2_ ++ { data := #[35, 102] })), []))))
                 (br (n4 == 3)
                  (ocall V 126 [(.int .i64 n7)] fun x17 l18 =>
                   asS x17 fun s19 => unn l18 (grd (decide (ni (ByteArray.size a2_ + ByteArray.size s19) ≤ LIM)) (some ((.str (a2_ ++ s19)), []))))
                  (br (n4 == 4)
                   (grd (decide (ni (ByteArray.size a2_ + ByteArray.size s10) ≤ LIM)) (some ((.str (a2_ ++ s10)), [])))
                   (br (n4 == 6)
                    (grd (decide (ni (ByteArray.size a2_ + ByteArray.size { data := #[35, 102, 117, 110] }) ≤ LIM)) (ocall V 126 [(.int .i64 n7)] fun x20 l21 =>
                     asS x20 fun s22 => unn l21 (grd (decide (ni (ByteArray.size (a2_ ++ { data := #[35, 102, 117, 110] }) + ByteArray.size s22) ≤ LIM)) (some ((.str (a2_ ++ { data := #[35, 102, 117, 110] } ++ s22)), [])))))
                    (br (n4 == 7)
                     (grd (decide (ni (ByteArray.size a2_ + ByteArray.size { data := #[35, 107, 111, 110, 116] }) ≤ LIM)) (ocall V 126 [(.int .i64 n7)] fun x23 l24 =>
                      asS x23 fun s25 => unn l24 (grd (decide (ni (ByteArray.size (a2_ ++ { data := #[35, 107, 111, 110, 116] }) + ByteArray.size s25) ≤ LIM)) (some ((.str (a2_ ++ { data := #[35, 107, 111, 110, 116] } ++ s25)), [])))))
                     (br (n4 == 8)
                      (grd (decide (ni (ByteArray.size a2_ + ByteArray.size { data := #[35, 112, 114, 105, 109] }) ≤ LIM)) (ocall V 126 [(.int .i64 n7)] fun x26 l27 =>
                       asS x26 fun s28 => unn l27 (grd (decide (ni (ByteArray.size (a2_ ++ { data := #[35, 112, 114, 105, 109] }) + ByteArray.size s28) ≤ LIM)) (some ((.str (a2_ ++ { data := #[35, 112, 114, 105, 109] } ++ s28)), [])))))
                      (br (n4 == 9)
                       (grd (decide (ni (ByteArray.size a2_ + ByteArray.size { data := #[35, 112, 105, 100] }) ≤ LIM)) (ocall V 126 [(.int .i64 n7)] fun x29 l30 =>
                        asS x29 fun s31 => unn l30 (grd (decide (ni (ByteArray.size (a2_ ++ { data := #[35, 112, 105, 100] }) + ByteArray.size s31) ≤ LIM)) (some ((.str (a2_ ++ { data := #[35, 112, 105, 100] } ++ s31)), [])))))
                       (grd (decide (ni (ByteArray.size a2_ + ByteArray.size { data := #[40] }) ≤ LIM)) (ocall V 69 [(.agg [(.rs (5, 0) a0_0)]), (.int .i64 n13), (.str (a2_ ++ { data := #[40] }))] fun x32 l33 =>
                        asS x32 fun s34 => unn l33 (Lspec_l3Write_24 s34 a0_0 n4 n7 s10 n13 n16))))))))))))) := by
  exact (Vn_eq Try.func69 rfl _).trans (by kernel_rfl)
theorem Limpl_reading_text_2_eq (p0 : ByteArray) (p1 : Int) (p2 : List D) (p3 : List D) (p4 : List D) : Limpl_reading_text_2 p0 p1 p2 p3 p4 =
  br (decide (p1 < ni (ByteArray.size p0)))
   (grd (decide (0 ≤ p1) && decide (p1 < ni (ByteArray.size p0))) (br (bt p0 p1 == 32)
    (Limpl_reading_text_2 p0 (IntKind.wrap IntKind.i64 (p1 + 1)) p2 p3 p4)
    (br (bt p0 p1 == 40)
     (grd (decide
  (ni
      (List.length
        (p3 ++
          [D.os
              (TypeInfo.size (Tables.types (Program.toTables Try.prog))[3],
                match flat Try.prog (3) with
                | true => 0
                | false => 1)
              []])) ≤
    LIM)) (nam (p3 ++
  [D.os
      (TypeInfo.size (Tables.types (Program.toTables Try.prog))[3],
        match flat Try.prog (3) with
        | true => 0
        | false => 1)
      []]) fun l0 =>
      grd (decide (ni (List.length (p4 ++ [D.int IntKind.i64 p1])) ≤ LIM)) (nam (p4 ++ [D.int IntKind.i64 p1]) fun l1 =>
       Limpl_reading_text_2 p0 (IntKind.wrap IntKind.i64 (p1 + 1)) p2 l0 l1)))
     (br (bt p0 p1 == 41)
      (ocall V 134 [(.op [(.os (5, 0) p2), (.os (1, 2) p3), (.os (1, 0) p4)])] fun x2 l3 =>
       asB x2 fun b4 => unc l3 fun x5 l6 => asOp x5 fun l7 => unc l7 fun x8 l9 => asOs (5, 0) x8 fun l10 => unc l9 fun x11 l12 => asOs (1, 2) x11 fun l13 => unc l12 fun x14 l15 => asOs (1, 0) x14 fun l16 => unn l15 (unn l6 (br (!b4)
                 (some ((.tup [(.int .i64 (5)), (.int .i64 p1)]), [(.op [(.os (5, 0) l10), (.os (1, 2) l13), (.os (1, 0) l16)])]))
                 (Limpl_reading_text_2 p0 (IntKind.wrap IntKind.i64 (p1 + 1)) l10 l13 l16))))
      (ocall V 135 [(.int .u8 (bt p0 p1))] fun x17 l18 =>
       asB x17 fun b19 => unn l18 (br (!b19)
         (some ((.tup [(.int .i64 (2)), (.int .i64 p1)]), [(.op [(.os (5, 0) p2), (.os (1, 2) p3), (.os (1, 0) p4)])]))
         (Limpl_reading_text_5 p0 p1 p1 p2 p3 p4)))))))
   (br (decide (ni (List.length p4) > 0))
    (grd (decide (0 ≤ IntKind.wrap IntKind.i64 (ni (List.length p4) - 1)) && decide (IntKind.wrap IntKind.i64 (ni (List.length p4) - 1) < ni (List.length p4))) (oget p4 (Int.toNat (IntKind.wrap IntKind.i64 (ni (List.length p4) - 1))) fun x20 =>
     asI .i64 x20 fun n21 => some ((.tup [(.int .i64 (4)), (.int .i64 n21)]), [(.op [(.os (5, 0) p2), (.os (1, 2) p3), (.os (1, 0) p4)])])))
    (some ((.tup [(.int .i64 (0)), (.int .i64 (ni (ByteArray.size p0)))]), [(.op [(.os (5, 0) p2), (.os (1, 2) p3), (.os (1, 0) p4)])]))) := by
  exact (Rn_eq _ _ _).trans (by kernel_rfl)
theorem Lspec_l7Reach_7_eq (p0 : Int) (p1 : List D) (p2 : List D) : Lspec_l7Reach_7 p0 p1 p2 =
  br (decide (p0 ≥ 0))
   (grd (decide (0 ≤ p0) && decide (p0 < ni (List.length p1))) (oget p1 (Int.toNat p0) fun x4 =>
    asAgg x4 fun l5 => unc l5 fun x6 l7 => asI .i64 x6 fun n8 => unc l7 fun x9 l10 => asI .i64 x9 fun _ => unc l10 fun x12 l13 => asS x12 fun _ => unc l13 fun x15 l16 => asI .i64 x15 fun n17 => unc l16 fun x18 l19 => asI .i64 x18 fun n20 => unn l19 (grd (decide (0 ≤ p0) && decide (p0 < ni (List.length p2))) (oget p2 (Int.toNat p0) fun x21 =>
                asB x21 fun b22 => br (!b22)
                  (Lspec_l7Reach_7 (IntKind.wrap IntKind.i64 (p0 - 1)) p1 p2)
                  (br (n8 == 5)
                   (grd (decide (0 ≤ n17) && decide (n17 < ni (List.length p2))) (oget p2 (Int.toNat n17) fun _ =>
                    nam (List.set p2 (Int.toNat n17) (D.bool true)) fun l24 =>
                     grd (decide (0 ≤ n20) && decide (n20 < ni (List.length l24))) (oget l24 (Int.toNat n20) fun _ =>
                      nam (List.set l24 (Int.toNat n20) (D.bool true)) fun l26 =>
                       Lspec_l7Reach_7 (IntKind.wrap IntKind.i64 (p0 - 1)) p1 l26)))
                   (br (n8 == 6)
                    (br (n8 == 6)
                     (grd (decide (0 ≤ n17) && decide (n17 < ni (List.length p2))) (oget p2 (Int.toNat n17) fun _ =>
                      nam (List.set p2 (Int.toNat n17) (D.bool true)) fun l28 =>
                       Lspec_l7Reach_7 (IntKind.wrap IntKind.i64 (p0 - 1)) p1 l28))
                     (Lspec_l7Reach_7 (IntKind.wrap IntKind.i64 (p0 - 1)) p1 p2))
                    (br (n8 == 7)
                     (grd (decide (0 ≤ n17) && decide (n17 < ni (List.length p2))) (oget p2 (Int.toNat n17) fun _ =>
                      nam (List.set p2 (Int.toNat n17) (D.bool true)) fun l30 =>
                       Lspec_l7Reach_7 (IntKind.wrap IntKind.i64 (p0 - 1)) p1 l30))
                     (Lspec_l7Reach_7 (IntKind.wrap IntKind.i64 (p0 - 1)) p1 p2))))))))
   (some ((.os (1, 0) p2), [])) := by
  exact (Rn_eq _ _ _).trans (by kernel_rfl)
theorem espec_l1Pick (a0_0 : List D) (a0_1 : Int) (a0_2 : Int) (a1_ : List D) : V 122 [.op [.rs (1, 0) a0_0, .int .i64 a0_1, .int .i64 a0_2], .rs (1, 0) a1_] =
  ocall V 85 [(.op [(.rs (1, 0) a0_0), (.int .i64 a0_1), (.int .i64 a0_2)]), (.int .i64 (ni (List.length a1_)))] fun x0 l1 =>
   asI .i64 x0 fun n2 => unc l1 fun x3 l4 => asOp x3 fun l5 => unc l5 fun x6 l7 => asRs (1, 0) x6 fun l8 => unc l7 fun x9 l10 => asI .i64 x9 fun n11 => unc l10 fun x12 l13 => asI .i64 x12 fun n14 => unn l13 (unn l4 (grd (decide (0 ≤ n2) && decide (n2 < ni (List.length a1_))) (oget a1_ (Int.toNat n2) fun x15 =>
             asS x15 fun s16 => some ((.str s16), [(.op [(.rs (1, 0) l8), (.int .i64 n11), (.int .i64 n14)])])))) := by
  exact (Vn_eq Try.func122 rfl _).trans (by kernel_rfl)
theorem Lspec_l7Keep_5_eq (p0 : List D) (p1 : Int) (p2 : List D) (p3 : List D) (p4 : List D) : Lspec_l7Keep_5 p0 p1 p2 p3 p4 =
  br (decide (p1 < ni (List.length p0)))
   (grd (decide (0 ≤ p1) && decide (p1 < ni (List.length p0))) (oget p0 (Int.toNat p1) fun x12 =>
    asI .i64 x12 fun n13 => grd (decide (0 ≤ n13) && decide (n13 < ni (List.length p2))) (oget p2 (Int.toNat n13) fun x14 =>
      asI .i64 x14 fun n15 => grd (decide (ni (List.length (p3 ++ [D.int IntKind.i64 n15])) ≤ LIM)) (nam (p3 ++ [D.int IntKind.i64 n15]) fun l16 =>
        Lspec_l7Keep_5 p0 (IntKind.wrap IntKind.i64 (p1 + 1)) p2 l16 p4))))
   (some ((.tup [(.agg [(.os (5, 0) p4)]), (.os (1, 0) p3)]), [])) := by
  exact (Rn_eq _ _ _).trans (by kernel_rfl)
theorem Limpl_natural_5_eq (p0 : ByteArray) (p1 : Int) (p2 : Int) (p3 : Int) : Limpl_natural_5 p0 p1 p2 p3 =
  br (decide (p3 < p2))
   (grd (decide (0 ≤ p3) && decide (p3 < ni (ByteArray.size p0))) (ocall V 165 [(.int .u8 (bt p0 p3))] fun x0 l1 =>
    asB x0 fun b2 => unn l1 (br (!b2)
      (some ((.tup [(.int .i64 (0)), (.bool false)]), []))
      (grd (decide (0 ≤ p3) && decide (p3 < ni (ByteArray.size p0))) (Limpl_natural_5 p0 (IntKind.wrap IntKind.i64 (IntKind.wrap IntKind.i64 (10 * p1) + IntKind.wrap IntKind.i64 (IntKind.wrap IntKind.u8 (bt p0 p3 - 48)))) p2 (IntKind.wrap IntKind.i64 (p3 + 1)))))))
   (some ((.tup [(.int .i64 p1), (.bool true)]), [])) := by
  exact (Rn_eq _ _ _).trans (by kernel_rfl)
theorem espec_l2Add (p : List D) (k : Int) (n : Int) (s : ByteArray) (a : Int) (b : Int) : V 75 [.op [.os (5, 0) p], .agg [.int .i64 k, .int .i64 n, .str s, .int .i64 a, .int .i64 b]] =
  grd (decide (ni (List.length (p ++ [D.agg [D.int IntKind.i64 k, D.int IntKind.i64 n, D.str s, D.int IntKind.i64 a, D.int IntKind.i64 b]])) ≤ LIM)) (nam (p ++ [D.agg [D.int IntKind.i64 k, D.int IntKind.i64 n, D.str s, D.int IntKind.i64 a, D.int IntKind.i64 b]]) fun l0 =>
   some ((.int .i64 (IntKind.wrap IntKind.i64 (ni (List.length l0) - 1))), [(.op [(.os (5, 0) l0)])])) := by
  exact (Vn_eq Try.func75 rfl _).trans (by kernel_rfl)
theorem espec_l2DrawRight (a0_0 : List D) (a0_1 : Int) (a0_2 : Int) : V 89 [.op [.rs (1, 0) a0_0, .int .i64 a0_1, .int .i64 a0_2]] =
  ocall V 85 [(.op [(.rs (1, 0) a0_0), (.int .i64 a0_1), (.int .i64 a0_2)]), (.int .i64 (16))] fun x0 l1 =>
   asI .i64 x0 fun n2 => unc l1 fun x3 l4 => asOp x3 fun l5 => unc l5 fun x6 l7 => asRs (1, 0) x6 fun l8 => unc l7 fun x9 l10 => asI .i64 x9 fun n11 => unc l10 fun x12 l13 => asI .i64 x12 fun n14 => unn l13 (unn l4 (Lspec_l2DrawRight_4 n2 (0) l8 n11 n14)) := by
  exact (Vn_eq Try.func89 rfl _).trans (by kernel_rfl)
theorem espec_l2List (p : List D) (l : List D) : V 72 [.op [.os (5, 0) p], .rs (1, 0) l] =
  ocall V 75 [(.op [(.os (5, 0) p)]), (.agg [(.int .i64 (1)), (.int .i64 (0)), (.str ({ data := #[] })), (.int .i64 (0)), (.int .i64 (0))])] fun x0 l1 =>
   asI .i64 x0 fun n2 => unc l1 fun x3 l4 => asOp x3 fun l5 => unc l5 fun x6 l7 => asOs (5, 0) x6 fun l8 => unn l7 (unn l4 (Lspec_l2List_3 l n2 (IntKind.wrap IntKind.i64 (ni (List.length l) - 1)) l8)) := by
  exact (Vn_eq Try.func72 rfl _).trans (by kernel_rfl)
theorem eimpl_isWordByte (a0_ : Int) : V 135 [.int .u8 a0_] =
  ocall V 163 [(.int .u8 a0_)] fun x0 l1 =>
   asB x0 fun b2 => unn l1 (br b2
     (some ((.bool true), []))
     (ocall V 165 [(.int .u8 a0_)] fun x3 l4 =>
      asB x3 fun b5 => unn l4 (br b5
        (some ((.bool true), []))
        (some ((.bool (a0_ == 35)), []))))) := by
  exact (Vn_eq Try.func135 rfl _).trans (by kernel_rfl)
theorem eimpl_reach (a0_0 : List D) (a1_ : List D) : V 162 [.agg [.rs (5, 0) a0_0], .rs (1, 0) a1_] =
  grd (decide (0 ≤ ni (List.length a0_0)) && decide (ni (List.length a0_0) ≤ LIM)) (Limpl_reach_3 a1_ (ni (List.length a1_)) (0) a0_0 (List.replicate (Int.toNat (ni (List.length a0_0))) (D.bool false))) := by
  exact (Vn_eq Try.func162 rfl _).trans (by kernel_rfl)
theorem eimpl_NameOk (a0_ : ByteArray) : V 121 [.str a0_] =
  ocall V 106 [(.int .i64 (ni (ByteArray.size a0_))), (.int .i64 (1)), (.int .i64 (12))] fun x0 l1 =>
   asB x0 fun b2 => unn l1 (br (!b2)
     (some ((.bool false), []))
     (Limpl_NameOk_4 a0_ (ni (ByteArray.size a0_)) (0))) := by
  exact (Vn_eq Try.func121 rfl _).trans (by kernel_rfl)
theorem eslices_Contains_byte_byte (a0_ : List D) (a1_ : Int) : V 175 [.rs (1, 0) a0_, .int .u8 a1_] =
  ocall V 180 [(.rs (1, 0) a0_), (.int .u8 a1_)] fun x0 l1 =>
   asI .i64 x0 fun n2 => unn l1 (some ((.bool (decide (n2 ≥ 0))), [])) := by
  exact (Vn_eq Try.func175 rfl _).trans (by kernel_rfl)
theorem espec_l2Copy (a0_0 : List D) : V 71 [.agg [.rs (5, 0) a0_0]] =
  grd (decide (ni (List.length ([] ++ a0_0)) ≤ LIM)) (nam ([] ++ a0_0) fun l0 =>
   some ((.agg [(.os (5, 0) l0)]), [])) := by
  exact (Vn_eq Try.func71 rfl _).trans (by kernel_rfl)
theorem eimpl_isDigit (a0_ : Int) : V 165 [.int .u8 a0_] =
  br (decide (a0_ ≥ 48))
   (some ((.bool (decide (a0_ ≤ 57))), []))
   (some ((.bool false), [])) := by
  exact (Vn_eq Try.func165 rfl _).trans (by kernel_rfl)
theorem eimpl_PoolOk (a0_0 : List D) : V 18 [.agg [.rs (5, 0) a0_0]] =
  Limpl_PoolOk_2 a0_0 (ni (List.length a0_0)) (0) a0_0 := by
  exact (Vn_eq Try.func18 rfl _).trans (by kernel_rfl)
end Go.Eng
