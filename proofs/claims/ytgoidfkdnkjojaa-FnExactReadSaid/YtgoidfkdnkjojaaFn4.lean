/- the functions as the interpreter has them -/
import Derived.Test.YtgoidfkdnkjojaaFn0
namespace Go.Eng
open Go.Proofs Go.Proofs.Try
set_option maxRecDepth 100000
theorem elaws_FnExactRead (a0_0 : List D) (a1_ : ByteArray) : V 5 [.agg [.rs (5, 0) a0_0], .str a1_] =
  br (decide (ni (ByteArray.size a1_) > 1048576))
   (some ((.bool true), []))
   (ocall V 21 [(.agg [(.rs (5, 0) a0_0)]), (.int .i64 (1048576))] fun x0 l1 =>
    asI .i64 x0 fun n2 => unn l1 (br (decide (n2 < 0))
      (some ((.bool true), []))
      (ocall V 23 [(.agg [(.rs (5, 0) a0_0)])] fun x3 l4 =>
       asAgg x3 fun l5 => unc l5 fun x6 l7 => asOs (5, 0) x6 fun l8 => unn l7 (unn l4 (ocall V 22 [(.agg [(.rs (5, 0) l8)]), (.str a1_)] fun x9 l10 =>
           asTup x9 fun l11 => unc l11 fun x12 l13 => asAgg x12 fun l14 => unc l14 fun x15 l16 => asOs (5, 0) x15 fun l17 => unn l16 (unc l13 fun x18 l19 => asOs (1, 0) x18 fun l20 => unc l19 fun x21 l22 => asI .i64 x21 fun n23 => unc l22 fun x24 l25 => asI .i64 x24 fun n26 => unn l25 (unn l10 (ocall V 23 [(.agg [(.rs (5, 0) a0_0)])] fun x27 l28 =>
                       asAgg x27 fun l29 => unc l29 fun x30 l31 => asOs (5, 0) x30 fun l32 => unn l31 (unn l28 (ocall V 24 [(.agg [(.rs (5, 0) l32)]), (.str a1_)] fun x33 l34 =>
                           asTup x33 fun l35 => unc l35 fun x36 l37 => asAgg x36 fun l38 => unc l38 fun x39 l40 => asOs (5, 0) x39 fun l41 => unn l40 (unc l37 fun x42 l43 => asOs (1, 0) x42 fun l44 => unc l43 fun x45 l46 => asI .i64 x45 fun n47 => unc l46 fun x48 l49 => asI .i64 x48 fun n50 => unn l49 (unn l34 (ocall V 25 [(.agg [(.rs (5, 0) l41)]), (.agg [(.rs (5, 0) l17)])] fun x51 l52 =>
                                       asB x51 fun b53 => unn l52 (br (!b53)
                                         (some ((.bool false), []))
                                         (ocall V 26 [(.rs (1, 0) l44), (.rs (1, 0) l20)] fun x54 l55 =>
                                          asB x54 fun b56 => unn l55 (br (!b56)
                                            (some ((.bool false), []))
                                            (br (n47 != n23)
                                             (some ((.bool false), []))
                                             (br (n50 != n26)
                                              (some ((.bool false), []))
                                              (ocall V 23 [(.agg [(.rs (5, 0) a0_0)])] fun x57 l58 =>
                                               asAgg x57 fun l59 => unc l59 fun x60 l61 => asOs (5, 0) x60 fun l62 => unn l61 (unn l58 (ocall V 25 [(.agg [(.rs (5, 0) l32)]), (.agg [(.rs (5, 0) l62)])] fun x63 l64 =>
                                                   asB x63 fun b65 => unn l64 (br (!b65)
                                                     (some ((.bool false), []))
                                                     (ocall V 27 [(.agg [(.os (5, 0) l32)]), (.int .i64 (1))] fun x66 l67 =>
                                                      asI .i64 x66 fun n68 => unc l67 fun x69 l70 => asAgg x69 fun l71 => unc l71 fun x72 l73 => asOs (5, 0) x72 fun _ => unn l73 (unn l70 (br (decide (n68 < 0))
                                                            (some ((.bool false), []))
                                                            (ocall V 25 [(.agg [(.rs (5, 0) l41)]), (.agg [(.rs (5, 0) l17)])] fun x75 l76 =>
                                                             asB x75 fun b77 => unn l76 (br (!b77)
                                                               (some ((.bool false), []))
                                                               (ocall V 26 [(.rs (1, 0) l44), (.rs (1, 0) l20)] fun x78 l79 =>
                                                                asB x78 fun b80 => unn l79 (br (!b80)
                                                                  (some ((.bool false), []))
                                                                  (br (n47 != n23)
                                                                   (some ((.bool false), []))
                                                                   (br (n50 != n26)
                                                                    (some ((.bool false), []))
                                                                    (ocall V 27 [(.agg [(.os (5, 0) l41)]), (.int .i64 (1))] fun x81 l82 =>
                                                                     asI .i64 x81 fun n83 => unc l82 fun x84 l85 => asAgg x84 fun l86 => unc l86 fun x87 l88 => asOs (5, 0) x87 fun l89 => unn l88 (unn l85 (ocall V 28 [(.os (1, 0) l44), (.int .i64 n83)] fun x90 l91 =>
                                                                           asI .i64 x90 fun n92 => unc l91 fun x93 l94 => asOs (1, 0) x93 fun l95 => unn l94 (ocall V 29 [(.agg [(.rs (5, 0) l89)]), (.int .i64 (1))] fun x96 l97 =>
                                                                               asI .i64 x96 fun n98 => unn l97 (br (decide (n98 < 0))
                                                                                 (some ((.bool false), []))
                                                                                 (ocall V 30 [(.rs (1, 0) l95), (.int .i64 n98)] fun x99 l100 =>
                                                                                  asI .i64 x99 fun n101 => unn l100 (br (decide (n101 < 0))
                                                                                    (some ((.bool false), []))
                                                                                    (br (n101 != n92)
                                                                                     (some ((.bool false), []))
                                                                                     (ocall V 23 [(.agg [(.rs (5, 0) a0_0)])] fun x102 l103 =>
                                                                                      asAgg x102 fun l104 => unc l104 fun x105 l106 => asOs (5, 0) x105 fun l107 => unn l106 (unn l103 (ocall V 24 [(.agg [(.rs (5, 0) l107)]), (.str a1_)] fun x108 l109 =>
                                                                                          asTup x108 fun l110 => unc l110 fun x111 l112 => asAgg x111 fun l113 => unc l113 fun x114 l115 => asOs (5, 0) x114 fun l116 => unn l115 (unc l112 fun x117 l118 => asOs (1, 0) x117 fun l119 => unc l118 fun x120 l121 => asI .i64 x120 fun n122 => unc l121 fun x123 l124 => asI .i64 x123 fun n125 => unn l124 (unn l109 (ocall V 25 [(.agg [(.rs (5, 0) l116)]), (.agg [(.rs (5, 0) l17)])] fun x126 l127 =>
                                                                                                      asB x126 fun b128 => unn l127 (br (!b128)
                                                                                                        (some ((.bool false), []))
                                                                                                        (ocall V 26 [(.rs (1, 0) l119), (.rs (1, 0) l20)] fun x129 l130 =>
                                                                                                         asB x129 fun b131 => unn l130 (br (!b131)
                                                                                                           (some ((.bool false), []))
                                                                                                           (br (n122 != n23)
                                                                                                            (some ((.bool false), []))
                                                                                                            (br (n125 != n26)
                                                                                                             (some ((.bool false), []))
                                                                                                             (ocall V 29 [(.agg [(.rs (5, 0) l89)]), (.int .i64 (1))] fun x132 l133 =>
                                                                                                              asI .i64 x132 fun n134 => unn l133 (br (decide (n134 < 0))
                                                                                                                (some ((.bool false), []))
                                                                                                                (ocall V 30 [(.rs (1, 0) l95), (.int .i64 n134)] fun x135 l136 =>
                                                                                                                 asI .i64 x135 fun n137 => unn l136 (br (decide (n137 < 0))
                                                                                                                   (some ((.bool false), []))
                                                                                                                   (br (n137 != n92)
                                                                                                                    (some ((.bool false), []))
                                                                                                                    (some ((.bool true), []))))))))))))))))))))))))))))))))))))))))))))))))))))))))) := by
  exact (Vn_eq Try.func5 rfl _).trans (by kernel_rfl)
theorem Lspec_Read_27v1_eq (p0 : ByteArray) (p1 : Nat) (p2 : Int) (p3 : Int) (p4 : Int) (p5 : List D) (p6 : List D) (p7 : List D) (p8 : List D) : Lspec_Read_27v1 p0 p1 p2 p3 p4 p5 p6 p7 p8 =
  br (decide (p2 < ni (ByteArray.size p0)))
   (grd (decide (0 ≤ p2) && decide (p2 < ni (ByteArray.size p0))) (ocall V 73 [(.int .u8 (bt p0 p2))] fun x242 l243 =>
    asB x242 fun b244 => unn l243 (br b244
      (Lspec_Read_27v1 p0 p1 (IntKind.wrap IntKind.i64 (p2 + 1)) p3 p4 p5 p6 p7 p8)
      (grd (cutOk (ByteArray.size p0) (some p4) (some p2)) (ocall V 74 [(.str (ByteArray.extract p0 (Int.toNat p4) (Int.toNat p2)))] fun x245 l246 =>
       asTup x245 fun l247 => unc l247 fun x248 l249 => asAgg x248 fun l250 => unc l250 fun x251 l252 => asI .i64 x251 fun n253 => unc l252 fun x254 l255 => asI .i64 x254 fun n256 => unc l255 fun x257 l258 => asS x257 fun s259 => unc l258 fun x260 l261 => asI .i64 x260 fun n262 => unc l261 fun x263 l264 => asI .i64 x263 fun n265 => unn l264 (unc l249 fun x266 l267 => asB x266 fun b268 => unn l267 (unn l246 (br (!b268)
                       (ocall V 71 [(.agg [(.rs (5, 0) p5)])] fun x269 l270 =>
                        asAgg x269 fun l271 => unc l271 fun x272 l273 => asOs (5, 0) x272 fun l274 => unn l273 (unn l270 (some ((.tup [(.agg [(.os (5, 0) l274)]), (.os (1, 0) p6), (.int .i64 (3)), (.int .i64 p4)]), []))))
                       (grd (decide (0 ≤ p3) && decide (p3 < ni p1) && decide (0 + p1 ≤ List.length p7)) (oget p7 (0 + Int.toNat p3) fun x275 =>
                        asAgg x275 fun l276 => oget l276 1 fun x277 =>
                          asOs (1, 0) x277 fun l278 => asAgg x275 fun l279 => ocall V 75 [(.op [(.os (5, 0) p8)]), (.agg [(.int .i64 n253), (.int .i64 n256), (.str s259), (.int .i64 n262), (.int .i64 n265)])] fun x280 l281 =>
                             asI .i64 x280 fun n282 => unc l281 fun x283 l284 => asOp x283 fun l285 => unc l285 fun x286 l287 => asOs (5, 0) x286 fun l288 => unn l287 (unn l284 (grd (decide (ni (List.length (l278 ++ [D.int IntKind.i64 n282])) ≤ LIM)) (nam (l278 ++ [D.int IntKind.i64 n282]) fun l289 =>
                                   grd (decide (0 ≤ p3) && decide (p3 < ni p1) && decide (0 + p1 ≤ List.length (List.set p7 (0 + Int.toNat p3) (D.agg (List.take 1 l279 ++ [D.dead] ++ List.drop 2 l279))))) (oget (List.set p7 (0 + Int.toNat p3) (D.agg (List.take 1 l279 ++ [D.dead] ++ List.drop 2 l279))) (0 + Int.toNat p3) fun x290 =>
                                    asAgg x290 fun l291 => nam (List.set (List.set p7 (0 + Int.toNat p3) (D.agg (List.take 1 l279 ++ [D.dead] ++ List.drop 2 l279))) (0 + Int.toNat p3)
  (D.agg
    (List.take 1 l291 ++
        [D.os
            (TypeInfo.size (Tables.types (Program.toTables Try.prog))[3],
              match flat Try.prog (3) with
              | true => 0
              | false => 1)
            l289] ++
      List.drop 2 l291))) fun l292 =>
                                      Lspec_Read_9v1 p0 p1 p2 p5 p6 l292 l288))))))))))))))
   (grd (cutOk (ByteArray.size p0) (some p4) (some p2)) (ocall V 74 [(.str (ByteArray.extract p0 (Int.toNat p4) (Int.toNat p2)))] fun x293 l294 =>
    asTup x293 fun l295 => unc l295 fun x296 l297 => asAgg x296 fun l298 => unc l298 fun x299 l300 => asI .i64 x299 fun n301 => unc l300 fun x302 l303 => asI .i64 x302 fun n304 => unc l303 fun x305 l306 => asS x305 fun s307 => unc l306 fun x308 l309 => asI .i64 x308 fun n310 => unc l309 fun x311 l312 => asI .i64 x311 fun n313 => unn l312 (unc l297 fun x314 l315 => asB x314 fun b316 => unn l315 (unn l294 (br (!b316)
                    (ocall V 71 [(.agg [(.rs (5, 0) p5)])] fun x317 l318 =>
                     asAgg x317 fun l319 => unc l319 fun x320 l321 => asOs (5, 0) x320 fun l322 => unn l321 (unn l318 (some ((.tup [(.agg [(.os (5, 0) l322)]), (.os (1, 0) p6), (.int .i64 (3)), (.int .i64 p4)]), []))))
                    (grd (decide (0 ≤ p3) && decide (p3 < ni p1) && decide (0 + p1 ≤ List.length p7)) (oget p7 (0 + Int.toNat p3) fun x323 =>
                     asAgg x323 fun l324 => oget l324 1 fun x325 =>
                       asOs (1, 0) x325 fun l326 => asAgg x323 fun l327 => ocall V 75 [(.op [(.os (5, 0) p8)]), (.agg [(.int .i64 n301), (.int .i64 n304), (.str s307), (.int .i64 n310), (.int .i64 n313)])] fun x328 l329 =>
                          asI .i64 x328 fun n330 => unc l329 fun x331 l332 => asOp x331 fun l333 => unc l333 fun x334 l335 => asOs (5, 0) x334 fun l336 => unn l335 (unn l332 (grd (decide (ni (List.length (l326 ++ [D.int IntKind.i64 n330])) ≤ LIM)) (nam (l326 ++ [D.int IntKind.i64 n330]) fun l337 =>
                                grd (decide (0 ≤ p3) && decide (p3 < ni p1) && decide (0 + p1 ≤ List.length (List.set p7 (0 + Int.toNat p3) (D.agg (List.take 1 l327 ++ [D.dead] ++ List.drop 2 l327))))) (oget (List.set p7 (0 + Int.toNat p3) (D.agg (List.take 1 l327 ++ [D.dead] ++ List.drop 2 l327))) (0 + Int.toNat p3) fun x338 =>
                                 asAgg x338 fun l339 => nam (List.set (List.set p7 (0 + Int.toNat p3) (D.agg (List.take 1 l327 ++ [D.dead] ++ List.drop 2 l327))) (0 + Int.toNat p3)
  (D.agg
    (List.take 1 l339 ++
        [D.os
            (TypeInfo.size (Tables.types (Program.toTables Try.prog))[3],
              match flat Try.prog (3) with
              | true => 0
              | false => 1)
            l337] ++
      List.drop 2 l339))) fun l340 =>
                                   Lspec_Read_9v1 p0 p1 p2 p5 p6 l340 l336))))))))))) := by
  exact (Rn_eq _ _ _).trans (by kernel_rfl)
theorem espec_l4Instr (a0_0 : List D) (a0_1 : List D) (a0_2 : List D) (a1_ : Int) : V 171 [.agg [.rs (5, 0) a0_0, .rs (4, 0) a0_1, .rs (3, 0) a0_2], .int .i64 a1_] =
  grd (decide (0 ≤ a1_) && decide (a1_ < ni (List.length a0_1))) (oget a0_1 (Int.toNat a1_) fun x0 =>
   asAgg x0 fun l1 => unc l1 fun x2 l3 => asI .i64 x2 fun n4 => unc l3 fun x5 l6 => asI .i64 x5 fun n7 => unc l6 fun x8 l9 => asI .i64 x8 fun n10 => unc l9 fun x11 l12 => asS x11 fun s13 => unn l12 (br (n4 == 1)
             (br (n4 == n4 && (n7 == n7 && (n10 == 0 && (strEq s13 { data := #[] } && true))))
              (ocall V 68 [(.agg [(.rs (5, 0) a0_0)]), (.int .i64 n7)] fun x14 l15 =>
               asB x14 fun b16 => unn l15 (some ((.bool b16), [])))
              (some ((.bool false), [])))
             (br (n4 == 2)
              (br (strEq s13 { data := #[] })
               (ocall V 104 [(.int .i64 n7), (.int .i64 (0)), (.int .i64 (20))] fun x17 l18 =>
                asB x17 fun b19 => unn l18 (br b19
                  (ocall V 104 [(.int .i64 n10), (.int .i64 (0)), (.int .i64 (3))] fun x20 l21 =>
                   asB x20 fun b22 => unn l21 (some ((.bool b22), [])))
                  (some ((.bool false), []))))
               (some ((.bool false), [])))
              (br (n4 == 3)
               (br (n4 == n4 && (n7 == 0 && (n10 == 0 && (strEq s13 s13 && true))))
                (ocall V 131 [(.str s13)] fun x23 l24 =>
                 asB x23 fun b25 => unn l24 (some ((.bool b25), [])))
                (some ((.bool false), [])))
               (br (n4 == 4)
                (br (n4 == 4)
                 (br (n4 == n4 && (n7 == n7 && (n10 == 0 && (strEq s13 { data := #[] } && true))))
                  (br (decide (n7 > a1_))
                   (some ((.bool (decide (n7 ≤ ni (List.length a0_1)))), []))
                   (some ((.bool false), [])))
                  (some ((.bool false), [])))
                 (br (n4 == 6)
                  (br (strEq s13 { data := #[] })
                   (br (decide (n7 > a1_))
                    (br (decide (n7 < ni (List.length a0_1)))
                     (ocall V 104 [(.int .i64 n10), (.int .i64 (0)), (.int .i64 (4))] fun x26 l27 =>
                      asB x26 fun b28 => unn l27 (some ((.bool b28), [])))
                     (some ((.bool false), [])))
                    (some ((.bool false), [])))
                   (some ((.bool false), [])))
                  (br (n4 == 7)
                   (br (n4 == n4 && (n7 == 0 && (n10 == n10 && (strEq s13 { data := #[] } && true))))
                    (ocall V 104 [(.int .i64 n10), (.int .i64 (0)), (.int .i64 (4))] fun x29 l30 =>
                     asB x29 fun b31 => unn l30 (some ((.bool b31), [])))
                    (some ((.bool false), [])))
                   (br (n4 == 8)
                    (br (n4 == 8)
                     (some ((.bool (n4 == n4 && (n7 == 0 && (n10 == 0 && (strEq s13 { data := #[] } && true))))), []))
                     (some ((.bool false), [])))
                    (br (n4 == 9)
                     (some ((.bool (n4 == n4 && (n7 == 0 && (n10 == 0 && (strEq s13 { data := #[] } && true))))), []))
                     (some ((.bool false), [])))))))
                (br (n4 == 5)
                 (br (n4 == n4 && (n7 == n7 && (n10 == 0 && (strEq s13 { data := #[] } && true))))
                  (br (decide (n7 > a1_))
                   (some ((.bool (decide (n7 ≤ ni (List.length a0_1)))), []))
                   (some ((.bool false), [])))
                  (some ((.bool false), [])))
                 (br (n4 == 6)
                  (br (strEq s13 { data := #[] })
                   (br (decide (n7 > a1_))
                    (br (decide (n7 < ni (List.length a0_1)))
                     (ocall V 104 [(.int .i64 n10), (.int .i64 (0)), (.int .i64 (4))] fun x32 l33 =>
                      asB x32 fun b34 => unn l33 (some ((.bool b34), [])))
                     (some ((.bool false), [])))
                    (some ((.bool false), [])))
                   (some ((.bool false), [])))
                  (br (n4 == 7)
                   (br (n4 == n4 && (n7 == 0 && (n10 == n10 && (strEq s13 { data := #[] } && true))))
                    (ocall V 104 [(.int .i64 n10), (.int .i64 (0)), (.int .i64 (4))] fun x35 l36 =>
                     asB x35 fun b37 => unn l36 (some ((.bool b37), [])))
                    (some ((.bool false), [])))
                   (br (n4 == 8)
                    (br (n4 == 8)
                     (some ((.bool (n4 == n4 && (n7 == 0 && (n10 == 0 && (strEq s13 { data := #[] } && true))))), []))
                     (some ((.bool false), [])))
                    (br (n4 == 9)
                     (some ((.bool (n4 == n4 && (n7 == 0 && (n10 == 0 && (strEq s13 { data := #[] } && true))))), []))
                     (some ((.bool false), [])))))))))))) := by
  exact (Vn_eq Try.func171 rfl _).trans (by kernel_rfl)
theorem espec_l3Write (a0_0 : List D) (a1_ : Int) (a2_ : ByteArray) : V 69 [.agg [.rs (5, 0) a0_0], .int .i64 a1_, .str a2_] =
  br (decide (ni (ByteArray.size a2_) > 400))
   (some ((.str a2_), []))
   (grd (decide (0 ≤ a1_) && decide (a1_ < ni (List.length a0_0))) (oget a0_0 (Int.toNat a1_) fun x0 =>
    asAgg x0 fun l1 => unc l1 fun x2 l3 => asI .i64 x2 fun n4 => unc l3 fun x5 l6 => asI .i64 x5 fun n7 => unc l6 fun x8 l9 => asS x8 fun s10 => unc l9 fun x11 l12 => asI .i64 x11 fun n13 => unc l12 fun x14 l15 => asI .i64 x14 fun n16 => unn l15 (br (n4 == 1)
                (grd (decide (ni (ByteArray.size a2_ + ByteArray.size { data := #[40, 41] }) ≤ LIM)) (some ((.str (a2_ ++ { data := #[40, 41] })), [])))
                (br (n4 == 2)
                 (br (n7 == 1)
                  (grd (decide (ni (ByteArray.size a2_ + ByteArray.size { data := #[35, 116] }) ≤ LIM)) (some ((.str (a2_ ++ { data := #[35, 116] })), [])))
                  (grd (decide (ni (ByteArray.size a2_ + ByteArray.size { data := #[35, 102] }) ≤ LIM)) (some ((.str (a2_ ++ { data := #[35, 102] })), []))))
                 (br (n4 == 3)
                  (ocall V 126 [(.int .i64 n7)] fun x17 l18 =>
                   asS x17 fun s19 => unn l18 (grd (decide (ni (ByteArray.size a2_ + ByteArray.size s19) ≤ LIM)) (some ((.str (a2_ ++ s19)), []))))
                  (br (n4 == 4)
                   (grd (decide (ni (ByteArray.size a2_ + ByteArray.size s10) ≤ LIM)) (some ((.str (a2_ ++ s10)), [])))
                   (br (n4 == 6)
                    (grd (decide (ni (ByteArray.size a2_ + ByteArray.size { data := #[35, 102, 117, 110] }) ≤ LIM)) (ocall V 126 [(.int .i64 n7)] fun x20 l21 =>
                     asS x20 fun s22 => unn l21 (grd (decide (ni (ByteArray.size (a2_ ++ { data := #[35, 102, 117, 110] }) + ByteArray.size s22) ≤ LIM)) (some ((.str (a2_ ++ { data := #[35, 102, 117, 110] } ++ s22)), [])))))
                    (br (n4 == 7)
                     (grd (decide (ni (ByteArray.size a2_ + ByteArray.size { data := #[35, 107, 111, 110, 116] }) ≤ LIM)) (ocall V 126 [(.int .i64 n7)] fun x23 l24 =>
                      asS x23 fun s25 => unn l24 (grd (decide (ni (ByteArray.size (a2_ ++ { data := #[35, 107, 111, 110, 116] }) + ByteArray.size s25) ≤ LIM)) (some ((.str (a2_ ++ { data := #[35, 107, 111, 110, 116] } ++ s25)), [])))))
                     (br (n4 == 8)
                      (grd (decide (ni (ByteArray.size a2_ + ByteArray.size { data := #[35, 112, 114, 105, 109] }) ≤ LIM)) (ocall V 126 [(.int .i64 n7)] fun x26 l27 =>
                       asS x26 fun s28 => unn l27 (grd (decide (ni (ByteArray.size (a2_ ++ { data := #[35, 112, 114, 105, 109] }) + ByteArray.size s28) ≤ LIM)) (some ((.str (a2_ ++ { data := #[35, 112, 114, 105, 109] } ++ s28)), [])))))
                      (br (n4 == 9)
                       (grd (decide (ni (ByteArray.size a2_ + ByteArray.size { data := #[35, 112, 105, 100] }) ≤ LIM)) (ocall V 126 [(.int .i64 n7)] fun x29 l30 =>
                        asS x29 fun s31 => unn l30 (grd (decide (ni (ByteArray.size (a2_ ++ { data := #[35, 112, 105, 100] }) + ByteArray.size s31) ≤ LIM)) (some ((.str (a2_ ++ { data := #[35, 112, 105, 100] } ++ s31)), [])))))
                       (grd (decide (ni (ByteArray.size a2_ + ByteArray.size { data := #[40] }) ≤ LIM)) (ocall V 69 [(.agg [(.rs (5, 0) a0_0)]), (.int .i64 n13), (.str (a2_ ++ { data := #[40] }))] fun x32 l33 =>
                        asS x32 fun s34 => unn l33 (Lspec_l3Write_24 s34 a0_0 n4 n7 s10 n13 n16))))))))))))) := by
  exact (Vn_eq Try.func69 rfl _).trans (by kernel_rfl)
theorem Limpl_reading_text_2_eq (p0 : ByteArray) (p1 : Int) (p2 : List D) (p3 : List D) (p4 : List D) : Limpl_reading_text_2 p0 p1 p2 p3 p4 =
  br (decide (p1 < ni (ByteArray.size p0)))
   (grd (decide (0 ≤ p1) && decide (p1 < ni (ByteArray.size p0))) (br (bt p0 p1 == 32)
    (Limpl_reading_text_2 p0 (IntKind.wrap IntKind.i64 (p1 + 1)) p2 p3 p4)
    (br (bt p0 p1 == 40)
     (grd (decide
  (ni
      (List.length
        (p3 ++
          [D.os
              (TypeInfo.size (Tables.types (Program.toTables Try.prog))[3],
                match flat Try.prog (3) with
                | true => 0
                | false => 1)
              []])) ≤
    LIM)) (nam (p3 ++
  [D.os
      (TypeInfo.size (Tables.types (Program.toTables Try.prog))[3],
        match flat Try.prog (3) with
        | true => 0
        | false => 1)
      []]) fun l0 =>
      grd (decide (ni (List.length (p4 ++ [D.int IntKind.i64 p1])) ≤ LIM)) (nam (p4 ++ [D.int IntKind.i64 p1]) fun l1 =>
       Limpl_reading_text_2 p0 (IntKind.wrap IntKind.i64 (p1 + 1)) p2 l0 l1)))
     (br (bt p0 p1 == 41)
      (ocall V 134 [(.op [(.os (5, 0) p2), (.os (1, 2) p3), (.os (1, 0) p4)])] fun x2 l3 =>
       asB x2 fun b4 => unc l3 fun x5 l6 => asOp x5 fun l7 => unc l7 fun x8 l9 => asOs (5, 0) x8 fun l10 => unc l9 fun x11 l12 => asOs (1, 2) x11 fun l13 => unc l12 fun x14 l15 => asOs (1, 0) x14 fun l16 => unn l15 (unn l6 (br (!b4)
                 (some ((.tup [(.int .i64 (5)), (.int .i64 p1)]), [(.op [(.os (5, 0) l10), (.os (1, 2) l13), (.os (1, 0) l16)])]))
                 (Limpl_reading_text_2 p0 (IntKind.wrap IntKind.i64 (p1 + 1)) l10 l13 l16))))
      (ocall V 135 [(.int .u8 (bt p0 p1))] fun x17 l18 =>
       asB x17 fun b19 => unn l18 (br (!b19)
         (some ((.tup [(.int .i64 (2)), (.int .i64 p1)]), [(.op [(.os (5, 0) p2), (.os (1, 2) p3), (.os (1, 0) p4)])]))
         (Limpl_reading_text_5 p0 p1 p1 p2 p3 p4)))))))
   (br (decide (ni (List.length p4) > 0))
    (grd (decide (0 ≤ IntKind.wrap IntKind.i64 (ni (List.length p4) - 1)) && decide (IntKind.wrap IntKind.i64 (ni (List.length p4) - 1) < ni (List.length p4))) (oget p4 (Int.toNat (IntKind.wrap IntKind.i64 (ni (List.length p4) - 1))) fun x20 =>
     asI .i64 x20 fun n21 => some ((.tup [(.int .i64 (4)), (.int .i64 n21)]), [(.op [(.os (5, 0) p2), (.os (1, 2) p3), (.os (1, 0) p4)])])))
    (some ((.tup [(.int .i64 (0)), (.int .i64 (ni (ByteArray.size p0)))]), [(.op [(.os (5, 0) p2), (.os (1, 2) p3), (.os (1, 0) p4)])]))) := by
  exact (Rn_eq _ _ _).trans (by kernel_rfl)
theorem Llaws_heldNodeS_2_eq (p0 : List D) (p1 : Int) (p2 : Int) : Llaws_heldNodeS_2 p0 p1 p2 =
  br (decide (p2 < ni (List.length p0)))
   (grd (decide (0 ≤ p2) && decide (p2 < ni (List.length p0))) (oget p0 (Int.toNat p2) fun x0 =>
    asAgg x0 fun l1 => oget l1 0 fun x2 =>
      asI .i64 x2 fun n3 => br (n3 != p1)
        (some ((.int .i64 (-1)), []))
        (grd (decide (0 ≤ p2) && decide (p2 < ni (List.length p0))) (oget p0 (Int.toNat p2) fun x4 =>
         asAgg x4 fun l5 => oget l5 1 fun x6 =>
           asI .i64 x6 fun n7 => br (n7 != IntKind.wrap IntKind.i64 (p1 + 1))
             (some ((.int .i64 (-1)), []))
             (grd (decide (0 ≤ p2) && decide (p2 < ni (List.length p0))) (oget p0 (Int.toNat p2) fun x8 =>
              asAgg x8 fun l9 => oget l9 2 fun x10 =>
                asS x10 fun s11 => ocall V 140 [(.int .i64 (IntKind.wrap IntKind.i64 (IntKind.wrap IntKind.i64 (p1 + 1) + 1)))] fun x12 l13 =>
                  asS x12 fun s14 => unn l13 (br (!strEq s11 s14)
                    (some ((.int .i64 (-1)), []))
                    (grd (decide (0 ≤ p2) && decide (p2 < ni (List.length p0))) (oget p0 (Int.toNat p2) fun x15 =>
                     asAgg x15 fun l16 => oget l16 3 fun x17 =>
                       asI .i64 x17 fun n18 => br (n18 != IntKind.wrap IntKind.i64 (IntKind.wrap IntKind.i64 (IntKind.wrap IntKind.i64 (p1 + 1) + 1) + 1))
                         (some ((.int .i64 (-1)), []))
                         (grd (decide (0 ≤ p2) && decide (p2 < ni (List.length p0))) (oget p0 (Int.toNat p2) fun x19 =>
                          asAgg x19 fun l20 => oget l20 4 fun x21 =>
                            asI .i64 x21 fun n22 => br (n22 != IntKind.wrap IntKind.i64 (IntKind.wrap IntKind.i64 (IntKind.wrap IntKind.i64 (IntKind.wrap IntKind.i64 (p1 + 1) + 1) + 1) + 1))
                              (some ((.int .i64 (-1)), []))
                              (Llaws_heldNodeS_2 p0 (IntKind.wrap IntKind.i64 (IntKind.wrap IntKind.i64 (IntKind.wrap IntKind.i64 (IntKind.wrap IntKind.i64 (IntKind.wrap IntKind.i64 (p1 + 1) + 1) + 1) + 1) + 1)) (IntKind.wrap IntKind.i64 (p2 + 1))))))))))))))
   (some ((.int .i64 p1), [])) := by
  exact (Rn_eq _ _ _).trans (by kernel_rfl)
theorem Lspec_l7Reach_7_eq (p0 : Int) (p1 : List D) (p2 : List D) : Lspec_l7Reach_7 p0 p1 p2 =
  br (decide (p0 ≥ 0))
   (grd (decide (0 ≤ p0) && decide (p0 < ni (List.length p1))) (oget p1 (Int.toNat p0) fun x4 =>
    asAgg x4 fun l5 => unc l5 fun x6 l7 => asI .i64 x6 fun n8 => unc l7 fun x9 l10 => asI .i64 x9 fun _ => unc l10 fun x12 l13 => asS x12 fun _ => unc l13 fun x15 l16 => asI .i64 x15 fun n17 => unc l16 fun x18 l19 => asI .i64 x18 fun n20 => unn l19 (grd (decide (0 ≤ p0) && decide (p0 < ni (List.length p2))) (oget p2 (Int.toNat p0) fun x21 =>
                asB x21 fun b22 => br (!b22)
                  (Lspec_l7Reach_7 (IntKind.wrap IntKind.i64 (p0 - 1)) p1 p2)
                  (br (n8 == 5)
                   (grd (decide (0 ≤ n17) && decide (n17 < ni (List.length p2))) (oget p2 (Int.toNat n17) fun _ =>
                    nam (List.set p2 (Int.toNat n17) (D.bool true)) fun l24 =>
                     grd (decide (0 ≤ n20) && decide (n20 < ni (List.length l24))) (oget l24 (Int.toNat n20) fun _ =>
                      nam (List.set l24 (Int.toNat n20) (D.bool true)) fun l26 =>
                       Lspec_l7Reach_7 (IntKind.wrap IntKind.i64 (p0 - 1)) p1 l26)))
                   (br (n8 == 6)
                    (br (n8 == 6)
                     (grd (decide (0 ≤ n17) && decide (n17 < ni (List.length p2))) (oget p2 (Int.toNat n17) fun _ =>
                      nam (List.set p2 (Int.toNat n17) (D.bool true)) fun l28 =>
                       Lspec_l7Reach_7 (IntKind.wrap IntKind.i64 (p0 - 1)) p1 l28))
                     (Lspec_l7Reach_7 (IntKind.wrap IntKind.i64 (p0 - 1)) p1 p2))
                    (br (n8 == 7)
                     (grd (decide (0 ≤ n17) && decide (n17 < ni (List.length p2))) (oget p2 (Int.toNat n17) fun _ =>
                      nam (List.set p2 (Int.toNat n17) (D.bool true)) fun l30 =>
                       Lspec_l7Reach_7 (IntKind.wrap IntKind.i64 (p0 - 1)) p1 l30))
                     (Lspec_l7Reach_7 (IntKind.wrap IntKind.i64 (p0 - 1)) p1 p2))))))))
   (some ((.os (1, 0) p2), [])) := by
  exact (Rn_eq _ _ _).trans (by kernel_rfl)
theorem Limpl_CodeOk_10_eq (p0 : List D) (p1 : Int) (p2 : Int) (p3 : List D) (p4 : List D) (p5 : List D) : Limpl_CodeOk_10 p0 p1 p2 p3 p4 p5 =
  br (decide (p2 < p1))
   (grd (decide (0 ≤ p2) && decide (p2 < ni (List.length p0))) (oget p0 (Int.toNat p2) fun x6 =>
    asAgg x6 fun l7 => unc l7 fun x8 l9 => asS x8 fun s10 => unc l9 fun x11 l12 => asI .i64 x11 fun n13 => unc l12 fun x14 l15 => asI .i64 x14 fun n16 => unn l15 (ocall V 121 [(.str s10)] fun x17 l18 =>
            asB x17 fun b19 => unn l18 (br (!b19)
              (some ((.bool false), []))
              (ocall V 174 [(.agg [(.rs (5, 0) p3), (.rs (4, 0) p4), (.rs (3, 0) p5)]), (.str s10)] fun x20 l21 =>
               asI .i64 x20 fun n22 => unn l21 (br (n22 != p2)
                 (some ((.bool false), []))
                 (ocall V 106 [(.int .i64 n13), (.int .i64 (0)), (.int .i64 (IntKind.wrap IntKind.i64 (ni (List.length p4) - 1)))] fun x23 l24 =>
                  asB x23 fun b25 => unn l24 (br (!b25)
                    (some ((.bool false), []))
                    (ocall V 106 [(.int .i64 n16), (.int .i64 (0)), (.int .i64 (4))] fun x26 l27 =>
                     asB x26 fun b28 => unn l27 (br (!b28)
                       (some ((.bool false), []))
                       (Limpl_CodeOk_10 p0 p1 (IntKind.wrap IntKind.i64 (p2 + 1)) p3 p4 p5)))))))))))
   (some ((.bool true), [])) := by
  exact (Rn_eq _ _ _).trans (by kernel_rfl)
theorem eimpl_ValuePack (a0_0 : List D) (a1_ : Int) : V 36 [.agg [.rs (5, 0) a0_0], .int .i64 a1_] =
  ocall V 18 [(.agg [(.rs (5, 0) a0_0)])] fun x0 l1 =>
   asB x0 fun b2 => unn l1 (br (!b2)
     (some ((.tup [(.str ({ data := #[] })), (.bool false)]), []))
     (ocall V 59 [(.agg [(.rs (5, 0) a0_0)]), (.int .i64 a1_)] fun x3 l4 =>
      asB x3 fun b5 => unn l4 (br (!b5)
        (some ((.tup [(.str ({ data := #[] })), (.bool false)]), []))
        (ocall V 56 [(.agg [(.rs (5, 0) a0_0)]), (.rs (1, 0) [(.int .i64 a1_)])] fun x6 l7 =>
         asTup x6 fun l8 => unc l8 fun x9 l10 => asAgg x9 fun l11 => unc l11 fun x12 l13 => asOs (5, 0) x12 fun l14 => unn l13 (unc l10 fun x15 l16 => asOs (1, 0) x15 fun _ => unn l16 (unn l7 (ocall V 87 [(.agg [(.rs (5, 0) l14)])] fun x18 l19 =>
                 asOs (1, 0) x18 fun l20 => unn l19 (obytes l20 fun s21 => some ((.tup [(.str s21), (.bool true)]), []))))))))) := by
  exact (Vn_eq Try.func36 rfl _).trans (by kernel_rfl)
theorem elaws_eqCode (a0_0 : List D) (a0_1 : List D) (a0_2 : List D) (a1_0 : List D) (a1_1 : List D) (a1_2 : List D) : V 45 [.agg [.rs (5, 0) a0_0, .rs (4, 0) a0_1, .rs (3, 0) a0_2], .agg [.rs (5, 0) a1_0, .rs (4, 0) a1_1, .rs (3, 0) a1_2]] =
  ocall V 25 [(.agg [(.rs (5, 0) a0_0)]), (.agg [(.rs (5, 0) a1_0)])] fun x0 l1 =>
   asB x0 fun b2 => unn l1 (br (!b2)
     (some ((.bool false), []))
     (ocall V 101 [(.rs (4, 0) a0_1), (.rs (4, 0) a1_1)] fun x3 l4 =>
      asB x3 fun b5 => unn l4 (br (!b5)
        (some ((.bool false), []))
        (ocall V 102 [(.rs (3, 0) a0_2), (.rs (3, 0) a1_2)] fun x6 l7 =>
         asB x6 fun b8 => unn l7 (br (!b8)
           (some ((.bool false), []))
           (some ((.bool true), []))))))) := by
  exact (Vn_eq Try.func45 rfl _).trans (by kernel_rfl)
theorem Lspec_l7Keep_5_eq (p0 : List D) (p1 : Int) (p2 : List D) (p3 : List D) (p4 : List D) : Lspec_l7Keep_5 p0 p1 p2 p3 p4 =
  br (decide (p1 < ni (List.length p0)))
   (grd (decide (0 ≤ p1) && decide (p1 < ni (List.length p0))) (oget p0 (Int.toNat p1) fun x12 =>
    asI .i64 x12 fun n13 => grd (decide (0 ≤ n13) && decide (n13 < ni (List.length p2))) (oget p2 (Int.toNat n13) fun x14 =>
      asI .i64 x14 fun n15 => grd (decide (ni (List.length (p3 ++ [D.int IntKind.i64 n15])) ≤ LIM)) (nam (p3 ++ [D.int IntKind.i64 n15]) fun l16 =>
        Lspec_l7Keep_5 p0 (IntKind.wrap IntKind.i64 (p1 + 1)) p2 l16 p4))))
   (some ((.tup [(.agg [(.os (5, 0) p4)]), (.os (1, 0) p3)]), [])) := by
  exact (Rn_eq _ _ _).trans (by kernel_rfl)
theorem Limpl_natural_5_eq (p0 : ByteArray) (p1 : Int) (p2 : Int) (p3 : Int) : Limpl_natural_5 p0 p1 p2 p3 =
  br (decide (p3 < p2))
   (grd (decide (0 ≤ p3) && decide (p3 < ni (ByteArray.size p0))) (ocall V 165 [(.int .u8 (bt p0 p3))] fun x0 l1 =>
    asB x0 fun b2 => unn l1 (br (!b2)
      (some ((.tup [(.int .i64 (0)), (.bool false)]), []))
      (grd (decide (0 ≤ p3) && decide (p3 < ni (ByteArray.size p0))) (Limpl_natural_5 p0 (IntKind.wrap IntKind.i64 (IntKind.wrap IntKind.i64 (10 * p1) + IntKind.wrap IntKind.i64 (IntKind.wrap IntKind.u8 (bt p0 p3 - 48)))) p2 (IntKind.wrap IntKind.i64 (p3 + 1)))))))
   (some ((.tup [(.int .i64 p1), (.bool true)]), [])) := by
  exact (Rn_eq _ _ _).trans (by kernel_rfl)
theorem espec_l6Copy (a0_0 : List D) (a0_1 : Int) (a0_2 : Int) (a0_3 : Int) (a0_4 : Int) (a0_5 : Int) (a0_6 : Int) (a0_7 : Int) : V 152 [.agg [.rs (5, 0) a0_0, .int .i64 a0_1, .int .i64 a0_2, .int .i64 a0_3, .int .i64 a0_4, .int .i64 a0_5, .int .i64 a0_6, .int .i64 a0_7]] =
  ocall V 71 [(.agg [(.rs (5, 0) a0_0)])] fun x0 l1 =>
   asAgg x0 fun l2 => unc l2 fun x3 l4 => asOs (5, 0) x3 fun l5 => unn l4 (unn l1 (some ((.agg [(.os (5, 0) l5), (.int .i64 a0_1), (.int .i64 a0_2), (.int .i64 a0_3), (.int .i64 a0_4), (.int .i64 a0_5), (.int .i64 a0_6), (.int .i64 a0_7)]), []))) := by
  exact (Vn_eq Try.func152 rfl _).trans (by kernel_rfl)
theorem espec_l2Add (p : List D) (k : Int) (n : Int) (s : ByteArray) (a : Int) (b : Int) : V 75 [.op [.os (5, 0) p], .agg [.int .i64 k, .int .i64 n, .str s, .int .i64 a, .int .i64 b]] =
  grd (decide (ni (List.length (p ++ [D.agg [D.int IntKind.i64 k, D.int IntKind.i64 n, D.str s, D.int IntKind.i64 a, D.int IntKind.i64 b]])) ≤ LIM)) (nam (p ++ [D.agg [D.int IntKind.i64 k, D.int IntKind.i64 n, D.str s, D.int IntKind.i64 a, D.int IntKind.i64 b]]) fun l0 =>
   some ((.int .i64 (IntKind.wrap IntKind.i64 (ni (List.length l0) - 1))), [(.op [(.os (5, 0) l0)])])) := by
  exact (Vn_eq Try.func75 rfl _).trans (by kernel_rfl)
theorem Llaws_eqIntS_4_eq (p0 : List D) (p1 : List D) (p2 : Int) : Llaws_eqIntS_4 p0 p1 p2 =
  br (decide (p2 < ni (List.length p0)))
   (grd (decide (0 ≤ p2) && decide (p2 < ni (List.length p0))) (oget p0 (Int.toNat p2) fun x0 =>
    asI .i64 x0 fun n1 => grd (decide (0 ≤ p2) && decide (p2 < ni (List.length p1))) (oget p1 (Int.toNat p2) fun x2 =>
      asI .i64 x2 fun n3 => br (n1 != n3)
        (some ((.bool false), []))
        (Llaws_eqIntS_4 p0 p1 (IntKind.wrap IntKind.i64 (p2 + 1))))))
   (some ((.bool true), [])) := by
  exact (Rn_eq _ _ _).trans (by kernel_rfl)
theorem espec_l2List (p : List D) (l : List D) : V 72 [.op [.os (5, 0) p], .rs (1, 0) l] =
  ocall V 75 [(.op [(.os (5, 0) p)]), (.agg [(.int .i64 (1)), (.int .i64 (0)), (.str ({ data := #[] })), (.int .i64 (0)), (.int .i64 (0))])] fun x0 l1 =>
   asI .i64 x0 fun n2 => unc l1 fun x3 l4 => asOp x3 fun l5 => unc l5 fun x6 l7 => asOs (5, 0) x6 fun l8 => unn l7 (unn l4 (Lspec_l2List_3 l n2 (IntKind.wrap IntKind.i64 (ni (List.length l) - 1)) l8)) := by
  exact (Vn_eq Try.func72 rfl _).trans (by kernel_rfl)
theorem elaws_eqDef (a0_0 : ByteArray) (a0_1 : Int) (a0_2 : Int) (a1_0 : ByteArray) (a1_1 : Int) (a1_2 : Int) : V 159 [.agg [.str a0_0, .int .i64 a0_1, .int .i64 a0_2], .agg [.str a1_0, .int .i64 a1_1, .int .i64 a1_2]] =
  br (!strEq a0_0 a1_0)
   (some ((.bool false), []))
   (br (a0_1 != a1_1)
    (some ((.bool false), []))
    (br (a0_2 != a1_2)
     (some ((.bool false), []))
     (some ((.bool true), [])))) := by
  exact (Vn_eq Try.func159 rfl _).trans (by kernel_rfl)
theorem elaws_szInstr (a0_0 : Int) (a0_1 : Int) (a0_2 : Int) (a0_3 : ByteArray) (a1_ : Int) : V 149 [.agg [.int .i64 a0_0, .int .i64 a0_1, .int .i64 a0_2, .str a0_3], .int .i64 a1_] =
  br (decide (IntKind.wrap IntKind.i64 (a1_ - ni (ByteArray.size a0_3)) < 0))
   (some ((.int .i64 (-1)), []))
   (some ((.int .i64 (IntKind.wrap IntKind.i64 (a1_ - ni (ByteArray.size a0_3)))), [])) := by
  exact (Vn_eq Try.func149 rfl _).trans (by kernel_rfl)
theorem eimpl_isWordByte (a0_ : Int) : V 135 [.int .u8 a0_] =
  ocall V 163 [(.int .u8 a0_)] fun x0 l1 =>
   asB x0 fun b2 => unn l1 (br b2
     (some ((.bool true), []))
     (ocall V 165 [(.int .u8 a0_)] fun x3 l4 =>
      asB x3 fun b5 => unn l4 (br b5
        (some ((.bool true), []))
        (some ((.bool (a0_ == 35)), []))))) := by
  exact (Vn_eq Try.func135 rfl _).trans (by kernel_rfl)
theorem eimpl_reach (a0_0 : List D) (a1_ : List D) : V 162 [.agg [.rs (5, 0) a0_0], .rs (1, 0) a1_] =
  grd (decide (0 ≤ ni (List.length a0_0)) && decide (ni (List.length a0_0) ≤ LIM)) (Limpl_reach_3 a1_ (ni (List.length a1_)) (0) a0_0 (List.replicate (Int.toNat (ni (List.length a0_0))) (D.bool false))) := by
  exact (Vn_eq Try.func162 rfl _).trans (by kernel_rfl)
theorem eimpl_NameOk (a0_ : ByteArray) : V 121 [.str a0_] =
  ocall V 106 [(.int .i64 (ni (ByteArray.size a0_))), (.int .i64 (1)), (.int .i64 (12))] fun x0 l1 =>
   asB x0 fun b2 => unn l1 (br (!b2)
     (some ((.bool false), []))
     (Limpl_NameOk_4 a0_ (ni (ByteArray.size a0_)) (0))) := by
  exact (Vn_eq Try.func121 rfl _).trans (by kernel_rfl)
theorem elaws_szInstrS (a0_ : List D) (a1_ : Int) : V 91 [.rs (4, 0) a0_, .int .i64 a1_] =
  br (decide (IntKind.wrap IntKind.i64 (a1_ - ni (List.length a0_)) < 0))
   (some ((.int .i64 (-1)), []))
   (Llaws_szInstrS_5 a0_ (IntKind.wrap IntKind.i64 (a1_ - ni (List.length a0_))) (0)) := by
  exact (Vn_eq Try.func91 rfl _).trans (by kernel_rfl)
theorem elaws_toStringS (a0_ : List D) : V 105 [.rs (1, 0) a0_] =
  grd (decide (0 ≤ ni (List.length a0_)) && decide (ni (List.length a0_) ≤ LIM)) (Llaws_toStringS_3 a0_ (0) (List.replicate (Int.toNat (ni (List.length a0_))) (D.str { data := #[] }))) := by
  exact (Vn_eq Try.func105 rfl _).trans (by kernel_rfl)
theorem eslices_Contains_byte_byte (a0_ : List D) (a1_ : Int) : V 175 [.rs (1, 0) a0_, .int .u8 a1_] =
  ocall V 180 [(.rs (1, 0) a0_), (.int .u8 a1_)] fun x0 l1 =>
   asI .i64 x0 fun n2 => unn l1 (some ((.bool (decide (n2 ≥ 0))), [])) := by
  exact (Vn_eq Try.func175 rfl _).trans (by kernel_rfl)
theorem elaws_eqInstrS (a0_ : List D) (a1_ : List D) : V 101 [.rs (4, 0) a0_, .rs (4, 0) a1_] =
  br (ni (List.length a0_) != ni (List.length a1_))
   (some ((.bool false), []))
   (Llaws_eqInstrS_4 a0_ a1_ (0)) := by
  exact (Vn_eq Try.func101 rfl _).trans (by kernel_rfl)
theorem espec_DefOf (a0_0 : List D) (a0_1 : List D) (a0_2 : List D) (a1_ : ByteArray) : V 172 [.agg [.rs (5, 0) a0_0, .rs (4, 0) a0_1, .rs (3, 0) a0_2], .str a1_] =
  Lspec_DefOf_2 a1_ (0) a0_0 a0_1 a0_2 := by
  exact (Vn_eq Try.func172 rfl _).trans (by kernel_rfl)
theorem espec_l2Copy (a0_0 : List D) : V 71 [.agg [.rs (5, 0) a0_0]] =
  grd (decide (ni (List.length ([] ++ a0_0)) ≤ LIM)) (nam ([] ++ a0_0) fun l0 =>
   some ((.agg [(.os (5, 0) l0)]), [])) := by
  exact (Vn_eq Try.func71 rfl _).trans (by kernel_rfl)
theorem eimpl_isDigit (a0_ : Int) : V 165 [.int .u8 a0_] =
  br (decide (a0_ ≥ 48))
   (some ((.bool (decide (a0_ ≤ 57))), []))
   (some ((.bool false), [])) := by
  exact (Vn_eq Try.func165 rfl _).trans (by kernel_rfl)
theorem eIndexFunc_DefOf (l : List D) (s : ByteArray) : V 178 [.rs (3, 0) l, .fn 179 [.bp [.str s]]] =
  LIndexFunc_DefOf_2 l s (ni (List.length l)) (0) := by
  exact (Vn_eq Try.func178 rfl _).trans (by kernel_rfl)
theorem eimpl_PoolOk (a0_0 : List D) : V 18 [.agg [.rs (5, 0) a0_0]] =
  Limpl_PoolOk_2 a0_0 (ni (List.length a0_0)) (0) a0_0 := by
  exact (Vn_eq Try.func18 rfl _).trans (by kernel_rfl)
theorem elaws_heldIntS (a0_ : List D) (a1_ : Int) : V 30 [.rs (1, 0) a0_, .int .i64 a1_] =
  Llaws_heldIntS_2 a0_ a1_ (0) := by
  exact (Vn_eq Try.func30 rfl _).trans (by kernel_rfl)
end Go.Eng
