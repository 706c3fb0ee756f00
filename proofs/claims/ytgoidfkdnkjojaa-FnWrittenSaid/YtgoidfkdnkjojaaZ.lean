/- sizes told: printed by mkz.py -/
import Derived.Test.YtgoidfkdnkjojaaFn3
import Derived.Test.YtgoidfkdnkjojaaFn4
import Derived.Test.YtgoidfkdnkjojaaFn5
import Derived.Test.YtgoidfkdnkjojaaFn6
import Derived.Test.YtgoidfkdnkjojaaWord2
namespace Go.Eng
open Go.Proofs Go.Proofs.Try
set_option maxHeartbeats 4000000
set_option maxRecDepth 100000

theorem sz3 : TypeInfo.size (Tables.types (Program.toTables Try.prog))[3] = 1 := by kernel_rfl
theorem fl3 : flat Try.prog (3) = true := by kernel_rfl

theorem zLspec_Read_9_eq (p0 : ByteArray) (p1 : Int) (p2 : List D) (p3 : List D) (p4 : List D) (p5 : List D) : Lspec_Read_9 p0 p1 p2 p3 p4 p5 =
  br (decide (p1 < ni (ByteArray.size p0)))
   (grd (decide (0 ≤ p1) && decide (p1 < ni (ByteArray.size p0))) (br (bt p0 p1 == 32)
    (Lspec_Read_9 p0 (IntKind.wrap IntKind.i64 (p1 + 1)) p2 p3 p4 p5)
    (br (bt p0 p1 == 40)
     (grd (decide
  (ni
      (List.length
        (p4 ++
          [D.agg
              [D.int IntKind.i64 p1,
                D.os
                  (1, 0)
                  []]])) ≤
    LIM)) (nam (p4 ++
  [D.agg
      [D.int IntKind.i64 p1,
        D.os
          (1, 0)
          []]]) fun l15 =>
      Lspec_Read_9 p0 (IntKind.wrap IntKind.i64 (p1 + 1)) p2 p3 l15 p5))
     (br (bt p0 p1 == 41)
      (br (IntKind.wrap IntKind.i64 (ni (List.length p4) - 1) == 0)
       (ocall V 71 [(.agg [(.rs (5, 0) p2)])] fun x16 l17 =>
        asAgg x16 fun l18 => unc l18 fun x19 l20 => asOs (5, 0) x19 fun l21 => unn l20 (unn l17 (some ((.tup [(.agg [(.os (5, 0) l21)]), (.os (1, 0) p3), (.int .i64 (5)), (.int .i64 p1)]), []))))
       (grd (decide (0 ≤ IntKind.wrap IntKind.i64 (ni (List.length p4) - 1)) && decide (IntKind.wrap IntKind.i64 (ni (List.length p4) - 1) < ni (List.length p4))) (oget p4 (Int.toNat (IntKind.wrap IntKind.i64 (ni (List.length p4) - 1))) fun x22 =>
        asAgg x22 fun l23 => oget l23 1 fun x24 =>
          asOs (1, 0) x24 fun l25 => asAgg x22 fun l26 => ocall V 72 [(.op [(.os (5, 0) p5)]), (.rs (1, 0) l25)] fun x27 l28 =>
             asI .i64 x27 fun n29 => unc l28 fun x30 l31 => asOp x30 fun l32 => unc l32 fun x33 l34 => asOs (5, 0) x33 fun l35 => unn l34 (unn l31 (grd (cutOk (List.length (List.set p4 (Int.toNat (IntKind.wrap IntKind.i64 (ni (List.length p4) - 1))) (D.agg (List.take 1 l26 ++ [D.dead] ++ List.drop 2 l26)))) none (some (IntKind.wrap IntKind.i64 (ni (List.length p4) - 1)))) (grd (decide (0 ≤ IntKind.wrap IntKind.i64 (IntKind.wrap IntKind.i64 (ni (List.length p4) - 1) - 1)) && decide (IntKind.wrap IntKind.i64 (IntKind.wrap IntKind.i64 (ni (List.length p4) - 1) - 1) < ni (Int.toNat (IntKind.wrap IntKind.i64 (ni (List.length p4) - 1)))) && decide (0 + Int.toNat (IntKind.wrap IntKind.i64 (ni (List.length p4) - 1)) ≤ List.length (List.set p4 (Int.toNat (IntKind.wrap IntKind.i64 (ni (List.length p4) - 1))) (D.agg (List.take 1 l26 ++ [D.dead] ++ List.drop 2 l26))))) (oget (List.set p4 (Int.toNat (IntKind.wrap IntKind.i64 (ni (List.length p4) - 1))) (D.agg (List.take 1 l26 ++ [D.dead] ++ List.drop 2 l26))) (0 + Int.toNat (IntKind.wrap IntKind.i64 (IntKind.wrap IntKind.i64 (ni (List.length p4) - 1) - 1))) fun x36 =>
                   asAgg x36 fun l37 => oget l37 1 fun x38 =>
                     asOs (1, 0) x38 fun l39 => asAgg x36 fun l40 => grd (decide (ni (List.length (l39 ++ [D.int IntKind.i64 n29])) ≤ LIM)) (nam (l39 ++ [D.int IntKind.i64 n29]) fun l41 =>
                        grd (decide (0 ≤ IntKind.wrap IntKind.i64 (IntKind.wrap IntKind.i64 (ni (List.length p4) - 1) - 1)) && decide (IntKind.wrap IntKind.i64 (IntKind.wrap IntKind.i64 (ni (List.length p4) - 1) - 1) < ni (Int.toNat (IntKind.wrap IntKind.i64 (ni (List.length p4) - 1)))) && decide (0 + Int.toNat (IntKind.wrap IntKind.i64 (ni (List.length p4) - 1)) ≤ List.length (List.set (List.set p4 (Int.toNat (IntKind.wrap IntKind.i64 (ni (List.length p4) - 1))) (D.agg (List.take 1 l26 ++ [D.dead] ++ List.drop 2 l26))) (0 + Int.toNat (IntKind.wrap IntKind.i64 (IntKind.wrap IntKind.i64 (ni (List.length p4) - 1) - 1))) (D.agg (List.take 1 l40 ++ [D.dead] ++ List.drop 2 l40))))) (oget (List.set (List.set p4 (Int.toNat (IntKind.wrap IntKind.i64 (ni (List.length p4) - 1))) (D.agg (List.take 1 l26 ++ [D.dead] ++ List.drop 2 l26))) (0 + Int.toNat (IntKind.wrap IntKind.i64 (IntKind.wrap IntKind.i64 (ni (List.length p4) - 1) - 1))) (D.agg (List.take 1 l40 ++ [D.dead] ++ List.drop 2 l40))) (0 + Int.toNat (IntKind.wrap IntKind.i64 (IntKind.wrap IntKind.i64 (ni (List.length p4) - 1) - 1))) fun x42 =>
                         asAgg x42 fun l43 => nam (List.set (List.set (List.set p4 (Int.toNat (IntKind.wrap IntKind.i64 (ni (List.length p4) - 1))) (D.agg (List.take 1 l26 ++ [D.dead] ++ List.drop 2 l26))) (0 + Int.toNat (IntKind.wrap IntKind.i64 (IntKind.wrap IntKind.i64 (ni (List.length p4) - 1) - 1))) (D.agg (List.take 1 l40 ++ [D.dead] ++ List.drop 2 l40))) (0 + Int.toNat (IntKind.wrap IntKind.i64 (IntKind.wrap IntKind.i64 (ni (List.length p4) - 1) - 1)))
  (D.agg
    (List.take 1 l43 ++
        [D.os
            (1, 0)
            l41] ++
      List.drop 2 l43))) fun l44 =>
                           Lspec_Read_9v1 p0 (Int.toNat (IntKind.wrap IntKind.i64 (ni (List.length p4) - 1))) (IntKind.wrap IntKind.i64 (p1 + 1)) p2 p3 l44 l35)))))))))
      (ocall V 73 [(.int .u8 (bt p0 p1))] fun x45 l46 =>
       asB x45 fun b47 => unn l46 (br b47
         (Lspec_Read_27 p0 p1 (IntKind.wrap IntKind.i64 (ni (List.length p4) - 1)) p1 p2 p3 p4 p5)
         (ocall V 71 [(.agg [(.rs (5, 0) p2)])] fun x48 l49 =>
          asAgg x48 fun l50 => unc l50 fun x51 l52 => asOs (5, 0) x51 fun l53 => unn l52 (unn l49 (some ((.tup [(.agg [(.os (5, 0) l53)]), (.os (1, 0) p3), (.int .i64 (2)), (.int .i64 p1)]), []))))))))))
   (br (decide (ni (List.length p4) > 1))
    (ocall V 71 [(.agg [(.rs (5, 0) p2)])] fun x54 l55 =>
     asAgg x54 fun l56 => unc l56 fun x57 l58 => asOs (5, 0) x57 fun l59 => unn l58 (unn l55 (grd (decide (0 ≤ IntKind.wrap IntKind.i64 (ni (List.length p4) - 1)) && decide (IntKind.wrap IntKind.i64 (ni (List.length p4) - 1) < ni (List.length p4))) (oget p4 (Int.toNat (IntKind.wrap IntKind.i64 (ni (List.length p4) - 1))) fun x60 =>
         asAgg x60 fun l61 => oget l61 0 fun x62 =>
           asI .i64 x62 fun n63 => some ((.tup [(.agg [(.os (5, 0) l59)]), (.os (1, 0) p3), (.int .i64 (4)), (.int .i64 n63)]), [])))))
    (ocall V 67 [(.agg [(.rs (5, 0) p5)])] fun x64 l65 =>
     asB x64 fun b66 => unn l65 (br (!b66)
       (ocall V 71 [(.agg [(.rs (5, 0) p2)])] fun x67 l68 =>
        asAgg x67 fun l69 => unc l69 fun x70 l71 => asOs (5, 0) x70 fun l72 => unn l71 (unn l68 (some ((.tup [(.agg [(.os (5, 0) l72)]), (.os (1, 0) p3), (.int .i64 (6)), (.int .i64 (0))]), []))))
       (grd (decide (0 ≤ 0) && decide (0 < ni (List.length p4))) (oget p4 0 fun x73 =>
        asAgg x73 fun l74 => oget l74 1 fun x75 =>
          asOs (1, 0) x75 fun l76 => asAgg x73 fun _ => grd (decide (ni (List.length ([] ++ l76)) ≤ LIM)) (nam ([] ++ l76) fun l78 =>
             some ((.tup [(.agg [(.os (5, 0) p5)]), (.os (1, 0) l78), (.int .i64 (0)), (.int .i64 (ni (ByteArray.size p0)))]), []))))))) := by
  have h := Lspec_Read_9_eq p0 p1 p2 p3 p4 p5
  simp only [sz3, fl3] at h
  exact h
theorem zeimpl_reading_put (p : List D) (o : List D) (t : List D) (v : Int) : V 137 [.op [.os (5, 0) p, .os (1, 2) o, .os (1, 0) t], .int .i64 v] =
  grd (decide (0 ≤ IntKind.wrap IntKind.i64 (ni (List.length o) - 1)) && decide (IntKind.wrap IntKind.i64 (ni (List.length o) - 1) < ni (List.length o))) (oget o (Int.toNat (IntKind.wrap IntKind.i64 (ni (List.length o) - 1))) fun x0 =>
   asOs (1, 0) x0 fun l1 => grd (decide (ni (List.length (l1 ++ [D.int IntKind.i64 v])) ≤ LIM)) (nam (l1 ++ [D.int IntKind.i64 v]) fun l2 =>
     grd (decide (0 ≤ IntKind.wrap IntKind.i64 (ni (List.length o) - 1)) && decide (IntKind.wrap IntKind.i64 (ni (List.length o) - 1) < ni (List.length (List.set o (Int.toNat (IntKind.wrap IntKind.i64 (ni (List.length o) - 1))) D.dead)))) (oget (List.set o (Int.toNat (IntKind.wrap IntKind.i64 (ni (List.length o) - 1))) D.dead) (Int.toNat (IntKind.wrap IntKind.i64 (ni (List.length o) - 1))) fun _ =>
      nam (List.set (List.set o (Int.toNat (IntKind.wrap IntKind.i64 (ni (List.length o) - 1))) D.dead) (Int.toNat (IntKind.wrap IntKind.i64 (ni (List.length o) - 1)))
  (D.os
    (1, 0)
    l2)) fun l4 =>
       some ((.tup []), [(.op [(.os (5, 0) p), (.os (1, 2) l4), (.os (1, 0) t)])])))) := by
  have h := eimpl_reading_put p o t v
  simp only [sz3, fl3] at h
  exact h
theorem zLspec_Read_27v1_eq (p0 : ByteArray) (p1 : Nat) (p2 : Int) (p3 : Int) (p4 : Int) (p5 : List D) (p6 : List D) (p7 : List D) (p8 : List D) : Lspec_Read_27v1 p0 p1 p2 p3 p4 p5 p6 p7 p8 =
  br (decide (p2 < ni (ByteArray.size p0)))
   (grd (decide (0 ≤ p2) && decide (p2 < ni (ByteArray.size p0))) (ocall V 73 [(.int .u8 (bt p0 p2))] fun x242 l243 =>
    asB x242 fun b244 => unn l243 (br b244
      (Lspec_Read_27v1 p0 p1 (IntKind.wrap IntKind.i64 (p2 + 1)) p3 p4 p5 p6 p7 p8)
      (grd (cutOk (ByteArray.size p0) (some p4) (some p2)) (ocall V 74 [(.str (ByteArray.extract p0 (Int.toNat p4) (Int.toNat p2)))] fun x245 l246 =>
       asTup x245 fun l247 => unc l247 fun x248 l249 => asAgg x248 fun l250 => unc l250 fun x251 l252 => asI .i64 x251 fun n253 => unc l252 fun x254 l255 => asI .i64 x254 fun n256 => unc l255 fun x257 l258 => asS x257 fun s259 => unc l258 fun x260 l261 => asI .i64 x260 fun n262 => unc l261 fun x263 l264 => asI .i64 x263 fun n265 => unn l264 (unc l249 fun x266 l267 => asB x266 fun b268 => unn l267 (unn l246 (br (!b268)
                       (ocall V 71 [(.agg [(.rs (5, 0) p5)])] fun x269 l270 =>
                        asAgg x269 fun l271 => unc l271 fun x272 l273 => asOs (5, 0) x272 fun l274 => unn l273 (unn l270 (some ((.tup [(.agg [(.os (5, 0) l274)]), (.os (1, 0) p6), (.int .i64 (3)), (.int .i64 p4)]), []))))
                       (grd (decide (0 ≤ p3) && decide (p3 < ni p1) && decide (0 + p1 ≤ List.length p7)) (oget p7 (0 + Int.toNat p3) fun x275 =>
                        asAgg x275 fun l276 => oget l276 1 fun x277 =>
                          asOs (1, 0) x277 fun l278 => asAgg x275 fun l279 => ocall V 75 [(.op [(.os (5, 0) p8)]), (.agg [(.int .i64 n253), (.int .i64 n256), (.str s259), (.int .i64 n262), (.int .i64 n265)])] fun x280 l281 =>
                             asI .i64 x280 fun n282 => unc l281 fun x283 l284 => asOp x283 fun l285 => unc l285 fun x286 l287 => asOs (5, 0) x286 fun l288 => unn l287 (unn l284 (grd (decide (ni (List.length (l278 ++ [D.int IntKind.i64 n282])) ≤ LIM)) (nam (l278 ++ [D.int IntKind.i64 n282]) fun l289 =>
                                   grd (decide (0 ≤ p3) && decide (p3 < ni p1) && decide (0 + p1 ≤ List.length (List.set p7 (0 + Int.toNat p3) (D.agg (List.take 1 l279 ++ [D.dead] ++ List.drop 2 l279))))) (oget (List.set p7 (0 + Int.toNat p3) (D.agg (List.take 1 l279 ++ [D.dead] ++ List.drop 2 l279))) (0 + Int.toNat p3) fun x290 =>
                                    asAgg x290 fun l291 => nam (List.set (List.set p7 (0 + Int.toNat p3) (D.agg (List.take 1 l279 ++ [D.dead] ++ List.drop 2 l279))) (0 + Int.toNat p3)
  (D.agg
    (List.take 1 l291 ++
        [D.os
            (1, 0)
            l289] ++
      List.drop 2 l291))) fun l292 =>
                                      Lspec_Read_9v1 p0 p1 p2 p5 p6 l292 l288))))))))))))))
   (grd (cutOk (ByteArray.size p0) (some p4) (some p2)) (ocall V 74 [(.str (ByteArray.extract p0 (Int.toNat p4) (Int.toNat p2)))] fun x293 l294 =>
    asTup x293 fun l295 => unc l295 fun x296 l297 => asAgg x296 fun l298 => unc l298 fun x299 l300 => asI .i64 x299 fun n301 => unc l300 fun x302 l303 => asI .i64 x302 fun n304 => unc l303 fun x305 l306 => asS x305 fun s307 => unc l306 fun x308 l309 => asI .i64 x308 fun n310 => unc l309 fun x311 l312 => asI .i64 x311 fun n313 => unn l312 (unc l297 fun x314 l315 => asB x314 fun b316 => unn l315 (unn l294 (br (!b316)
                    (ocall V 71 [(.agg [(.rs (5, 0) p5)])] fun x317 l318 =>
                     asAgg x317 fun l319 => unc l319 fun x320 l321 => asOs (5, 0) x320 fun l322 => unn l321 (unn l318 (some ((.tup [(.agg [(.os (5, 0) l322)]), (.os (1, 0) p6), (.int .i64 (3)), (.int .i64 p4)]), []))))
                    (grd (decide (0 ≤ p3) && decide (p3 < ni p1) && decide (0 + p1 ≤ List.length p7)) (oget p7 (0 + Int.toNat p3) fun x323 =>
                     asAgg x323 fun l324 => oget l324 1 fun x325 =>
                       asOs (1, 0) x325 fun l326 => asAgg x323 fun l327 => ocall V 75 [(.op [(.os (5, 0) p8)]), (.agg [(.int .i64 n301), (.int .i64 n304), (.str s307), (.int .i64 n310), (.int .i64 n313)])] fun x328 l329 =>
                          asI .i64 x328 fun n330 => unc l329 fun x331 l332 => asOp x331 fun l333 => unc l333 fun x334 l335 => asOs (5, 0) x334 fun l336 => unn l335 (unn l332 (grd (decide (ni (List.length (l326 ++ [D.int IntKind.i64 n330])) ≤ LIM)) (nam (l326 ++ [D.int IntKind.i64 n330]) fun l337 =>
                                grd (decide (0 ≤ p3) && decide (p3 < ni p1) && decide (0 + p1 ≤ List.length (List.set p7 (0 + Int.toNat p3) (D.agg (List.take 1 l327 ++ [D.dead] ++ List.drop 2 l327))))) (oget (List.set p7 (0 + Int.toNat p3) (D.agg (List.take 1 l327 ++ [D.dead] ++ List.drop 2 l327))) (0 + Int.toNat p3) fun x338 =>
                                 asAgg x338 fun l339 => nam (List.set (List.set p7 (0 + Int.toNat p3) (D.agg (List.take 1 l327 ++ [D.dead] ++ List.drop 2 l327))) (0 + Int.toNat p3)
  (D.agg
    (List.take 1 l339 ++
        [D.os
            (1, 0)
            l337] ++
      List.drop 2 l339))) fun l340 =>
                                   Lspec_Read_9v1 p0 p1 p2 p5 p6 l340 l336))))))))))) := by
  have h := Lspec_Read_27v1_eq p0 p1 p2 p3 p4 p5 p6 p7 p8
  simp only [sz3, fl3] at h
  exact h
theorem zLimpl_reading_text_2_eq (p0 : ByteArray) (p1 : Int) (p2 : List D) (p3 : List D) (p4 : List D) : Limpl_reading_text_2 p0 p1 p2 p3 p4 =
  br (decide (p1 < ni (ByteArray.size p0)))
   (grd (decide (0 ≤ p1) && decide (p1 < ni (ByteArray.size p0))) (br (bt p0 p1 == 32)
    (Limpl_reading_text_2 p0 (IntKind.wrap IntKind.i64 (p1 + 1)) p2 p3 p4)
    (br (bt p0 p1 == 40)
     (grd (decide
  (ni
      (List.length
        (p3 ++
          [D.os
              (1, 0)
              []])) ≤
    LIM)) (nam (p3 ++
  [D.os
      (1, 0)
      []]) fun l0 =>
      grd (decide (ni (List.length (p4 ++ [D.int IntKind.i64 p1])) ≤ LIM)) (nam (p4 ++ [D.int IntKind.i64 p1]) fun l1 =>
       Limpl_reading_text_2 p0 (IntKind.wrap IntKind.i64 (p1 + 1)) p2 l0 l1)))
     (br (bt p0 p1 == 41)
      (ocall V 134 [(.op [(.os (5, 0) p2), (.os (1, 2) p3), (.os (1, 0) p4)])] fun x2 l3 =>
       asB x2 fun b4 => unc l3 fun x5 l6 => asOp x5 fun l7 => unc l7 fun x8 l9 => asOs (5, 0) x8 fun l10 => unc l9 fun x11 l12 => asOs (1, 2) x11 fun l13 => unc l12 fun x14 l15 => asOs (1, 0) x14 fun l16 => unn l15 (unn l6 (br (!b4)
                 (some ((.tup [(.int .i64 (5)), (.int .i64 p1)]), [(.op [(.os (5, 0) l10), (.os (1, 2) l13), (.os (1, 0) l16)])]))
                 (Limpl_reading_text_2 p0 (IntKind.wrap IntKind.i64 (p1 + 1)) l10 l13 l16))))
      (ocall V 135 [(.int .u8 (bt p0 p1))] fun x17 l18 =>
       asB x17 fun b19 => unn l18 (br (!b19)
         (some ((.tup [(.int .i64 (2)), (.int .i64 p1)]), [(.op [(.os (5, 0) p2), (.os (1, 2) p3), (.os (1, 0) p4)])]))
         (Limpl_reading_text_5 p0 p1 p1 p2 p3 p4)))))))
   (br (decide (ni (List.length p4) > 0))
    (grd (decide (0 ≤ IntKind.wrap IntKind.i64 (ni (List.length p4) - 1)) && decide (IntKind.wrap IntKind.i64 (ni (List.length p4) - 1) < ni (List.length p4))) (oget p4 (Int.toNat (IntKind.wrap IntKind.i64 (ni (List.length p4) - 1))) fun x20 =>
     asI .i64 x20 fun n21 => some ((.tup [(.int .i64 (4)), (.int .i64 n21)]), [(.op [(.os (5, 0) p2), (.os (1, 2) p3), (.os (1, 0) p4)])])))
    (some ((.tup [(.int .i64 (0)), (.int .i64 (ni (ByteArray.size p0)))]), [(.op [(.os (5, 0) p2), (.os (1, 2) p3), (.os (1, 0) p4)])]))) := by
  have h := Limpl_reading_text_2_eq p0 p1 p2 p3 p4
  simp only [sz3, fl3] at h
  exact h
theorem zLspec_Read_9v1_eq (p0 : ByteArray) (p1 : Nat) (p2 : Int) (p3 : List D) (p4 : List D) (p5 : List D) (p6 : List D) : Lspec_Read_9v1 p0 p1 p2 p3 p4 p5 p6 =
  br (decide (p2 < ni (ByteArray.size p0)))
   (grd (decide (0 ≤ p2) && decide (p2 < ni (ByteArray.size p0))) (br (bt p0 p2 == 32)
    (Lspec_Read_9v1 p0 p1 (IntKind.wrap IntKind.i64 (p2 + 1)) p3 p4 p5 p6)
    (br (bt p0 p2 == 40)
     (grd (decide
  (ni
      (List.length
        (part p5 (some (0, p1)) ++
          [D.agg
              [D.int IntKind.i64 p2,
                D.os
                  (1, 0)
                  []]])) ≤
    LIM)) (nam (part p5 (some (0, p1)) ++
  [D.agg
      [D.int IntKind.i64 p2,
        D.os
          (1, 0)
          []]]) fun l79 =>
      Lspec_Read_9 p0 (IntKind.wrap IntKind.i64 (p2 + 1)) p3 p4 l79 p6))
     (br (bt p0 p2 == 41)
      (br (IntKind.wrap IntKind.i64 (ni p1 - 1) == 0)
       (ocall V 71 [(.agg [(.rs (5, 0) p3)])] fun x80 l81 =>
        asAgg x80 fun l82 => unc l82 fun x83 l84 => asOs (5, 0) x83 fun l85 => unn l84 (unn l81 (some ((.tup [(.agg [(.os (5, 0) l85)]), (.os (1, 0) p4), (.int .i64 (5)), (.int .i64 p2)]), []))))
       (grd (decide (0 ≤ IntKind.wrap IntKind.i64 (ni p1 - 1)) && decide (IntKind.wrap IntKind.i64 (ni p1 - 1) < ni p1) && decide (0 + p1 ≤ List.length p5)) (oget p5 (0 + Int.toNat (IntKind.wrap IntKind.i64 (ni p1 - 1))) fun x86 =>
        asAgg x86 fun l87 => oget l87 1 fun x88 =>
          asOs (1, 0) x88 fun l89 => asAgg x86 fun l90 => ocall V 72 [(.op [(.os (5, 0) p6)]), (.rs (1, 0) l89)] fun x91 l92 =>
             asI .i64 x91 fun n93 => unc l92 fun x94 l95 => asOp x94 fun l96 => unc l96 fun x97 l98 => asOs (5, 0) x97 fun l99 => unn l98 (unn l95 (grd (cutOkX p1 (List.length (List.set p5 (0 + Int.toNat (IntKind.wrap IntKind.i64 (ni p1 - 1))) (D.agg (List.take 1 l90 ++ [D.dead] ++ List.drop 2 l90))) - 0) none (some (IntKind.wrap IntKind.i64 (ni p1 - 1)))) (grd (decide (0 ≤ IntKind.wrap IntKind.i64 (IntKind.wrap IntKind.i64 (ni p1 - 1) - 1)) && decide (IntKind.wrap IntKind.i64 (IntKind.wrap IntKind.i64 (ni p1 - 1) - 1) < ni (Int.toNat (IntKind.wrap IntKind.i64 (ni p1 - 1)))) && decide (0 + Int.toNat (IntKind.wrap IntKind.i64 (ni p1 - 1)) ≤ List.length (List.set p5 (0 + Int.toNat (IntKind.wrap IntKind.i64 (ni p1 - 1))) (D.agg (List.take 1 l90 ++ [D.dead] ++ List.drop 2 l90))))) (oget (List.set p5 (0 + Int.toNat (IntKind.wrap IntKind.i64 (ni p1 - 1))) (D.agg (List.take 1 l90 ++ [D.dead] ++ List.drop 2 l90))) (0 + Int.toNat (IntKind.wrap IntKind.i64 (IntKind.wrap IntKind.i64 (ni p1 - 1) - 1))) fun x100 =>
                   asAgg x100 fun l101 => oget l101 1 fun x102 =>
                     asOs (1, 0) x102 fun l103 => asAgg x100 fun l104 => grd (decide (ni (List.length (l103 ++ [D.int IntKind.i64 n93])) ≤ LIM)) (nam (l103 ++ [D.int IntKind.i64 n93]) fun l105 =>
                        grd (decide (0 ≤ IntKind.wrap IntKind.i64 (IntKind.wrap IntKind.i64 (ni p1 - 1) - 1)) && decide (IntKind.wrap IntKind.i64 (IntKind.wrap IntKind.i64 (ni p1 - 1) - 1) < ni (Int.toNat (IntKind.wrap IntKind.i64 (ni p1 - 1)))) && decide (0 + Int.toNat (IntKind.wrap IntKind.i64 (ni p1 - 1)) ≤ List.length (List.set (List.set p5 (0 + Int.toNat (IntKind.wrap IntKind.i64 (ni p1 - 1))) (D.agg (List.take 1 l90 ++ [D.dead] ++ List.drop 2 l90))) (0 + Int.toNat (IntKind.wrap IntKind.i64 (IntKind.wrap IntKind.i64 (ni p1 - 1) - 1))) (D.agg (List.take 1 l104 ++ [D.dead] ++ List.drop 2 l104))))) (oget (List.set (List.set p5 (0 + Int.toNat (IntKind.wrap IntKind.i64 (ni p1 - 1))) (D.agg (List.take 1 l90 ++ [D.dead] ++ List.drop 2 l90))) (0 + Int.toNat (IntKind.wrap IntKind.i64 (IntKind.wrap IntKind.i64 (ni p1 - 1) - 1))) (D.agg (List.take 1 l104 ++ [D.dead] ++ List.drop 2 l104))) (0 + Int.toNat (IntKind.wrap IntKind.i64 (IntKind.wrap IntKind.i64 (ni p1 - 1) - 1))) fun x106 =>
                         asAgg x106 fun l107 => nam (List.set (List.set (List.set p5 (0 + Int.toNat (IntKind.wrap IntKind.i64 (ni p1 - 1))) (D.agg (List.take 1 l90 ++ [D.dead] ++ List.drop 2 l90))) (0 + Int.toNat (IntKind.wrap IntKind.i64 (IntKind.wrap IntKind.i64 (ni p1 - 1) - 1))) (D.agg (List.take 1 l104 ++ [D.dead] ++ List.drop 2 l104))) (0 + Int.toNat (IntKind.wrap IntKind.i64 (IntKind.wrap IntKind.i64 (ni p1 - 1) - 1)))
  (D.agg
    (List.take 1 l107 ++
        [D.os
            (1, 0)
            l105] ++
      List.drop 2 l107))) fun l108 =>
                           Lspec_Read_9v1 p0 (Int.toNat (IntKind.wrap IntKind.i64 (ni p1 - 1))) (IntKind.wrap IntKind.i64 (p2 + 1)) p3 p4 l108 l99)))))))))
      (ocall V 73 [(.int .u8 (bt p0 p2))] fun x109 l110 =>
       asB x109 fun b111 => unn l110 (br b111
         (Lspec_Read_27v1 p0 p1 p2 (IntKind.wrap IntKind.i64 (ni p1 - 1)) p2 p3 p4 p5 p6)
         (ocall V 71 [(.agg [(.rs (5, 0) p3)])] fun x112 l113 =>
          asAgg x112 fun l114 => unc l114 fun x115 l116 => asOs (5, 0) x115 fun l117 => unn l116 (unn l113 (some ((.tup [(.agg [(.os (5, 0) l117)]), (.os (1, 0) p4), (.int .i64 (2)), (.int .i64 p2)]), []))))))))))
   (br (decide (ni p1 > 1))
    (ocall V 71 [(.agg [(.rs (5, 0) p3)])] fun x118 l119 =>
     asAgg x118 fun l120 => unc l120 fun x121 l122 => asOs (5, 0) x121 fun l123 => unn l122 (unn l119 (grd (decide (0 ≤ IntKind.wrap IntKind.i64 (ni p1 - 1)) && decide (IntKind.wrap IntKind.i64 (ni p1 - 1) < ni p1) && decide (0 + p1 ≤ List.length p5)) (oget p5 (0 + Int.toNat (IntKind.wrap IntKind.i64 (ni p1 - 1))) fun x124 =>
         asAgg x124 fun l125 => oget l125 0 fun x126 =>
           asI .i64 x126 fun n127 => some ((.tup [(.agg [(.os (5, 0) l123)]), (.os (1, 0) p4), (.int .i64 (4)), (.int .i64 n127)]), [])))))
    (ocall V 67 [(.agg [(.rs (5, 0) p6)])] fun x128 l129 =>
     asB x128 fun b130 => unn l129 (br (!b130)
       (ocall V 71 [(.agg [(.rs (5, 0) p3)])] fun x131 l132 =>
        asAgg x131 fun l133 => unc l133 fun x134 l135 => asOs (5, 0) x134 fun l136 => unn l135 (unn l132 (some ((.tup [(.agg [(.os (5, 0) l136)]), (.os (1, 0) p4), (.int .i64 (6)), (.int .i64 (0))]), []))))
       (grd (decide (0 ≤ 0) && decide (0 < ni p1) && decide (0 + p1 ≤ List.length p5)) (oget p5 0 fun x137 =>
        asAgg x137 fun l138 => oget l138 1 fun x139 =>
          asOs (1, 0) x139 fun l140 => asAgg x137 fun _ => grd (decide (ni (List.length ([] ++ l140)) ≤ LIM)) (nam ([] ++ l140) fun l142 =>
             some ((.tup [(.agg [(.os (5, 0) p6)]), (.os (1, 0) l142), (.int .i64 (0)), (.int .i64 (ni (ByteArray.size p0)))]), []))))))) := by
  have h := Lspec_Read_9v1_eq p0 p1 p2 p3 p4 p5 p6
  simp only [sz3, fl3] at h
  exact h
theorem zLspec_Read_27_eq (p0 : ByteArray) (p1 : Int) (p2 : Int) (p3 : Int) (p4 : List D) (p5 : List D) (p6 : List D) (p7 : List D) : Lspec_Read_27 p0 p1 p2 p3 p4 p5 p6 p7 =
  br (decide (p1 < ni (ByteArray.size p0)))
   (grd (decide (0 ≤ p1) && decide (p1 < ni (ByteArray.size p0))) (ocall V 73 [(.int .u8 (bt p0 p1))] fun x143 l144 =>
    asB x143 fun b145 => unn l144 (br b145
      (Lspec_Read_27 p0 (IntKind.wrap IntKind.i64 (p1 + 1)) p2 p3 p4 p5 p6 p7)
      (grd (cutOk (ByteArray.size p0) (some p3) (some p1)) (ocall V 74 [(.str (ByteArray.extract p0 (Int.toNat p3) (Int.toNat p1)))] fun x146 l147 =>
       asTup x146 fun l148 => unc l148 fun x149 l150 => asAgg x149 fun l151 => unc l151 fun x152 l153 => asI .i64 x152 fun n154 => unc l153 fun x155 l156 => asI .i64 x155 fun n157 => unc l156 fun x158 l159 => asS x158 fun s160 => unc l159 fun x161 l162 => asI .i64 x161 fun n163 => unc l162 fun x164 l165 => asI .i64 x164 fun n166 => unn l165 (unc l150 fun x167 l168 => asB x167 fun b169 => unn l168 (unn l147 (br (!b169)
                       (ocall V 71 [(.agg [(.rs (5, 0) p4)])] fun x170 l171 =>
                        asAgg x170 fun l172 => unc l172 fun x173 l174 => asOs (5, 0) x173 fun l175 => unn l174 (unn l171 (some ((.tup [(.agg [(.os (5, 0) l175)]), (.os (1, 0) p5), (.int .i64 (3)), (.int .i64 p3)]), []))))
                       (grd (decide (0 ≤ p2) && decide (p2 < ni (List.length p6))) (oget p6 (Int.toNat p2) fun x176 =>
                        asAgg x176 fun l177 => oget l177 1 fun x178 =>
                          asOs (1, 0) x178 fun l179 => asAgg x176 fun l180 => ocall V 75 [(.op [(.os (5, 0) p7)]), (.agg [(.int .i64 n154), (.int .i64 n157), (.str s160), (.int .i64 n163), (.int .i64 n166)])] fun x181 l182 =>
                             asI .i64 x181 fun n183 => unc l182 fun x184 l185 => asOp x184 fun l186 => unc l186 fun x187 l188 => asOs (5, 0) x187 fun l189 => unn l188 (unn l185 (grd (decide (ni (List.length (l179 ++ [D.int IntKind.i64 n183])) ≤ LIM)) (nam (l179 ++ [D.int IntKind.i64 n183]) fun l190 =>
                                   grd (decide (0 ≤ p2) && decide (p2 < ni (List.length (List.set p6 (Int.toNat p2) (D.agg (List.take 1 l180 ++ [D.dead] ++ List.drop 2 l180)))))) (oget (List.set p6 (Int.toNat p2) (D.agg (List.take 1 l180 ++ [D.dead] ++ List.drop 2 l180))) (Int.toNat p2) fun x191 =>
                                    asAgg x191 fun l192 => nam (List.set (List.set p6 (Int.toNat p2) (D.agg (List.take 1 l180 ++ [D.dead] ++ List.drop 2 l180))) (Int.toNat p2)
  (D.agg
    (List.take 1 l192 ++
        [D.os
            (1, 0)
            l190] ++
      List.drop 2 l192))) fun l193 =>
                                      Lspec_Read_9 p0 p1 p4 p5 l193 l189))))))))))))))
   (grd (cutOk (ByteArray.size p0) (some p3) (some p1)) (ocall V 74 [(.str (ByteArray.extract p0 (Int.toNat p3) (Int.toNat p1)))] fun x194 l195 =>
    asTup x194 fun l196 => unc l196 fun x197 l198 => asAgg x197 fun l199 => unc l199 fun x200 l201 => asI .i64 x200 fun n202 => unc l201 fun x203 l204 => asI .i64 x203 fun n205 => unc l204 fun x206 l207 => asS x206 fun s208 => unc l207 fun x209 l210 => asI .i64 x209 fun n211 => unc l210 fun x212 l213 => asI .i64 x212 fun n214 => unn l213 (unc l198 fun x215 l216 => asB x215 fun b217 => unn l216 (unn l195 (br (!b217)
                    (ocall V 71 [(.agg [(.rs (5, 0) p4)])] fun x218 l219 =>
                     asAgg x218 fun l220 => unc l220 fun x221 l222 => asOs (5, 0) x221 fun l223 => unn l222 (unn l219 (some ((.tup [(.agg [(.os (5, 0) l223)]), (.os (1, 0) p5), (.int .i64 (3)), (.int .i64 p3)]), []))))
                    (grd (decide (0 ≤ p2) && decide (p2 < ni (List.length p6))) (oget p6 (Int.toNat p2) fun x224 =>
                     asAgg x224 fun l225 => oget l225 1 fun x226 =>
                       asOs (1, 0) x226 fun l227 => asAgg x224 fun l228 => ocall V 75 [(.op [(.os (5, 0) p7)]), (.agg [(.int .i64 n202), (.int .i64 n205), (.str s208), (.int .i64 n211), (.int .i64 n214)])] fun x229 l230 =>
                          asI .i64 x229 fun n231 => unc l230 fun x232 l233 => asOp x232 fun l234 => unc l234 fun x235 l236 => asOs (5, 0) x235 fun l237 => unn l236 (unn l233 (grd (decide (ni (List.length (l227 ++ [D.int IntKind.i64 n231])) ≤ LIM)) (nam (l227 ++ [D.int IntKind.i64 n231]) fun l238 =>
                                grd (decide (0 ≤ p2) && decide (p2 < ni (List.length (List.set p6 (Int.toNat p2) (D.agg (List.take 1 l228 ++ [D.dead] ++ List.drop 2 l228)))))) (oget (List.set p6 (Int.toNat p2) (D.agg (List.take 1 l228 ++ [D.dead] ++ List.drop 2 l228))) (Int.toNat p2) fun x239 =>
                                 asAgg x239 fun l240 => nam (List.set (List.set p6 (Int.toNat p2) (D.agg (List.take 1 l228 ++ [D.dead] ++ List.drop 2 l228))) (Int.toNat p2)
  (D.agg
    (List.take 1 l240 ++
        [D.os
            (1, 0)
            l238] ++
      List.drop 2 l240))) fun l241 =>
                                   Lspec_Read_9 p0 p1 p4 p5 l241 l237))))))))))) := by
  have h := Lspec_Read_27_eq p0 p1 p2 p3 p4 p5 p6 p7
  simp only [sz3, fl3] at h
  exact h
theorem zespec_Read (a0_0 : List D) (a1_ : ByteArray) : V 22 [.agg [.rs (5, 0) a0_0], .str a1_] =
  ocall V 67 [(.agg [(.rs (5, 0) a0_0)])] fun x0 l1 =>
   asB x0 fun b2 => unn l1 (br (!b2)
     (some ((.tup [(.agg [(.os (5, 0) [])]), (.os (1, 0) []), (.int .i64 (6)), (.int .i64 (0))]), []))
     (br (decide (ni (ByteArray.size a1_) > 400))
      (ocall V 71 [(.agg [(.rs (5, 0) a0_0)])] fun x3 l4 =>
       asAgg x3 fun l5 => unc l5 fun x6 l7 => asOs (5, 0) x6 fun l8 => unn l7 (unn l4 (some ((.tup [(.agg [(.os (5, 0) l8)]), (.os (1, 0) []), (.int .i64 (1)), (.int .i64 (0))]), []))))
      (ocall V 71 [(.agg [(.rs (5, 0) a0_0)])] fun x9 l10 =>
       asAgg x9 fun l11 => unc l11 fun x12 l13 => asOs (5, 0) x12 fun l14 => unn l13 (unn l10 (Lspec_Read_9 a1_ (0) a0_0 [] ([D.agg
    [D.int IntKind.i64 (0),
      D.os
        (1, 0)
        []]]) l14))))) := by
  have h := espec_Read a0_0 a1_
  simp only [sz3, fl3] at h
  exact h

end Go.Eng
