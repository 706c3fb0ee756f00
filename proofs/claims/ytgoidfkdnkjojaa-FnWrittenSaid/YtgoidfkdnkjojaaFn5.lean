/- the functions as the interpreter has them -/
import Derived.Test.YtgoidfkdnkjojaaFn0
namespace Go.Eng
open Go.Proofs Go.Proofs.Try
set_option maxRecDepth 100000
theorem eimpl_writing_value (p : List D) (o : List D) (v : Int) : V 60 [.op [.rs (5, 0) p, .os (1, 0) o], .int .i64 v] =
  grd (decide (0 ≤ v) && decide (v < ni (List.length p))) (oget p (Int.toNat v) fun x0 =>
   asAgg x0 fun l1 => unc l1 fun x2 l3 => asI .i64 x2 fun n4 => unc l3 fun x5 l6 => asI .i64 x5 fun n7 => unc l6 fun x8 l9 => asS x8 fun s10 => unc l9 fun x11 l12 => asI .i64 x11 fun _ => unc l12 fun x14 l15 => asI .i64 x14 fun _ => unn l15 (ocall V 61 [(.op [(.rs (5, 0) p), (.os (1, 0) o)])] fun x17 l18 =>
               asB x17 fun b19 => unc l18 fun x20 l21 => asOp x20 fun l22 => unc l22 fun x23 l24 => asRs (5, 0) x23 fun l25 => unc l24 fun x26 l27 => asOs (1, 0) x26 fun l28 => unn l27 (unn l21 (br b19
                       (some ((.tup []), [(.op [(.rs (5, 0) l25), (.os (1, 0) l28)])]))
                       (br (n4 == 1)
                        (ocall V 118 [(.op [(.rs (5, 0) l25), (.os (1, 0) l28)]), (.str ({ data := #[40] }))] fun x29 l30 =>
                         asTup x29 fun l31 => unn l31 (unc l30 fun x32 l33 => asOp x32 fun l34 => unc l34 fun x35 l36 => asRs (5, 0) x35 fun l37 => unc l36 fun x38 l39 => asOs (1, 0) x38 fun l40 => unn l39 (unn l33 (ocall V 119 [(.op [(.rs (5, 0) l37), (.os (1, 0) l40)]), (.int .i64 v)] fun x41 l42 =>
                                 asTup x41 fun l43 => unn l43 (unc l42 fun x44 l45 => asOp x44 fun l46 => unc l46 fun x47 l48 => asRs (5, 0) x47 fun l49 => unc l48 fun x50 l51 => asOs (1, 0) x50 fun l52 => unn l51 (unn l45 (ocall V 118 [(.op [(.rs (5, 0) l49), (.os (1, 0) l52)]), (.str ({ data := #[41] }))] fun x53 l54 =>
                                         asTup x53 fun l55 => unn l55 (unc l54 fun x56 l57 => asOp x56 fun l58 => unc l58 fun x59 l60 => asRs (5, 0) x59 fun l61 => unc l60 fun x62 l63 => asOs (1, 0) x62 fun l64 => unn l63 (unn l57 (some ((.tup []), [(.op [(.rs (5, 0) l61), (.os (1, 0) l64)])])))))))))))
                        (br (n4 == 5)
                         (ocall V 118 [(.op [(.rs (5, 0) l25), (.os (1, 0) l28)]), (.str ({ data := #[40] }))] fun x65 l66 =>
                          asTup x65 fun l67 => unn l67 (unc l66 fun x68 l69 => asOp x68 fun l70 => unc l70 fun x71 l72 => asRs (5, 0) x71 fun l73 => unc l72 fun x74 l75 => asOs (1, 0) x74 fun l76 => unn l75 (unn l69 (ocall V 119 [(.op [(.rs (5, 0) l73), (.os (1, 0) l76)]), (.int .i64 v)] fun x77 l78 =>
                                  asTup x77 fun l79 => unn l79 (unc l78 fun x80 l81 => asOp x80 fun l82 => unc l82 fun x83 l84 => asRs (5, 0) x83 fun l85 => unc l84 fun x86 l87 => asOs (1, 0) x86 fun l88 => unn l87 (unn l81 (ocall V 118 [(.op [(.rs (5, 0) l85), (.os (1, 0) l88)]), (.str ({ data := #[41] }))] fun x89 l90 =>
                                          asTup x89 fun l91 => unn l91 (unc l90 fun x92 l93 => asOp x92 fun l94 => unc l94 fun x95 l96 => asRs (5, 0) x95 fun l97 => unc l96 fun x98 l99 => asOs (1, 0) x98 fun l100 => unn l99 (unn l93 (some ((.tup []), [(.op [(.rs (5, 0) l97), (.os (1, 0) l100)])])))))))))))
                         (br (n4 == 2)
                          (br (n7 == 1)
                           (ocall V 118 [(.op [(.rs (5, 0) l25), (.os (1, 0) l28)]), (.str ({ data := #[35, 116] }))] fun x101 l102 =>
                            asTup x101 fun l103 => unn l103 (unc l102 fun x104 l105 => asOp x104 fun l106 => unc l106 fun x107 l108 => asRs (5, 0) x107 fun l109 => unc l108 fun x110 l111 => asOs (1, 0) x110 fun l112 => unn l111 (unn l105 (some ((.tup []), [(.op [(.rs (5, 0) l109), (.os (1, 0) l112)])])))))
                           (br (n4 == 2)
                            (ocall V 118 [(.op [(.rs (5, 0) l25), (.os (1, 0) l28)]), (.str ({ data := #[35, 102] }))] fun x113 l114 =>
                             asTup x113 fun l115 => unn l115 (unc l114 fun x116 l117 => asOp x116 fun l118 => unc l118 fun x119 l120 => asRs (5, 0) x119 fun l121 => unc l120 fun x122 l123 => asOs (1, 0) x122 fun l124 => unn l123 (unn l117 (some ((.tup []), [(.op [(.rs (5, 0) l121), (.os (1, 0) l124)])])))))
                            (br (n4 == 3)
                             (ocall V 120 [(.int .i64 n7)] fun x125 l126 =>
                              asS x125 fun s127 => unn l126 (ocall V 118 [(.op [(.rs (5, 0) l25), (.os (1, 0) l28)]), (.str s127)] fun x128 l129 =>
                                asTup x128 fun l130 => unn l130 (unc l129 fun x131 l132 => asOp x131 fun l133 => unc l133 fun x134 l135 => asRs (5, 0) x134 fun l136 => unc l135 fun x137 l138 => asOs (1, 0) x137 fun l139 => unn l138 (unn l132 (some ((.tup []), [(.op [(.rs (5, 0) l136), (.os (1, 0) l139)])]))))))
                             (br (n4 == 4)
                              (ocall V 118 [(.op [(.rs (5, 0) l25), (.os (1, 0) l28)]), (.str s10)] fun x140 l141 =>
                               asTup x140 fun l142 => unn l142 (unc l141 fun x143 l144 => asOp x143 fun l145 => unc l145 fun x146 l147 => asRs (5, 0) x146 fun l148 => unc l147 fun x149 l150 => asOs (1, 0) x149 fun l151 => unn l150 (unn l144 (some ((.tup []), [(.op [(.rs (5, 0) l148), (.os (1, 0) l151)])])))))
                              (grd (decide (0 ≤ IntKind.wrap IntKind.i64 (n4 - 6)) && decide (IntKind.wrap IntKind.i64 (n4 - 6) < ni 4)) (oget ([D.str { data := #[35, 102, 117, 110] }, D.str { data := #[35, 107, 111, 110, 116] }, D.str { data := #[35, 112, 114, 105, 109] }, D.str { data := #[35, 112, 105, 100] }]) (Int.toNat (IntKind.wrap IntKind.i64 (n4 - 6))) fun x152 =>
                               asS x152 fun s153 => ocall V 120 [(.int .i64 n7)] fun x154 l155 =>
                                 asS x154 fun s156 => unn l155 (grd (decide (ni (ByteArray.size s153 + ByteArray.size s156) ≤ LIM)) (ocall V 118 [(.op [(.rs (5, 0) l25), (.os (1, 0) l28)]), (.str (s153 ++ s156))] fun x157 l158 =>
                                   asTup x157 fun l159 => unn l159 (unc l158 fun x160 l161 => asOp x160 fun l162 => unc l162 fun x163 l164 => asRs (5, 0) x163 fun l165 => unc l164 fun x166 l167 => asOs (1, 0) x166 fun l168 => unn l167 (unn l161 (some ((.tup []), [(.op [(.rs (5, 0) l165), (.os (1, 0) l168)])]))))))))))))
                          (br (n4 == 2)
                           (ocall V 118 [(.op [(.rs (5, 0) l25), (.os (1, 0) l28)]), (.str ({ data := #[35, 102] }))] fun x169 l170 =>
                            asTup x169 fun l171 => unn l171 (unc l170 fun x172 l173 => asOp x172 fun l174 => unc l174 fun x175 l176 => asRs (5, 0) x175 fun l177 => unc l176 fun x178 l179 => asOs (1, 0) x178 fun l180 => unn l179 (unn l173 (some ((.tup []), [(.op [(.rs (5, 0) l177), (.os (1, 0) l180)])])))))
                           (br (n4 == 3)
                            (ocall V 120 [(.int .i64 n7)] fun x181 l182 =>
                             asS x181 fun s183 => unn l182 (ocall V 118 [(.op [(.rs (5, 0) l25), (.os (1, 0) l28)]), (.str s183)] fun x184 l185 =>
                               asTup x184 fun l186 => unn l186 (unc l185 fun x187 l188 => asOp x187 fun l189 => unc l189 fun x190 l191 => asRs (5, 0) x190 fun l192 => unc l191 fun x193 l194 => asOs (1, 0) x193 fun l195 => unn l194 (unn l188 (some ((.tup []), [(.op [(.rs (5, 0) l192), (.os (1, 0) l195)])]))))))
                            (br (n4 == 4)
                             (ocall V 118 [(.op [(.rs (5, 0) l25), (.os (1, 0) l28)]), (.str s10)] fun x196 l197 =>
                              asTup x196 fun l198 => unn l198 (unc l197 fun x199 l200 => asOp x199 fun l201 => unc l201 fun x202 l203 => asRs (5, 0) x202 fun l204 => unc l203 fun x205 l206 => asOs (1, 0) x205 fun l207 => unn l206 (unn l200 (some ((.tup []), [(.op [(.rs (5, 0) l204), (.os (1, 0) l207)])])))))
                             (grd (decide (0 ≤ IntKind.wrap IntKind.i64 (n4 - 6)) && decide (IntKind.wrap IntKind.i64 (n4 - 6) < ni 4)) (oget ([D.str { data := #[35, 102, 117, 110] }, D.str { data := #[35, 107, 111, 110, 116] }, D.str { data := #[35, 112, 114, 105, 109] }, D.str { data := #[35, 112, 105, 100] }]) (Int.toNat (IntKind.wrap IntKind.i64 (n4 - 6))) fun x208 =>
                              asS x208 fun s209 => ocall V 120 [(.int .i64 n7)] fun x210 l211 =>
                                asS x210 fun s212 => unn l211 (grd (decide (ni (ByteArray.size s209 + ByteArray.size s212) ≤ LIM)) (ocall V 118 [(.op [(.rs (5, 0) l25), (.os (1, 0) l28)]), (.str (s209 ++ s212))] fun x213 l214 =>
                                  asTup x213 fun l215 => unn l215 (unc l214 fun x216 l217 => asOp x216 fun l218 => unc l218 fun x219 l220 => asRs (5, 0) x219 fun l221 => unc l220 fun x222 l223 => asOs (1, 0) x222 fun l224 => unn l223 (unn l217 (some ((.tup []), [(.op [(.rs (5, 0) l221), (.os (1, 0) l224)])])))))))))))))))))) := by
  exact (Vn_eq Try.func60 rfl _).trans (by kernel_rfl)
theorem Lspec_Read_9v1_eq (p0 : ByteArray) (p1 : Nat) (p2 : Int) (p3 : List D) (p4 : List D) (p5 : List D) (p6 : List D) : Lspec_Read_9v1 p0 p1 p2 p3 p4 p5 p6 =
  br (decide (p2 < ni (ByteArray.size p0)))
   (grd (decide (0 ≤ p2) && decide (p2 < ni (ByteArray.size p0))) (br (bt p0 p2 == 32)
    (Lspec_Read_9v1 p0 p1 (IntKind.wrap IntKind.i64 (p2 + 1)) p3 p4 p5 p6)
    (br (bt p0 p2 == 40)
     (grd (decide
  (ni
      (List.length
        (part p5 (some (0, p1)) ++
          [D.agg
              [D.int IntKind.i64 p2,
                D.os
                  (TypeInfo.size (Tables.types (Program.toTables Try.prog))[3],
                    match flat Try.prog (3) with
                    | true => 0
                    | false => 1)
                  []]])) ≤
    LIM)) (nam (part p5 (some (0, p1)) ++
  [D.agg
      [D.int IntKind.i64 p2,
        D.os
          (TypeInfo.size (Tables.types (Program.toTables Try.prog))[3],
            match flat Try.prog (3) with
            | true => 0
            | false => 1)
          []]]) fun l79 =>
      Lspec_Read_9 p0 (IntKind.wrap IntKind.i64 (p2 + 1)) p3 p4 l79 p6))
     (br (bt p0 p2 == 41)
      (br (IntKind.wrap IntKind.i64 (ni p1 - 1) == 0)
       (ocall V 71 [(.agg [(.rs (5, 0) p3)])] fun x80 l81 =>
        asAgg x80 fun l82 => unc l82 fun x83 l84 => asOs (5, 0) x83 fun l85 => unn l84 (unn l81 (some ((.tup [(.agg [(.os (5, 0) l85)]), (.os (1, 0) p4), (.int .i64 (5)), (.int .i64 p2)]), []))))
       (grd (decide (0 ≤ IntKind.wrap IntKind.i64 (ni p1 - 1)) && decide (IntKind.wrap IntKind.i64 (ni p1 - 1) < ni p1) && decide (0 + p1 ≤ List.length p5)) (oget p5 (0 + Int.toNat (IntKind.wrap IntKind.i64 (ni p1 - 1))) fun x86 =>
        asAgg x86 fun l87 => oget l87 1 fun x88 =>
          asOs (1, 0) x88 fun l89 => asAgg x86 fun l90 => ocall V 72 [(.op [(.os (5, 0) p6)]), (.rs (1, 0) l89)] fun x91 l92 =>
             asI .i64 x91 fun n93 => unc l92 fun x94 l95 => asOp x94 fun l96 => unc l96 fun x97 l98 => asOs (5, 0) x97 fun l99 => unn l98 (unn l95 (grd (cutOkX p1 (List.length (List.set p5 (0 + Int.toNat (IntKind.wrap IntKind.i64 (ni p1 - 1))) (D.agg (List.take 1 l90 ++ [D.dead] ++ List.drop 2 l90))) - 0) none (some (IntKind.wrap IntKind.i64 (ni p1 - 1)))) (grd (decide (0 ≤ IntKind.wrap IntKind.i64 (IntKind.wrap IntKind.i64 (ni p1 - 1) - 1)) && decide (IntKind.wrap IntKind.i64 (IntKind.wrap IntKind.i64 (ni p1 - 1) - 1) < ni (Int.toNat (IntKind.wrap IntKind.i64 (ni p1 - 1)))) && decide (0 + Int.toNat (IntKind.wrap IntKind.i64 (ni p1 - 1)) ≤ List.length (List.set p5 (0 + Int.toNat (IntKind.wrap IntKind.i64 (ni p1 - 1))) (D.agg (List.take 1 l90 ++ [D.dead] ++ List.drop 2 l90))))) (oget (List.set p5 (0 + Int.toNat (IntKind.wrap IntKind.i64 (ni p1 - 1))) (D.agg (List.take 1 l90 ++ [D.dead] ++ List.drop 2 l90))) (0 + Int.toNat (IntKind.wrap IntKind.i64 (IntKind.wrap IntKind.i64 (ni p1 - 1) - 1))) fun x100 =>
                   asAgg x100 fun l101 => oget l101 1 fun x102 =>
                     asOs (1, 0) x102 fun l103 => asAgg x100 fun l104 => grd (decide (ni (List.length (l103 ++ [D.int IntKind.i64 n93])) ≤ LIM)) (nam (l103 ++ [D.int IntKind.i64 n93]) fun l105 =>
                        grd (decide (0 ≤ IntKind.wrap IntKind.i64 (IntKind.wrap IntKind.i64 (ni p1 - 1) - 1)) && decide (IntKind.wrap IntKind.i64 (IntKind.wrap IntKind.i64 (ni p1 - 1) - 1) < ni (Int.toNat (IntKind.wrap IntKind.i64 (ni p1 - 1)))) && decide (0 + Int.toNat (IntKind.wrap IntKind.i64 (ni p1 - 1)) ≤ List.length (List.set (List.set p5 (0 + Int.toNat (IntKind.wrap IntKind.i64 (ni p1 - 1))) (D.agg (List.take 1 l90 ++ [D.dead] ++ List.drop 2 l90))) (0 + Int.toNat (IntKind.wrap IntKind.i64 (IntKind.wrap IntKind.i64 (ni p1 - 1) - 1))) (D.agg (List.take 1 l104 ++ [D.dead] ++ List.drop 2 l104))))) (oget (List.set (List.set p5 (0 + Int.toNat (IntKind.wrap IntKind.i64 (ni p1 - 1))) (D.agg (List.take 1 l90 ++ [D.dead] ++ List.drop 2 l90))) (0 + Int.toNat (IntKind.wrap IntKind.i64 (IntKind.wrap IntKind.i64 (ni p1 - 1) - 1))) (D.agg (List.take 1 l104 ++ [D.dead] ++ List.drop 2 l104))) (0 + Int.toNat (IntKind.wrap IntKind.i64 (IntKind.wrap IntKind.i64 (ni p1 - 1) - 1))) fun x106 =>
                         asAgg x106 fun l107 => nam (List.set (List.set (List.set p5 (0 + Int.toNat (IntKind.wrap IntKind.i64 (ni p1 - 1))) (D.agg (List.take 1 l90 ++ [D.dead] ++ List.drop 2 l90))) (0 + Int.toNat (IntKind.wrap IntKind.i64 (IntKind.wrap IntKind.i64 (ni p1 - 1) - 1))) (D.agg (List.take 1 l104 ++ [D.dead] ++ List.drop 2 l104))) (0 + Int.toNat (IntKind.wrap IntKind.i64 (IntKind.wrap IntKind.i64 (ni p1 - 1) - 1)))
  (D.agg
    (List.take 1 l107 ++
        [D.os
            (TypeInfo.size (Tables.types (Program.toTables Try.prog))[3],
              match flat Try.prog (3) with
              | true => 0
              | false => 1)
            l105] ++
      List.drop 2 l107))) fun l108 =>
                           Lspec_Read_9v1 p0 (Int.toNat (IntKind.wrap IntKind.i64 (ni p1 - 1))) (IntKind.wrap IntKind.i64 (p2 + 1)) p3 p4 l108 l99)))))))))
      (ocall V 73 [(.int .u8 (bt p0 p2))] fun x109 l110 =>
       asB x109 fun b111 => unn l110 (br b111
         (Lspec_Read_27v1 p0 p1 p2 (IntKind.wrap IntKind.i64 (ni p1 - 1)) p2 p3 p4 p5 p6)
         (ocall V 71 [(.agg [(.rs (5, 0) p3)])] fun x112 l113 =>
          asAgg x112 fun l114 => unc l114 fun x115 l116 => asOs (5, 0) x115 fun l117 => unn l116 (unn l113 (some ((.tup [(.agg [(.os (5, 0) l117)]), (.os (1, 0) p4), (.int .i64 (2)), (.int .i64 p2)]), []))))))))))
   (br (decide (ni p1 > 1))
    (ocall V 71 [(.agg [(.rs (5, 0) p3)])] fun x118 l119 =>
     asAgg x118 fun l120 => unc l120 fun x121 l122 => asOs (5, 0) x121 fun l123 => unn l122 (unn l119 (grd (decide (0 ≤ IntKind.wrap IntKind.i64 (ni p1 - 1)) && decide (IntKind.wrap IntKind.i64 (ni p1 - 1) < ni p1) && decide (0 + p1 ≤ List.length p5)) (oget p5 (0 + Int.toNat (IntKind.wrap IntKind.i64 (ni p1 - 1))) fun x124 =>
         asAgg x124 fun l125 => oget l125 0 fun x126 =>
           asI .i64 x126 fun n127 => some ((.tup [(.agg [(.os (5, 0) l123)]), (.os (1, 0) p4), (.int .i64 (4)), (.int .i64 n127)]), [])))))
    (ocall V 67 [(.agg [(.rs (5, 0) p6)])] fun x128 l129 =>
     asB x128 fun b130 => unn l129 (br (!b130)
       (ocall V 71 [(.agg [(.rs (5, 0) p3)])] fun x131 l132 =>
        asAgg x131 fun l133 => unc l133 fun x134 l135 => asOs (5, 0) x134 fun l136 => unn l135 (unn l132 (some ((.tup [(.agg [(.os (5, 0) l136)]), (.os (1, 0) p4), (.int .i64 (6)), (.int .i64 (0))]), []))))
       (grd (decide (0 ≤ 0) && decide (0 < ni p1) && decide (0 + p1 ≤ List.length p5)) (oget p5 0 fun x137 =>
        asAgg x137 fun l138 => oget l138 1 fun x139 =>
          asOs (1, 0) x139 fun l140 => asAgg x137 fun l141 => grd (decide (ni (List.length ([] ++ l140)) ≤ LIM)) (nam ([] ++ l140) fun l142 =>
             some ((.tup [(.agg [(.os (5, 0) p6)]), (.os (1, 0) l142), (.int .i64 (0)), (.int .i64 (ni (ByteArray.size p0)))]), []))))))) := by
  exact (Rn_eq _ _ _).trans (by kernel_rfl)
theorem espec_DrawWrite (a0_ : List D) : V 19 [.rs (1, 0) a0_] =
  ocall V 52 [(.rs (1, 0) a0_)] fun x0 l1 =>
   asOp x0 fun l2 => unc l2 fun x3 l4 => asRs (1, 0) x3 fun l5 => unc l4 fun x6 l7 => asI .i64 x6 fun n8 => unc l7 fun x9 l10 => asI .i64 x9 fun n11 => unn l10 (unn l1 (ocall V 63 [(.op [(.rs (1, 0) l5), (.int .i64 n8), (.int .i64 n11)]), (.int .i64 (4))] fun x12 l13 =>
           asB x12 fun b14 => unc l13 fun x15 l16 => asOp x15 fun l17 => unc l17 fun x18 l19 => asRs (1, 0) x18 fun l20 => unc l19 fun x21 l22 => asI .i64 x21 fun n23 => unc l22 fun x24 l25 => asI .i64 x24 fun n26 => unn l25 (unn l16 (br b14
                     (ocall V 64 [(.rs (1, 0) a0_)] fun x27 l28 =>
                      asTup x27 fun l29 => unc l29 fun x30 l31 => asAgg x30 fun l32 => unc l32 fun x33 l34 => asAs (5, 0) x33 fun l35 => unn l34 (unc l31 fun x36 l37 => asI .i64 x36 fun n38 => unn l37 (unn l28 (some ((.tup [(.agg [(.rs (5, 0) l35)]), (.int .i64 n38)]), [])))))
                     (ocall V 65 [(.op [(.rs (1, 0) l20), (.int .i64 n23), (.int .i64 n26)]), (.int .i64 (4))] fun x39 l40 =>
                      asS x39 fun s41 => unc l40 fun x42 l43 => asOp x42 fun l44 => unc l44 fun x45 l46 => asRs (1, 0) x45 fun l47 => unc l46 fun x48 l49 => asI .i64 x48 fun n50 => unc l49 fun x51 l52 => asI .i64 x51 fun n53 => unn l52 (unn l43 (ocall V 22 [(.agg [(.rs (5, 0) [])]), (.str s41)] fun x54 l55 =>
                                asTup x54 fun l56 => unc l56 fun x57 l58 => asAgg x57 fun l59 => unc l59 fun x60 l61 => asOs (5, 0) x60 fun l62 => unn l61 (unc l58 fun x63 l64 => asOs (1, 0) x63 fun l65 => unc l64 fun x66 l67 => asI .i64 x66 fun n68 => unc l67 fun x69 l70 => asI .i64 x69 fun _ => unn l70 (unn l55 (br (n68 == 0)
                                            (br (decide (ni (List.length l65) > 0))
                                             (ocall V 63 [(.op [(.rs (1, 0) l47), (.int .i64 n50), (.int .i64 n53)]), (.int .i64 (2))] fun x72 l73 =>
                                              asB x72 fun b74 => unc l73 fun x75 l76 => asOp x75 fun l77 => unc l77 fun x78 l79 => asRs (1, 0) x78 fun l80 => unc l79 fun x81 l82 => asI .i64 x81 fun n83 => unc l82 fun x84 l85 => asI .i64 x84 fun n86 => unn l85 (unn l76 (br b74
                                                        (grd (decide (0 ≤ 0) && decide (0 < ni (List.length l65))) (oget l65 0 fun x87 =>
                                                         asI .i64 x87 fun n88 => some ((.tup [(.agg [(.os (5, 0) l62)]), (.int .i64 n88)]), [])))
                                                        (ocall V 53 [(.op [(.rs (1, 0) l80), (.int .i64 n83), (.int .i64 n86)])] fun x89 l90 =>
                                                         asAgg x89 fun l91 => unc l91 fun x92 l93 => asOs (5, 0) x92 fun l94 => unn l93 (unc l90 fun x95 l96 => asOp x95 fun l97 => unc l97 fun x98 l99 => asRs (1, 0) x98 fun l100 => unc l99 fun x101 l102 => asI .i64 x101 fun n103 => unc l102 fun x104 l105 => asI .i64 x104 fun n106 => unn l105 (unn l96 (ocall V 66 [(.op [(.rs (1, 0) l100), (.int .i64 n103), (.int .i64 n106)]), (.agg [(.rs (5, 0) l94)])] fun x107 l108 =>
                                                                     asI .i64 x107 fun n109 => unc l108 fun x110 l111 => asOp x110 fun l112 => unc l112 fun x113 l114 => asRs (1, 0) x113 fun _ => unc l114 fun x116 l117 => asI .i64 x116 fun _ => unc l117 fun x119 l120 => asI .i64 x119 fun _ => unn l120 (unn l111 (some ((.tup [(.agg [(.rs (5, 0) l94)]), (.int .i64 n109)]), []))))))))))
                                             (ocall V 53 [(.op [(.rs (1, 0) l47), (.int .i64 n50), (.int .i64 n53)])] fun x122 l123 =>
                                              asAgg x122 fun l124 => unc l124 fun x125 l126 => asOs (5, 0) x125 fun l127 => unn l126 (unc l123 fun x128 l129 => asOp x128 fun l130 => unc l130 fun x131 l132 => asRs (1, 0) x131 fun l133 => unc l132 fun x134 l135 => asI .i64 x134 fun n136 => unc l135 fun x137 l138 => asI .i64 x137 fun n139 => unn l138 (unn l129 (ocall V 66 [(.op [(.rs (1, 0) l133), (.int .i64 n136), (.int .i64 n139)]), (.agg [(.rs (5, 0) l127)])] fun x140 l141 =>
                                                          asI .i64 x140 fun n142 => unc l141 fun x143 l144 => asOp x143 fun l145 => unc l145 fun x146 l147 => asRs (1, 0) x146 fun _ => unc l147 fun x149 l150 => asI .i64 x149 fun _ => unc l150 fun x152 l153 => asI .i64 x152 fun _ => unn l153 (unn l144 (some ((.tup [(.agg [(.rs (5, 0) l127)]), (.int .i64 n142)]), []))))))))
                                            (ocall V 53 [(.op [(.rs (1, 0) l47), (.int .i64 n50), (.int .i64 n53)])] fun x155 l156 =>
                                             asAgg x155 fun l157 => unc l157 fun x158 l159 => asOs (5, 0) x158 fun l160 => unn l159 (unc l156 fun x161 l162 => asOp x161 fun l163 => unc l163 fun x164 l165 => asRs (1, 0) x164 fun l166 => unc l165 fun x167 l168 => asI .i64 x167 fun n169 => unc l168 fun x170 l171 => asI .i64 x170 fun n172 => unn l171 (unn l162 (ocall V 66 [(.op [(.rs (1, 0) l166), (.int .i64 n169), (.int .i64 n172)]), (.agg [(.rs (5, 0) l160)])] fun x173 l174 =>
                                                         asI .i64 x173 fun n175 => unc l174 fun x176 l177 => asOp x176 fun l178 => unc l178 fun x179 l180 => asRs (1, 0) x179 fun _ => unc l180 fun x182 l183 => asI .i64 x182 fun _ => unc l183 fun x185 l186 => asI .i64 x185 fun _ => unn l186 (unn l177 (some ((.tup [(.agg [(.rs (5, 0) l160)]), (.int .i64 n175)]), []))))))))))))))))) := by
  exact (Vn_eq Try.func19 rfl _).trans (by kernel_rfl)
theorem Limpl_writing_pairs_1_eq (p0 : Int) (p1 : Bool) (p2 : List D) (p3 : List D) : Limpl_writing_pairs_1 p0 p1 p2 p3 =
  grd (decide (0 ≤ p0) && decide (p0 < ni (List.length p2))) (oget p2 (Int.toNat p0) fun x0 =>
   asAgg x0 fun l1 => oget l1 0 fun x2 =>
     asI .i64 x2 fun n3 => br (n3 == 5)
       (ocall V 61 [(.op [(.rs (5, 0) p2), (.os (1, 0) p3)])] fun x4 l5 =>
        asB x4 fun b6 => unc l5 fun x7 l8 => asOp x7 fun l9 => unc l9 fun x10 l11 => asRs (5, 0) x10 fun l12 => unc l11 fun x13 l14 => asOs (1, 0) x13 fun l15 => unn l14 (unn l8 (br (!b6)
                (br (!p1)
                 (ocall V 118 [(.op [(.rs (5, 0) l12), (.os (1, 0) l15)]), (.str ({ data := #[32] }))] fun x16 l17 =>
                  asTup x16 fun l18 => unn l18 (unc l17 fun x19 l20 => asOp x19 fun l21 => unc l21 fun x22 l23 => asRs (5, 0) x22 fun l24 => unc l23 fun x25 l26 => asOs (1, 0) x25 fun l27 => unn l26 (unn l20 (grd (decide (0 ≤ p0) && decide (p0 < ni (List.length l24))) (oget l24 (Int.toNat p0) fun x28 =>
                          asAgg x28 fun l29 => oget l29 3 fun x30 =>
                            asI .i64 x30 fun n31 => ocall V 60 [(.op [(.rs (5, 0) l24), (.os (1, 0) l27)]), (.int .i64 n31)] fun x32 l33 =>
                              asTup x32 fun l34 => unn l34 (unc l33 fun x35 l36 => asOp x35 fun l37 => unc l37 fun x38 l39 => asRs (5, 0) x38 fun l40 => unc l39 fun x41 l42 => asOs (1, 0) x41 fun l43 => unn l42 (unn l36 (grd (decide (0 ≤ p0) && decide (p0 < ni (List.length l40))) (oget l40 (Int.toNat p0) fun x44 =>
                                      asAgg x44 fun l45 => oget l45 4 fun x46 =>
                                        asI .i64 x46 fun n47 => Limpl_writing_pairs_1 n47 false l40 l43)))))))))
                 (grd (decide (0 ≤ p0) && decide (p0 < ni (List.length l12))) (oget l12 (Int.toNat p0) fun x48 =>
                  asAgg x48 fun l49 => oget l49 3 fun x50 =>
                    asI .i64 x50 fun n51 => ocall V 60 [(.op [(.rs (5, 0) l12), (.os (1, 0) l15)]), (.int .i64 n51)] fun x52 l53 =>
                      asTup x52 fun l54 => unn l54 (unc l53 fun x55 l56 => asOp x55 fun l57 => unc l57 fun x58 l59 => asRs (5, 0) x58 fun l60 => unc l59 fun x61 l62 => asOs (1, 0) x61 fun l63 => unn l62 (unn l56 (grd (decide (0 ≤ p0) && decide (p0 < ni (List.length l60))) (oget l60 (Int.toNat p0) fun x64 =>
                              asAgg x64 fun l65 => oget l65 4 fun x66 =>
                                asI .i64 x66 fun n67 => Limpl_writing_pairs_1 n67 false l60 l63)))))))
                (grd (decide (0 ≤ p0) && decide (p0 < ni (List.length l12))) (oget l12 (Int.toNat p0) fun x68 =>
                 asAgg x68 fun l69 => oget l69 0 fun x70 =>
                   asI .i64 x70 fun n71 => br (n71 != 1)
                     (br (n71 != 5)
                      (ocall V 118 [(.op [(.rs (5, 0) l12), (.os (1, 0) l15)]), (.str ({ data := #[32, 46, 32] }))] fun x72 l73 =>
                       asTup x72 fun l74 => unn l74 (unc l73 fun x75 l76 => asOp x75 fun l77 => unc l77 fun x78 l79 => asRs (5, 0) x78 fun l80 => unc l79 fun x81 l82 => asOs (1, 0) x81 fun l83 => unn l82 (unn l76 (ocall V 60 [(.op [(.rs (5, 0) l80), (.os (1, 0) l83)]), (.int .i64 p0)] fun x84 l85 =>
                               asTup x84 fun l86 => unn l86 (unc l85 fun x87 l88 => asOp x87 fun l89 => unc l89 fun x90 l91 => asRs (5, 0) x90 fun l92 => unc l91 fun x93 l94 => asOs (1, 0) x93 fun l95 => unn l94 (unn l88 (some ((.tup []), [(.op [(.rs (5, 0) l92), (.os (1, 0) l95)])]))))))))
                      (some ((.tup []), [(.op [(.rs (5, 0) l12), (.os (1, 0) l15)])])))
                     (some ((.tup []), [(.op [(.rs (5, 0) l12), (.os (1, 0) l15)])])))))))
       (grd (decide (0 ≤ p0) && decide (p0 < ni (List.length p2))) (oget p2 (Int.toNat p0) fun x96 =>
        asAgg x96 fun l97 => oget l97 0 fun x98 =>
          asI .i64 x98 fun n99 => br (n99 != 1)
            (br (n99 != 5)
             (ocall V 118 [(.op [(.rs (5, 0) p2), (.os (1, 0) p3)]), (.str ({ data := #[32, 46, 32] }))] fun x100 l101 =>
              asTup x100 fun l102 => unn l102 (unc l101 fun x103 l104 => asOp x103 fun l105 => unc l105 fun x106 l107 => asRs (5, 0) x106 fun l108 => unc l107 fun x109 l110 => asOs (1, 0) x109 fun l111 => unn l110 (unn l104 (ocall V 60 [(.op [(.rs (5, 0) l108), (.os (1, 0) l111)]), (.int .i64 p0)] fun x112 l113 =>
                      asTup x112 fun l114 => unn l114 (unc l113 fun x115 l116 => asOp x115 fun l117 => unc l117 fun x118 l119 => asRs (5, 0) x118 fun l120 => unc l119 fun x121 l122 => asOs (1, 0) x121 fun l123 => unn l122 (unn l116 (some ((.tup []), [(.op [(.rs (5, 0) l120), (.os (1, 0) l123)])]))))))))
             (some ((.tup []), [(.op [(.rs (5, 0) p2), (.os (1, 0) p3)])])))
            (some ((.tup []), [(.op [(.rs (5, 0) p2), (.os (1, 0) p3)])]))))) := by
  exact (Rn_eq _ _ _).trans (by kernel_rfl)
theorem Llaws_FnWritten_9_eq (p0 : ByteArray) (p1 : Int) (p2 : Int) : Llaws_FnWritten_9 p0 p1 p2 =
  br (decide (p2 < ni (ByteArray.size p0)))
   (grd (decide (0 ≤ p2) && decide (p2 < ni (ByteArray.size p0))) (br (bt p0 p2 == 40)
    (grd (decide (0 ≤ p2) && decide (p2 < ni (ByteArray.size p0))) (br (bt p0 p2 == 41)
     (br (decide (IntKind.wrap IntKind.i64 (IntKind.wrap IntKind.i64 (p1 + 1) - 1) < 0))
      (some ((.bool false), []))
      (grd (decide (0 ≤ p2) && decide (p2 < ni (ByteArray.size p0))) (br (bt p0 p2 == 32)
       (br (p2 == 0)
        (some ((.bool false), []))
        (br (IntKind.wrap IntKind.i64 (p2 + 1) == ni (ByteArray.size p0))
         (some ((.bool false), []))
         (grd (decide (0 ≤ IntKind.wrap IntKind.i64 (p2 + 1)) && decide (IntKind.wrap IntKind.i64 (p2 + 1) < ni (ByteArray.size p0))) (br (bt p0 (IntKind.wrap IntKind.i64 (p2 + 1)) == 32)
          (some ((.bool false), []))
          (Llaws_FnWritten_9 p0 (IntKind.wrap IntKind.i64 (IntKind.wrap IntKind.i64 (p1 + 1) - 1)) (IntKind.wrap IntKind.i64 (p2 + 1)))))))
       (Llaws_FnWritten_9 p0 (IntKind.wrap IntKind.i64 (IntKind.wrap IntKind.i64 (p1 + 1) - 1)) (IntKind.wrap IntKind.i64 (p2 + 1))))))
     (br (decide (IntKind.wrap IntKind.i64 (p1 + 1) < 0))
      (some ((.bool false), []))
      (grd (decide (0 ≤ p2) && decide (p2 < ni (ByteArray.size p0))) (br (bt p0 p2 == 32)
       (br (p2 == 0)
        (some ((.bool false), []))
        (br (IntKind.wrap IntKind.i64 (p2 + 1) == ni (ByteArray.size p0))
         (some ((.bool false), []))
         (grd (decide (0 ≤ IntKind.wrap IntKind.i64 (p2 + 1)) && decide (IntKind.wrap IntKind.i64 (p2 + 1) < ni (ByteArray.size p0))) (br (bt p0 (IntKind.wrap IntKind.i64 (p2 + 1)) == 32)
          (some ((.bool false), []))
          (Llaws_FnWritten_9 p0 (IntKind.wrap IntKind.i64 (p1 + 1)) (IntKind.wrap IntKind.i64 (p2 + 1)))))))
       (Llaws_FnWritten_9 p0 (IntKind.wrap IntKind.i64 (p1 + 1)) (IntKind.wrap IntKind.i64 (p2 + 1))))))))
    (grd (decide (0 ≤ p2) && decide (p2 < ni (ByteArray.size p0))) (br (bt p0 p2 == 41)
     (br (decide (IntKind.wrap IntKind.i64 (p1 - 1) < 0))
      (some ((.bool false), []))
      (grd (decide (0 ≤ p2) && decide (p2 < ni (ByteArray.size p0))) (br (bt p0 p2 == 32)
       (br (p2 == 0)
        (some ((.bool false), []))
        (br (IntKind.wrap IntKind.i64 (p2 + 1) == ni (ByteArray.size p0))
         (some ((.bool false), []))
         (grd (decide (0 ≤ IntKind.wrap IntKind.i64 (p2 + 1)) && decide (IntKind.wrap IntKind.i64 (p2 + 1) < ni (ByteArray.size p0))) (br (bt p0 (IntKind.wrap IntKind.i64 (p2 + 1)) == 32)
          (some ((.bool false), []))
          (Llaws_FnWritten_9 p0 (IntKind.wrap IntKind.i64 (p1 - 1)) (IntKind.wrap IntKind.i64 (p2 + 1)))))))
       (Llaws_FnWritten_9 p0 (IntKind.wrap IntKind.i64 (p1 - 1)) (IntKind.wrap IntKind.i64 (p2 + 1))))))
     (br (decide (p1 < 0))
      (some ((.bool false), []))
      (grd (decide (0 ≤ p2) && decide (p2 < ni (ByteArray.size p0))) (br (bt p0 p2 == 32)
       (br (p2 == 0)
        (some ((.bool false), []))
        (br (IntKind.wrap IntKind.i64 (p2 + 1) == ni (ByteArray.size p0))
         (some ((.bool false), []))
         (grd (decide (0 ≤ IntKind.wrap IntKind.i64 (p2 + 1)) && decide (IntKind.wrap IntKind.i64 (p2 + 1) < ni (ByteArray.size p0))) (br (bt p0 (IntKind.wrap IntKind.i64 (p2 + 1)) == 32)
          (some ((.bool false), []))
          (Llaws_FnWritten_9 p0 p1 (IntKind.wrap IntKind.i64 (p2 + 1)))))))
       (Llaws_FnWritten_9 p0 p1 (IntKind.wrap IntKind.i64 (p2 + 1))))))))))
   (br (p1 == 0)
    (some ((.bool (decide (ni (ByteArray.size p0) ≤ 400))), []))
    (some ((.bool false), []))) := by
  exact (Rn_eq _ _ _).trans (by kernel_rfl)
theorem espec_l3DrawText (a0_0 : List D) (a0_1 : Int) (a0_2 : Int) (a1_ : Int) : V 65 [.op [.rs (1, 0) a0_0, .int .i64 a0_1, .int .i64 a0_2], .int .i64 a1_] =
  br (decide (a1_ ≤ 0))
   (ocall V 122 [(.op [(.rs (1, 0) a0_0), (.int .i64 a0_1), (.int .i64 a0_2)]), (.rs (1, 0) [(.str ({ data := #[97] })), (.str ({ data := #[98, 99] })), (.str ({ data := #[49, 50] })), (.str ({ data := #[45, 51] })), (.str ({ data := #[48] })), (.str ({ data := #[35, 116] })), (.str ({ data := #[35, 102] })), (.str ({ data := #[40, 41] })), (.str ({ data := #[43] })), (.str ({ data := #[105, 102] })), (.str ({ data := #[120] })), (.str ({ data := #[110, 117, 108, 108, 63] })), (.str ({ data := #[49, 48, 48, 48, 48, 48, 48, 48, 48, 48] }))])] fun x0 l1 =>
    asS x0 fun s2 => unc l1 fun x3 l4 => asOp x3 fun l5 => unc l5 fun x6 l7 => asRs (1, 0) x6 fun l8 => unc l7 fun x9 l10 => asI .i64 x9 fun n11 => unc l10 fun x12 l13 => asI .i64 x12 fun n14 => unn l13 (unn l4 (some ((.str s2), [(.op [(.rs (1, 0) l8), (.int .i64 n11), (.int .i64 n14)])]))))
   (ocall V 63 [(.op [(.rs (1, 0) a0_0), (.int .i64 a0_1), (.int .i64 a0_2)]), (.int .i64 (3))] fun x15 l16 =>
    asB x15 fun b17 => unc l16 fun x18 l19 => asOp x18 fun l20 => unc l20 fun x21 l22 => asRs (1, 0) x21 fun l23 => unc l22 fun x24 l25 => asI .i64 x24 fun n26 => unc l25 fun x27 l28 => asI .i64 x27 fun n29 => unn l28 (unn l19 (br b17
              (ocall V 122 [(.op [(.rs (1, 0) l23), (.int .i64 n26), (.int .i64 n29)]), (.rs (1, 0) [(.str ({ data := #[97] })), (.str ({ data := #[98, 99] })), (.str ({ data := #[49, 50] })), (.str ({ data := #[45, 51] })), (.str ({ data := #[48] })), (.str ({ data := #[35, 116] })), (.str ({ data := #[35, 102] })), (.str ({ data := #[40, 41] })), (.str ({ data := #[43] })), (.str ({ data := #[105, 102] })), (.str ({ data := #[120] })), (.str ({ data := #[110, 117, 108, 108, 63] })), (.str ({ data := #[49, 48, 48, 48, 48, 48, 48, 48, 48, 48] }))])] fun x30 l31 =>
               asS x30 fun s32 => unc l31 fun x33 l34 => asOp x33 fun l35 => unc l35 fun x36 l37 => asRs (1, 0) x36 fun l38 => unc l37 fun x39 l40 => asI .i64 x39 fun n41 => unc l40 fun x42 l43 => asI .i64 x42 fun n44 => unn l43 (unn l34 (some ((.str s32), [(.op [(.rs (1, 0) l38), (.int .i64 n41), (.int .i64 n44)])]))))
              (ocall V 85 [(.op [(.rs (1, 0) l23), (.int .i64 n26), (.int .i64 n29)]), (.int .i64 (5))] fun x45 l46 =>
               asI .i64 x45 fun n47 => unc l46 fun x48 l49 => asOp x48 fun l50 => unc l50 fun x51 l52 => asRs (1, 0) x51 fun l53 => unc l52 fun x54 l55 => asI .i64 x54 fun n56 => unc l55 fun x57 l58 => asI .i64 x57 fun n59 => unn l58 (unn l49 (Lspec_l3DrawText_6 a1_ ({ data := #[40] }) n47 (0) l53 n56 n59)))))) := by
  exact (Vn_eq Try.func65 rfl _).trans (by kernel_rfl)
theorem Lspec_l3DrawText_6_eq (p0 : Int) (p1 : ByteArray) (p2 : Int) (p3 : Int) (p4 : List D) (p5 : Int) (p6 : Int) : Lspec_l3DrawText_6 p0 p1 p2 p3 p4 p5 p6 =
  br (decide (p3 < p2))
   (br (decide (p3 > 0))
    (ocall V 122 [(.op [(.rs (1, 0) p4), (.int .i64 p5), (.int .i64 p6)]), (.rs (1, 0) [(.str ({ data := #[32] })), (.str ({ data := #[32] })), (.str ({ data := #[32, 32] }))])] fun x60 l61 =>
     asS x60 fun s62 => unc l61 fun x63 l64 => asOp x63 fun l65 => unc l65 fun x66 l67 => asRs (1, 0) x66 fun l68 => unc l67 fun x69 l70 => asI .i64 x69 fun n71 => unc l70 fun x72 l73 => asI .i64 x72 fun n74 => unn l73 (unn l64 (grd (decide (ni (ByteArray.size p1 + ByteArray.size s62) ≤ LIM)) (ocall V 65 [(.op [(.rs (1, 0) l68), (.int .i64 n71), (.int .i64 n74)]), (.int .i64 (IntKind.wrap IntKind.i64 (p0 - 1)))] fun x75 l76 =>
               asS x75 fun s77 => unc l76 fun x78 l79 => asOp x78 fun l80 => unc l80 fun x81 l82 => asRs (1, 0) x81 fun l83 => unc l82 fun x84 l85 => asI .i64 x84 fun n86 => unc l85 fun x87 l88 => asI .i64 x87 fun n89 => unn l88 (unn l79 (grd (decide (ni (ByteArray.size (p1 ++ s62) + ByteArray.size s77) ≤ LIM)) (Lspec_l3DrawText_6 p0 (p1 ++ s62 ++ s77) p2 (IntKind.wrap IntKind.i64 (p3 + 1)) l83 n86 n89)))))))
    (ocall V 65 [(.op [(.rs (1, 0) p4), (.int .i64 p5), (.int .i64 p6)]), (.int .i64 (IntKind.wrap IntKind.i64 (p0 - 1)))] fun x90 l91 =>
     asS x90 fun s92 => unc l91 fun x93 l94 => asOp x93 fun l95 => unc l95 fun x96 l97 => asRs (1, 0) x96 fun l98 => unc l97 fun x99 l100 => asI .i64 x99 fun n101 => unc l100 fun x102 l103 => asI .i64 x102 fun n104 => unn l103 (unn l94 (grd (decide (ni (ByteArray.size p1 + ByteArray.size s92) ≤ LIM)) (Lspec_l3DrawText_6 p0 (p1 ++ s92) p2 (IntKind.wrap IntKind.i64 (p3 + 1)) l98 n101 n104)))))
   (grd (decide (ni (ByteArray.size p1 + ByteArray.size { data := #[41] }) ≤ LIM)) (some ((.str (p1 ++ { data := #[41] })), [(.op [(.rs (1, 0) p4), (.int .i64 p5), (.int .i64 p6)])]))) := by
  exact (Rn_eq _ _ _).trans (by kernel_rfl)
theorem Lspec_l3Num_8_eq (p0 : ByteArray) (p1 : ByteArray) (p2 : Int) (p3 : Int) : Lspec_l3Num_8 p0 p1 p2 p3 =
  br (decide (p3 < ni (ByteArray.size p1)))
   (grd (decide (0 ≤ p3) && decide (p3 < ni (ByteArray.size p1))) (ocall V 129 [(.int .u8 (bt p1 p3))] fun x0 l1 =>
    asB x0 fun b2 => unn l1 (br (!b2)
      (some ((.tup [(.int .i64 (0)), (.bool false)]), []))
      (grd (decide (0 ≤ p3) && decide (p3 < ni (ByteArray.size p1))) (Lspec_l3Num_8 p0 p1 (IntKind.wrap IntKind.i64 (IntKind.wrap IntKind.i64 (IntKind.wrap IntKind.i64 (10 * p2) + IntKind.wrap IntKind.i64 (bt p1 p3)) - 48)) (IntKind.wrap IntKind.i64 (p3 + 1)))))))
   (br (ni (ByteArray.size p1) != ni (ByteArray.size p0))
    (ocall V 126 [(.int .i64 (IntKind.wrap IntKind.i64 (0 - p2)))] fun x3 l4 =>
     asS x3 fun s5 => unn l4 (br (strEq s5 p0)
       (ocall V 104 [(.int .i64 (IntKind.wrap IntKind.i64 (0 - p2))), (.int .i64 (-1000000000)), (.int .i64 (1000000000))] fun x6 l7 =>
        asB x6 fun b8 => unn l7 (some ((.tup [(.int .i64 (IntKind.wrap IntKind.i64 (0 - p2))), (.bool b8)]), [])))
       (some ((.tup [(.int .i64 (IntKind.wrap IntKind.i64 (0 - p2))), (.bool false)]), []))))
    (ocall V 126 [(.int .i64 p2)] fun x9 l10 =>
     asS x9 fun s11 => unn l10 (br (strEq s11 p0)
       (ocall V 104 [(.int .i64 p2), (.int .i64 (-1000000000)), (.int .i64 (1000000000))] fun x12 l13 =>
        asB x12 fun b14 => unn l13 (some ((.tup [(.int .i64 p2), (.bool b14)]), [])))
       (some ((.tup [(.int .i64 p2), (.bool false)]), []))))) := by
  exact (Rn_eq _ _ _).trans (by kernel_rfl)
theorem espec_l2NameByte (a0_ : Int) : V 128 [.int .u8 a0_] =
  br (decide (a0_ ≥ 97))
   (br (decide (a0_ ≤ 122))
    (some ((.bool true), []))
    (br (a0_ == 43)
     (some ((.bool true), []))
     (br (a0_ == 45)
      (some ((.bool true), []))
      (br (a0_ == 42)
       (some ((.bool true), []))
       (br (a0_ == 60)
        (some ((.bool true), []))
        (br (a0_ == 61)
         (some ((.bool true), []))
         (br (a0_ == 63)
          (some ((.bool true), []))
          (br (a0_ == 33)
           (some ((.bool true), []))
           (some ((.bool (a0_ == 47)), []))))))))))
   (br (a0_ == 43)
    (some ((.bool true), []))
    (br (a0_ == 45)
     (some ((.bool true), []))
     (br (a0_ == 42)
      (some ((.bool true), []))
      (br (a0_ == 60)
       (some ((.bool true), []))
       (br (a0_ == 61)
        (some ((.bool true), []))
        (br (a0_ == 63)
         (some ((.bool true), []))
         (br (a0_ == 33)
          (some ((.bool true), []))
          (some ((.bool (a0_ == 47)), []))))))))) := by
  exact (Vn_eq Try.func128 rfl _).trans (by kernel_rfl)
theorem espec_l3Word (a0_ : ByteArray) : V 74 [.str a0_] =
  br (strEq a0_ { data := #[35, 116] })
   (some ((.tup [(.agg [(.int .i64 (2)), (.int .i64 (1)), (.str ({ data := #[] })), (.int .i64 (0)), (.int .i64 (0))]), (.bool true)]), []))
   (br (strEq a0_ { data := #[35, 102] })
    (some ((.tup [(.agg [(.int .i64 (2)), (.int .i64 (0)), (.str ({ data := #[] })), (.int .i64 (0)), (.int .i64 (0))]), (.bool true)]), []))
    (ocall V 130 [(.str a0_)] fun x0 l1 =>
     asTup x0 fun l2 => unc l2 fun x3 l4 => asI .i64 x3 fun n5 => unc l4 fun x6 l7 => asB x6 fun b8 => unn l7 (unn l1 (br b8
           (some ((.tup [(.agg [(.int .i64 (3)), (.int .i64 n5), (.str ({ data := #[] })), (.int .i64 (0)), (.int .i64 (0))]), (.bool true)]), []))
           (ocall V 131 [(.str a0_)] fun x9 l10 =>
            asB x9 fun b11 => unn l10 (some ((.tup [(.agg [(.int .i64 (4)), (.int .i64 (0)), (.str a0_), (.int .i64 (0)), (.int .i64 (0))]), (.bool b11)]), []))))))) := by
  exact (Vn_eq Try.func74 rfl _).trans (by kernel_rfl)
theorem Lspec_PoolOk_2_eq (p0 : Int) (p1 : List D) : Lspec_PoolOk_2 p0 p1 =
  br (decide (p0 < ni (List.length p1)))
   (grd (decide (0 ≤ p0) && decide (p0 < ni (List.length p1))) (oget p1 (Int.toNat p0) fun x0 =>
    asAgg x0 fun l1 => unc l1 fun x2 l3 => asI .i64 x2 fun n4 => unc l3 fun x5 l6 => asI .i64 x5 fun n7 => unc l6 fun x8 l9 => asS x8 fun s10 => unc l9 fun x11 l12 => asI .i64 x11 fun n13 => unc l12 fun x14 l15 => asI .i64 x14 fun n16 => unn l15 (ocall V 125 [(.agg [(.int .i64 n4), (.int .i64 n7), (.str s10), (.int .i64 n13), (.int .i64 n16)]), (.int .i64 p0)] fun x17 l18 =>
                asB x17 fun b19 => unn l18 (br (!b19)
                  (some ((.bool false), []))
                  (Lspec_PoolOk_2 (IntKind.wrap IntKind.i64 (p0 + 1)) p1)))))
   (some ((.bool (decide (ni (List.length p1) ≤ 3000))), [])) := by
  exact (Rn_eq _ _ _).trans (by kernel_rfl)
theorem Lspec_l2List_3_eq (p0 : List D) (p1 : Int) (p2 : Int) (p3 : List D) : Lspec_l2List_3 p0 p1 p2 p3 =
  br (decide (p2 ≥ 0))
   (grd (decide (0 ≤ p2) && decide (p2 < ni (List.length p0))) (oget p0 (Int.toNat p2) fun x9 =>
    asI .i64 x9 fun n10 => ocall V 75 [(.op [(.os (5, 0) p3)]), (.agg [(.int .i64 (5)), (.int .i64 (0)), (.str ({ data := #[] })), (.int .i64 n10), (.int .i64 p1)])] fun x11 l12 =>
      asI .i64 x11 fun n13 => unc l12 fun x14 l15 => asOp x14 fun l16 => unc l16 fun x17 l18 => asOs (5, 0) x17 fun l19 => unn l18 (unn l15 (Lspec_l2List_3 p0 n13 (IntKind.wrap IntKind.i64 (p2 - 1)) l19))))
   (some ((.int .i64 p1), [(.op [(.os (5, 0) p3)])])) := by
  exact (Rn_eq _ _ _).trans (by kernel_rfl)
theorem espec_l1Once (a0_0 : List D) (a0_1 : Int) (a0_2 : Int) (a1_ : Int) : V 63 [.op [.rs (1, 0) a0_0, .int .i64 a0_1, .int .i64 a0_2], .int .i64 a1_] =
  ocall V 85 [(.op [(.rs (1, 0) a0_0), (.int .i64 a0_1), (.int .i64 a0_2)]), (.int .i64 a1_)] fun x0 l1 =>
   asI .i64 x0 fun n2 => unc l1 fun x3 l4 => asOp x3 fun l5 => unc l5 fun x6 l7 => asRs (1, 0) x6 fun l8 => unc l7 fun x9 l10 => asI .i64 x9 fun n11 => unc l10 fun x12 l13 => asI .i64 x12 fun n14 => unn l13 (unn l4 (some ((.bool (n2 == 0)), [(.op [(.rs (1, 0) l8), (.int .i64 n11), (.int .i64 n14)])]))) := by
  exact (Vn_eq Try.func63 rfl _).trans (by kernel_rfl)
theorem eimpl_Pool_pair (p : List D) (a : Int) (b : Int) : V 176 [.op [.os (5, 0) p], .int .i64 a, .int .i64 b] =
  ocall V 138 [(.op [(.os (5, 0) p)]), (.agg [(.int .i64 (5)), (.int .i64 (0)), (.str ({ data := #[] })), (.int .i64 a), (.int .i64 b)])] fun x0 l1 =>
   asI .i64 x0 fun n2 => unc l1 fun x3 l4 => asOp x3 fun l5 => unc l5 fun x6 l7 => asOs (5, 0) x6 fun l8 => unn l7 (unn l4 (some ((.int .i64 n2), [(.op [(.os (5, 0) l8)])]))) := by
  exact (Vn_eq Try.func176 rfl _).trans (by kernel_rfl)
theorem Limpl_NameOk_4_eq (p0 : ByteArray) (p1 : Int) (p2 : Int) : Limpl_NameOk_4 p0 p1 p2 =
  br (decide (p2 < p1))
   (grd (decide (0 ≤ p2) && decide (p2 < ni (ByteArray.size p0))) (ocall V 163 [(.int .u8 (bt p0 p2))] fun x3 l4 =>
    asB x3 fun b5 => unn l4 (br (!b5)
      (some ((.bool false), []))
      (Limpl_NameOk_4 p0 p1 (IntKind.wrap IntKind.i64 (p2 + 1))))))
   (some ((.bool true), [])) := by
  exact (Rn_eq _ _ _).trans (by kernel_rfl)
theorem espec_l3WordByte (a0_ : Int) : V 73 [.int .u8 a0_] =
  ocall V 128 [(.int .u8 a0_)] fun x0 l1 =>
   asB x0 fun b2 => unn l1 (br b2
     (some ((.bool true), []))
     (ocall V 129 [(.int .u8 a0_)] fun x3 l4 =>
      asB x3 fun b5 => unn l4 (br b5
        (some ((.bool true), []))
        (some ((.bool (a0_ == 35)), []))))) := by
  exact (Vn_eq Try.func73 rfl _).trans (by kernel_rfl)
theorem espec_l7Into (p : List D) (q : List D) (t : List D) : V 116 [.op [.os (5, 0) p], .agg [.rs (5, 0) q], .rs (1, 0) t] =
  grd (decide (0 ≤ ni (List.length q)) && decide (ni (List.length q) ≤ LIM)) (Lspec_l7Into_3 t (0) q (List.replicate (Int.toNat (ni (List.length q))) (D.int IntKind.i64 (0))) p) := by
  exact (Vn_eq Try.func116 rfl _).trans (by kernel_rfl)
theorem eimpl_within (a0_ : Int) (a1_ : Int) (a2_ : Int) : V 106 [.int .i64 a0_, .int .i64 a1_, .int .i64 a2_] =
  br (decide (a0_ ≥ a1_))
   (some ((.bool (decide (a0_ ≤ a2_))), []))
   (some ((.bool false), [])) := by
  exact (Vn_eq Try.func106 rfl _).trans (by kernel_rfl)
theorem espec_l1In (a0_ : Int) (a1_ : Int) (a2_ : Int) : V 104 [.int .i64 a0_, .int .i64 a1_, .int .i64 a2_] =
  br (decide (a0_ ≥ a1_))
   (some ((.bool (decide (a0_ ≤ a2_))), []))
   (some ((.bool false), [])) := by
  exact (Vn_eq Try.func104 rfl _).trans (by kernel_rfl)
theorem eimpl_copyPool (a0_0 : List D) : V 77 [.agg [.rs (5, 0) a0_0]] =
  ocall V 133 [(.rs (5, 0) a0_0)] fun x0 l1 =>
   asOs (5, 0) x0 fun l2 => unn l1 (some ((.agg [(.os (5, 0) l2)]), [])) := by
  exact (Vn_eq Try.func77 rfl _).trans (by kernel_rfl)
theorem eIndexFunc_rootsOk (l : List D) (p : List D) : V 161 [.rs (1, 0) l, .fn 114 [.bp [.rs (5, 0) p]]] =
  LIndexFunc_rootsOk_2 l p (ni (List.length l)) (0) := by
  exact (Vn_eq Try.func161 rfl _).trans (by kernel_rfl)
theorem espec_l1New (a0_ : List D) : V 52 [.rs (1, 0) a0_] =
  Lspec_l1New_3 a0_ (IntKind.wrap IntKind.i64 (17000 + ni (List.length a0_))) (0) := by
  exact (Vn_eq Try.func52 rfl _).trans (by kernel_rfl)
theorem espec_l7Roots (a0_0 : List D) (a1_ : List D) : V 57 [.agg [.rs (5, 0) a0_0], .rs (1, 0) a1_] =
  Lspec_l7Roots_2 a1_ (0) a0_0 := by
  exact (Vn_eq Try.func57 rfl _).trans (by kernel_rfl)
end Go.Eng
