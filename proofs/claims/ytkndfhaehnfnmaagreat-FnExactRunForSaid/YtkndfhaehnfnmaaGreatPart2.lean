/- the program and the reference on plain data, part 2 -/
import Derived.Test.YtkndfhaehnfnmaaGreatPart1
import Derived.Test.YtkndfhaehnfnmaaGreatEngC
/-! the functions as the interpreter has them -/
namespace Go.Eng
open Go.Proofs Go.Proofs.Tryz
set_option maxRecDepth 100000
theorem Ky (a0_0 a0_1 a0_2 a1_0 : List D) (a1_1 a1_2 a1_3 a1_4 a1_5 a1_6 a1_7 : Int) : V 64 [.agg [.rs (5,0) a0_0,.rs (4,0) a0_1,.rs (3,0) a0_2],.agg [.rs (5,0) a1_0,.int .i64 a1_1,.int .i64 a1_2,.int .i64 a1_3,.int .i64 a1_4,.int .i64 a1_5,.int .i64 a1_6,.int .i64 a1_7]] =
 ac V 63 [.agg [.rs (5,0) a1_0,.int .i64 a1_1,.int .i64 a1_2,.int .i64 a1_3,.int .i64 a1_4,.int .i64 a1_5,.int .i64 a1_6,.int .i64 a1_7]] fun x0 l1 =>
 tk3 x0 fun l5 n8 n11 n14 n17 n20 n23 n26 => (unn l1 (grd (decide (0 ≤ a1_1) && decide (a1_1 < ni (List.length a0_1))) (am a0_1 (Int.toNat a1_1) fun x27 =>
 wt x27 fun n31 n34 n37 s40 => (br (n31 == 7)
 (ac V 132 [.op [.os (5,0) l5,.int .i64 n8,.int .i64 n11,.int .i64 n14,.int .i64 n17,.int .i64 n20,.int .i64 n23,.int .i64 n26,.rs (5,0) a0_0,.rs (4,0) a0_1,.rs (3,0) a0_2],.int .i64 n37] fun x41 l42 =>
 asI .i64 x41 fun n43 => unc l42 fun x44 l45 => tk6 x44 fun l49 n52 n55 n58 n61 n64 n67 n70 _ _ _ => (unn l45 (br (n43 == 0)
 (br (decide (ni (List.length l49) > 3000))
 (ac V 92 [.agg [.rs (5,0) a1_0,.int .i64 a1_1,.int .i64 a1_2,.int .i64 a1_3,.int .i64 a1_4,.int .i64 a1_5,.int .i64 a1_6,.int .i64 a1_7],.int .i64 (6)] fun x80 l81 =>
 tk3 x80 fun l85 n88 n91 n94 n97 n100 n103 n106 => (unn l81 (some ((.agg [.os (5,0) l85,.int .i64 n88,.int .i64 n91,.int .i64 n94,.int .i64 n97,.int .i64 n100,.int .i64 n103,.int .i64 n106]),[]))))
 (br (n43 != 0)
 (ac V 92 [.agg [.rs (5,0) a1_0,.int .i64 a1_1,.int .i64 a1_2,.int .i64 a1_3,.int .i64 a1_4,.int .i64 a1_5,.int .i64 a1_6,.int .i64 a1_7],.int .i64 n43] fun x107 l108 =>
 tk3 x107 fun l112 n115 n118 n121 n124 n127 n130 n133 => (unn l108 (some ((.agg [.os (5,0) l112,.int .i64 n115,.int .i64 n118,.int .i64 n121,.int .i64 n124,.int .i64 n127,.int .i64 n130,.int .i64 n133]),[]))))
 (some ((.agg [.os (5,0) l49,.int .i64 n52,.int .i64 n55,.int .i64 n58,.int .i64 n61,.int .i64 n64,.int .i64 n67,.int .i64 n70]),[]))))
 (br (n43 != 0)
 (ac V 92 [.agg [.rs (5,0) a1_0,.int .i64 a1_1,.int .i64 a1_2,.int .i64 a1_3,.int .i64 a1_4,.int .i64 a1_5,.int .i64 a1_6,.int .i64 a1_7],.int .i64 n43] fun x134 l135 =>
 tk3 x134 fun l139 n142 n145 n148 n151 n154 n157 n160 => (unn l135 (some ((.agg [.os (5,0) l139,.int .i64 n142,.int .i64 n145,.int .i64 n148,.int .i64 n151,.int .i64 n154,.int .i64 n157,.int .i64 n160]),[]))))
 (some ((.agg [.os (5,0) l49,.int .i64 n52,.int .i64 n55,.int .i64 n58,.int .i64 n61,.int .i64 n64,.int .i64 n67,.int .i64 n70]),[]))))))
 (br (n31 == 8)
 (ac V 133 [.op [.os (5,0) l5,.int .i64 n8,.int .i64 n11,.int .i64 n14,.int .i64 n17,.int .i64 n20,.int .i64 n23,.int .i64 n26,.rs (5,0) a0_0,.rs (4,0) a0_1,.rs (3,0) a0_2]] fun x161 l162 =>
 asI .i64 x161 fun n163 => unc l162 fun x164 l165 => tk6 x164 fun l169 n172 n175 n178 n181 n184 n187 n190 _ _ _ => (unn l165 (br (n163 == 0)
 (br (decide (ni (List.length l169) > 3000))
 (ac V 92 [.agg [.rs (5,0) a1_0,.int .i64 a1_1,.int .i64 a1_2,.int .i64 a1_3,.int .i64 a1_4,.int .i64 a1_5,.int .i64 a1_6,.int .i64 a1_7],.int .i64 (6)] fun x200 l201 =>
 tk3 x200 fun l205 n208 n211 n214 n217 n220 n223 n226 => (unn l201 (some ((.agg [.os (5,0) l205,.int .i64 n208,.int .i64 n211,.int .i64 n214,.int .i64 n217,.int .i64 n220,.int .i64 n223,.int .i64 n226]),[]))))
 (br (n163 != 0)
 (ac V 92 [.agg [.rs (5,0) a1_0,.int .i64 a1_1,.int .i64 a1_2,.int .i64 a1_3,.int .i64 a1_4,.int .i64 a1_5,.int .i64 a1_6,.int .i64 a1_7],.int .i64 n163] fun x227 l228 =>
 tk3 x227 fun l232 n235 n238 n241 n244 n247 n250 n253 => (unn l228 (some ((.agg [.os (5,0) l232,.int .i64 n235,.int .i64 n238,.int .i64 n241,.int .i64 n244,.int .i64 n247,.int .i64 n250,.int .i64 n253]),[]))))
 (some ((.agg [.os (5,0) l169,.int .i64 n172,.int .i64 n175,.int .i64 n178,.int .i64 n181,.int .i64 n184,.int .i64 n187,.int .i64 n190]),[]))))
 (br (n163 != 0)
 (ac V 92 [.agg [.rs (5,0) a1_0,.int .i64 a1_1,.int .i64 a1_2,.int .i64 a1_3,.int .i64 a1_4,.int .i64 a1_5,.int .i64 a1_6,.int .i64 a1_7],.int .i64 n163] fun x254 l255 =>
 tk3 x254 fun l259 n262 n265 n268 n271 n274 n277 n280 => (unn l255 (some ((.agg [.os (5,0) l259,.int .i64 n262,.int .i64 n265,.int .i64 n268,.int .i64 n271,.int .i64 n274,.int .i64 n277,.int .i64 n280]),[]))))
 (some ((.agg [.os (5,0) l169,.int .i64 n172,.int .i64 n175,.int .i64 n178,.int .i64 n181,.int .i64 n184,.int .i64 n187,.int .i64 n190]),[]))))))
 (ac V 134 [.op [.os (5,0) l5,.int .i64 n8,.int .i64 n11,.int .i64 n14,.int .i64 n17,.int .i64 n20,.int .i64 n23,.int .i64 n26,.rs (5,0) a0_0,.rs (4,0) a0_1,.rs (3,0) a0_2],.agg [.int .i64 n31,.int .i64 n34,.int .i64 n37,.str s40]] fun x281 l282 =>
 asI .i64 x281 fun n283 => unc l282 fun x284 l285 => tk6 x284 fun l289 n292 n295 n298 n301 n304 n307 n310 _ _ _ => (unn l285 (br (n283 == 0)
 (br (decide (ni (List.length l289) > 3000))
 (ac V 92 [.agg [.rs (5,0) a1_0,.int .i64 a1_1,.int .i64 a1_2,.int .i64 a1_3,.int .i64 a1_4,.int .i64 a1_5,.int .i64 a1_6,.int .i64 a1_7],.int .i64 (6)] fun x320 l321 =>
 tk3 x320 fun l325 n328 n331 n334 n337 n340 n343 n346 => (unn l321 (some ((.agg [.os (5,0) l325,.int .i64 n328,.int .i64 n331,.int .i64 n334,.int .i64 n337,.int .i64 n340,.int .i64 n343,.int .i64 n346]),[]))))
 (br (n283 != 0)
 (ac V 92 [.agg [.rs (5,0) a1_0,.int .i64 a1_1,.int .i64 a1_2,.int .i64 a1_3,.int .i64 a1_4,.int .i64 a1_5,.int .i64 a1_6,.int .i64 a1_7],.int .i64 n283] fun x347 l348 =>
 tk3 x347 fun l352 n355 n358 n361 n364 n367 n370 n373 => (unn l348 (some ((.agg [.os (5,0) l352,.int .i64 n355,.int .i64 n358,.int .i64 n361,.int .i64 n364,.int .i64 n367,.int .i64 n370,.int .i64 n373]),[]))))
 (some ((.agg [.os (5,0) l289,.int .i64 n292,.int .i64 n295,.int .i64 n298,.int .i64 n301,.int .i64 n304,.int .i64 n307,.int .i64 n310]),[]))))
 (br (n283 != 0)
 (ac V 92 [.agg [.rs (5,0) a1_0,.int .i64 a1_1,.int .i64 a1_2,.int .i64 a1_3,.int .i64 a1_4,.int .i64 a1_5,.int .i64 a1_6,.int .i64 a1_7],.int .i64 n283] fun x374 l375 =>
 tk3 x374 fun l379 n382 n385 n388 n391 n394 n397 n400 => (unn l375 (some ((.agg [.os (5,0) l379,.int .i64 n382,.int .i64 n385,.int .i64 n388,.int .i64 n391,.int .i64 n394,.int .i64 n397,.int .i64 n400]),[]))))
 (some ((.agg [.os (5,0) l289,.int .i64 n292,.int .i64 n295,.int .i64 n298,.int .i64 n301,.int .i64 n304,.int .i64 n307,.int .i64 n310]),[]))))))))))) := by
  exact (ay Tryz.func64 rfl _).trans (by kernel_rfl)
theorem JW (a0_0 : List D) (a0_1 a0_2 a0_3 a0_4 a0_5 a0_6 a0_7 : Int) : V 18 [.agg [.rs (5,0) a0_0,.int .i64 a0_1,.int .i64 a0_2,.int .i64 a0_3,.int .i64 a0_4,.int .i64 a0_5,.int .i64 a0_6,.int .i64 a0_7]] =
 br (a0_5 == 1)
 (grd (decide (ni 4 ≤ LIM)) (ac V 65 [.agg [.rs (5,0) a0_0],.rs (1,0) [.int .i64 a0_2,.int .i64 a0_3,.int .i64 a0_4,.int .i64 a0_7]] fun x0 l1 =>
 asB x0 fun b2 => unn l1 (br (!b2)
 (ac V 63 [.agg [.rs (5,0) a0_0,.int .i64 a0_1,.int .i64 a0_2,.int .i64 a0_3,.int .i64 a0_4,.int .i64 a0_5,.int .i64 a0_6,.int .i64 a0_7]] fun x3 l4 =>
 tk3 x3 fun l8 n11 n14 n17 n20 n23 n26 n29 => (unn l4 (some ((.agg [.os (5,0) l8,.int .i64 n11,.int .i64 n14,.int .i64 n17,.int .i64 n20,.int .i64 n23,.int .i64 n26,.int .i64 n29]),[]))))
 (ac V 66 [.agg [.rs (5,0) a0_0],.rs (1,0) [.int .i64 a0_2,.int .i64 a0_3,.int .i64 a0_4,.int .i64 a0_7]] fun x30 l31 =>
 b6 x30 fun l32 => unc l32 fun x33 l34 => asAgg x33 fun l35 => unc l35 fun x36 l37 => aM (5,0) x36 fun l38 => unn l37 (unc l34 fun x39 l40 => aM (1,0) x39 fun l41 => unn l40 (unn l31 (grd (decide (0 ≤ 0) && decide (0 < ni (List.length l41))) (am l41 0 fun x42 =>
 asI .i64 x42 fun n43 => grd (decide (0 ≤ 1) && decide (1 < ni (List.length l41))) (am l41 1 fun x44 =>
 asI .i64 x44 fun n45 => grd (decide (0 ≤ 2) && decide (2 < ni (List.length l41))) (am l41 2 fun x46 =>
 asI .i64 x46 fun n47 => grd (decide (0 ≤ 3) && decide (3 < ni (List.length l41))) (am l41 3 fun x48 =>
 asI .i64 x48 fun n49 => some ((.agg [.os (5,0) l38,.int .i64 a0_1,.int .i64 n43,.int .i64 n45,.int .i64 n47,.int .i64 a0_5,.int .i64 a0_6,.int .i64 n49]),[]))))))))))))
 (br (a0_5 == 2)
 (grd (decide (ni 4 ≤ LIM)) (ac V 65 [.agg [.rs (5,0) a0_0],.rs (1,0) [.int .i64 a0_2,.int .i64 a0_3,.int .i64 a0_4,.int .i64 a0_7]] fun x50 l51 =>
 asB x50 fun b52 => unn l51 (br (!b52)
 (ac V 63 [.agg [.rs (5,0) a0_0,.int .i64 a0_1,.int .i64 a0_2,.int .i64 a0_3,.int .i64 a0_4,.int .i64 a0_5,.int .i64 a0_6,.int .i64 a0_7]] fun x53 l54 =>
 tk3 x53 fun l58 n61 n64 n67 n70 n73 n76 n79 => (unn l54 (some ((.agg [.os (5,0) l58,.int .i64 n61,.int .i64 n64,.int .i64 n67,.int .i64 n70,.int .i64 n73,.int .i64 n76,.int .i64 n79]),[]))))
 (ac V 66 [.agg [.rs (5,0) a0_0],.rs (1,0) [.int .i64 a0_2,.int .i64 a0_3,.int .i64 a0_4,.int .i64 a0_7]] fun x80 l81 =>
 b6 x80 fun l82 => unc l82 fun x83 l84 => asAgg x83 fun l85 => unc l85 fun x86 l87 => aM (5,0) x86 fun l88 => unn l87 (unc l84 fun x89 l90 => aM (1,0) x89 fun l91 => unn l90 (unn l81 (grd (decide (0 ≤ 0) && decide (0 < ni (List.length l91))) (am l91 0 fun x92 =>
 asI .i64 x92 fun n93 => grd (decide (0 ≤ 1) && decide (1 < ni (List.length l91))) (am l91 1 fun x94 =>
 asI .i64 x94 fun n95 => grd (decide (0 ≤ 2) && decide (2 < ni (List.length l91))) (am l91 2 fun x96 =>
 asI .i64 x96 fun n97 => br (a0_5 == 2)
 (grd (decide (0 ≤ 3) && decide (3 < ni (List.length l91))) (am l91 3 fun x98 =>
 asI .i64 x98 fun n99 => some ((.agg [.os (5,0) l88,.int .i64 a0_1,.int .i64 n93,.int .i64 n95,.int .i64 n97,.int .i64 a0_5,.int .i64 a0_6,.int .i64 n99]),[])))
 (some ((.agg [.os (5,0) l88,.int .i64 a0_1,.int .i64 n93,.int .i64 n95,.int .i64 n97,.int .i64 a0_5,.int .i64 a0_6,.int .i64 a0_7]),[]))))))))))))
 (ac V 65 [.agg [.rs (5,0) a0_0],.rs (1,0) [.int .i64 a0_2,.int .i64 a0_3,.int .i64 a0_4]] fun x100 l101 =>
 asB x100 fun b102 => unn l101 (br (!b102)
 (ac V 63 [.agg [.rs (5,0) a0_0,.int .i64 a0_1,.int .i64 a0_2,.int .i64 a0_3,.int .i64 a0_4,.int .i64 a0_5,.int .i64 a0_6,.int .i64 a0_7]] fun x103 l104 =>
 tk3 x103 fun l108 n111 n114 n117 n120 n123 n126 n129 => (unn l104 (some ((.agg [.os (5,0) l108,.int .i64 n111,.int .i64 n114,.int .i64 n117,.int .i64 n120,.int .i64 n123,.int .i64 n126,.int .i64 n129]),[]))))
 (ac V 66 [.agg [.rs (5,0) a0_0],.rs (1,0) [.int .i64 a0_2,.int .i64 a0_3,.int .i64 a0_4]] fun x130 l131 =>
 b6 x130 fun l132 => unc l132 fun x133 l134 => asAgg x133 fun l135 => unc l135 fun x136 l137 => aM (5,0) x136 fun l138 => unn l137 (unc l134 fun x139 l140 => aM (1,0) x139 fun l141 => unn l140 (unn l131 (grd (decide (0 ≤ 0) && decide (0 < ni (List.length l141))) (am l141 0 fun x142 =>
 asI .i64 x142 fun n143 => grd (decide (0 ≤ 1) && decide (1 < ni (List.length l141))) (am l141 1 fun x144 =>
 asI .i64 x144 fun n145 => grd (decide (0 ≤ 2) && decide (2 < ni (List.length l141))) (am l141 2 fun x146 =>
 asI .i64 x146 fun n147 => br (a0_5 == 2)
 (grd (decide (0 ≤ 3) && decide (3 < ni (List.length l141))) (am l141 3 fun x148 =>
 asI .i64 x148 fun n149 => some ((.agg [.os (5,0) l138,.int .i64 a0_1,.int .i64 n143,.int .i64 n145,.int .i64 n147,.int .i64 a0_5,.int .i64 a0_6,.int .i64 n149]),[])))
 (some ((.agg [.os (5,0) l138,.int .i64 a0_1,.int .i64 n143,.int .i64 n145,.int .i64 n147,.int .i64 a0_5,.int .i64 a0_6,.int .i64 a0_7]),[])))))))))))) := by
  exact (ay Tryz.func18 rfl _).trans (by kernel_rfl)
theorem wL (a0_0 : List D) (a1_ : Int) (a2_ : List D) : V 235 [.agg [.rs (5,0) a0_0],.int .i64 a1_,.rs (1,0) a2_] =
 grd (decide (0 ≤ 0) && decide (0 < ni (List.length a2_))) (am a2_ 0 fun x0 =>
 asI .i64 x0 fun n1 => grd (decide (0 ≤ n1) && decide (n1 < ni (List.length a0_0))) (am a0_0 (Int.toNat n1) fun x2 =>
 tk1 x2 fun n6 n9 _ _ _ => (br (a1_ == 6)
 (grd (decide (0 ≤ 0) && decide (0 < ni (List.length a2_))) (am a2_ 0 fun x19 =>
 asI .i64 x19 fun n20 => grd (decide (0 ≤ 1) && decide (1 < ni (List.length a2_))) (am a2_ 1 fun x21 =>
 asI .i64 x21 fun n22 => some ((.agg [.int .i64 (5),.int .i64 (0),.str ({ data := #[] }),.int .i64 n20,.int .i64 n22]),[]))))
 (br (a1_ == 9)
 (ac V 241 [.bool (n6 == 1)] fun x23 l24 =>
 tk1 x23 fun n28 n31 s34 n37 n40 => (unn l24 (some ((.agg [.int .i64 n28,.int .i64 n31,.str s34,.int .i64 n37,.int .i64 n40]),[]))))
 (br (a1_ == 10)
 (ac V 241 [.bool (n6 == 5)] fun x41 l42 =>
 tk1 x41 fun n46 n49 s52 n55 n58 => (unn l42 (some ((.agg [.int .i64 n46,.int .i64 n49,.str s52,.int .i64 n55,.int .i64 n58]),[]))))
 (br (a1_ == 11)
 (grd (decide (0 ≤ 0) && decide (0 < ni (List.length a2_))) (am a2_ 0 fun x59 =>
 asI .i64 x59 fun n60 => grd (decide (0 ≤ 1) && decide (1 < ni (List.length a2_))) (am a2_ 1 fun x61 =>
 asI .i64 x61 fun n62 => ac V 242 [.agg [.rs (5,0) a0_0],.int .i64 n60,.int .i64 n62] fun x63 l64 =>
 asB x63 fun b65 => unn l64 (ac V 241 [.bool b65] fun x66 l67 =>
 tk1 x66 fun n71 n74 s77 n80 n83 => (unn l67 (some ((.agg [.int .i64 n71,.int .i64 n74,.str s77,.int .i64 n80,.int .i64 n83]),[])))))))
 (br (a1_ == 12)
 (br (n6 == 2)
 (ac V 241 [.bool (n9 == 0)] fun x84 l85 =>
 tk1 x84 fun n89 n92 s95 n98 n101 => (unn l85 (some ((.agg [.int .i64 n89,.int .i64 n92,.str s95,.int .i64 n98,.int .i64 n101]),[]))))
 (ac V 241 [.bool false] fun x102 l103 =>
 tk1 x102 fun n107 n110 s113 n116 n119 => (unn l103 (some ((.agg [.int .i64 n107,.int .i64 n110,.str s113,.int .i64 n116,.int .i64 n119]),[])))))
 (grd (decide (0 ≤ 1) && decide (1 < ni (List.length a2_))) (am a2_ 1 fun x120 =>
 asI .i64 x120 fun n121 => grd (decide (0 ≤ n121) && decide (n121 < ni (List.length a0_0))) (am a0_0 (Int.toNat n121) fun x122 =>
 asAgg x122 fun l123 => am l123 1 fun x124 =>
 asI .i64 x124 fun n125 => ac V 243 [.int .i64 a1_,.int .i64 n9,.int .i64 n125] fun x126 l127 =>
 tk1 x126 fun n131 n134 s137 n140 n143 => (unn l127 (some ((.agg [.int .i64 n131,.int .i64 n134,.str s137,.int .i64 n140,.int .i64 n143]),[]))))))))))))) := by
  exact (ay Tryz.func235 rfl _).trans (by kernel_rfl)
theorem jR (p0 : Int) (p1 p2 : List D) (p3 p4 : Int) (p5 : List D) : bE p0 p1 p2 p3 p4 p5 =
 br (decide (p4 < p3))
 (grd (decide (0 ≤ p4) && decide (p4 < ni (List.length p2))) (am p2 (Int.toNat p4) fun x0 =>
 asI .i64 x0 fun n1 => br (decide (p0 ≤ 5))
 (grd (decide (0 ≤ n1) && decide (n1 < ni (List.length p5))) (am p5 (Int.toNat n1) fun x2 =>
 asAgg x2 fun l3 => am l3 0 fun x4 =>
 asI .i64 x4 fun n5 => br (n5 != 3)
 (some ((.tup [.int .i64 (-1),.int .i64 (3)]),[.op [.os (5,0) p5]]))
 (br (p0 == 7)
 (grd (decide (0 ≤ n1) && decide (n1 < ni (List.length p5))) (am p5 (Int.toNat n1) fun x6 =>
 asAgg x6 fun l7 => am l7 0 fun x8 =>
 asI .i64 x8 fun n9 => br (n9 != 5)
 (some ((.tup [.int .i64 (-1),.int .i64 (3)]),[.op [.os (5,0) p5]]))
 (bE p0 p1 p2 p3 (IntKind.wrap IntKind.i64 (p4 + 1)) p5)))
 (br (p0 == 8)
 (grd (decide (0 ≤ n1) && decide (n1 < ni (List.length p5))) (am p5 (Int.toNat n1) fun x10 =>
 asAgg x10 fun l11 => am l11 0 fun x12 =>
 asI .i64 x12 fun n13 => br (n13 != 5)
 (some ((.tup [.int .i64 (-1),.int .i64 (3)]),[.op [.os (5,0) p5]]))
 (bE p0 p1 p2 p3 (IntKind.wrap IntKind.i64 (p4 + 1)) p5)))
 (bE p0 p1 p2 p3 (IntKind.wrap IntKind.i64 (p4 + 1)) p5)))))
 (br (p0 == 7)
 (grd (decide (0 ≤ n1) && decide (n1 < ni (List.length p5))) (am p5 (Int.toNat n1) fun x14 =>
 asAgg x14 fun l15 => am l15 0 fun x16 =>
 asI .i64 x16 fun n17 => br (n17 != 5)
 (some ((.tup [.int .i64 (-1),.int .i64 (3)]),[.op [.os (5,0) p5]]))
 (bE p0 p1 p2 p3 (IntKind.wrap IntKind.i64 (p4 + 1)) p5)))
 (br (p0 == 8)
 (grd (decide (0 ≤ n1) && decide (n1 < ni (List.length p5))) (am p5 (Int.toNat n1) fun x18 =>
 asAgg x18 fun l19 => am l19 0 fun x20 =>
 asI .i64 x20 fun n21 => br (n21 != 5)
 (some ((.tup [.int .i64 (-1),.int .i64 (3)]),[.op [.os (5,0) p5]]))
 (bE p0 p1 p2 p3 (IntKind.wrap IntKind.i64 (p4 + 1)) p5)))
 (bE p0 p1 p2 p3 (IntKind.wrap IntKind.i64 (p4 + 1)) p5)))))
 (br (p0 == 7)
 (grd (decide (0 ≤ 0) && decide (0 < ni (List.length p1))) (am p1 0 fun x22 =>
 asI .i64 x22 fun n23 => grd (decide (0 ≤ n23) && decide (n23 < ni (List.length p5))) (am p5 (Int.toNat n23) fun x24 =>
 asAgg x24 fun l25 => am l25 3 fun x26 =>
 asI .i64 x26 fun n27 => some ((.tup [.int .i64 n27,.int .i64 (0)]),[.op [.os (5,0) p5]]))))
 (br (p0 == 8)
 (grd (decide (0 ≤ 0) && decide (0 < ni (List.length p1))) (am p1 0 fun x28 =>
 asI .i64 x28 fun n29 => grd (decide (0 ≤ n29) && decide (n29 < ni (List.length p5))) (am p5 (Int.toNat n29) fun x30 =>
 asAgg x30 fun l31 => am l31 4 fun x32 =>
 asI .i64 x32 fun n33 => some ((.tup [.int .i64 n33,.int .i64 (0)]),[.op [.os (5,0) p5]]))))
 (ac V 235 [.agg [.rs (5,0) p5],.int .i64 p0,.rs (1,0) p1] fun x34 l35 =>
 tk1 x34 fun n39 n42 s45 n48 n51 => (unn l35 (ac V 58 [.int .i64 n42,.int .i64 (-1000000000),.int .i64 (1000000000)] fun x52 l53 =>
 asB x52 fun b54 => unn l53 (br (!b54)
 (some ((.tup [.int .i64 (-1),.int .i64 (4)]),[.op [.os (5,0) p5]]))
 (ac V 157 [.op [.os (5,0) p5],.agg [.int .i64 n39,.int .i64 n42,.str s45,.int .i64 n48,.int .i64 n51]] fun x55 l56 =>
 asI .i64 x55 fun n57 => unc l56 fun x58 l59 => bz x58 fun l60 => unc l60 fun x61 l62 => aM (5,0) x61 fun l63 => unn l62 (unn l59 (some ((.tup [.int .i64 n57,.int .i64 (0)]),[.op [.os (5,0) l63]])))))))))) := by
  exact (bQ _ _ _).trans (by kernel_rfl)
theorem CT (a0_0 a0_1 a0_2 a1_0 : List D) (a1_1 a1_2 a1_3 a1_4 a1_5 a1_6 a1_7 a2_ : Int) : V 35 [.agg [.rs (5,0) a0_0,.rs (4,0) a0_1,.rs (3,0) a0_2],.agg [.rs (5,0) a1_0,.int .i64 a1_1,.int .i64 a1_2,.int .i64 a1_3,.int .i64 a1_4,.int .i64 a1_5,.int .i64 a1_6,.int .i64 a1_7],.int .i64 a2_] =
 ac V 15 [.agg [.rs (5,0) a0_0,.rs (4,0) a0_1,.rs (3,0) a0_2],(.agg [.rs (5,0) a1_0,.int .i64 a1_1,.int .i64 a1_2,.int .i64 a1_3,.int .i64 a1_4,.int .i64 a1_5,.int .i64 a1_6,.int .i64 a1_7])] fun x0 l1 =>
 asB x0 fun b2 => unn l1 (br (!b2)
 (ac V 89 [.agg [.rs (5,0) a0_0,.rs (4,0) a0_1,.rs (3,0) a0_2],(.agg [.rs (5,0) a1_0,.int .i64 a1_1,.int .i64 a1_2,.int .i64 a1_3,.int .i64 a1_4,.int .i64 a1_5,.int .i64 a1_6,.int .i64 a1_7])] fun x3 l4 =>
 tk3 x3 fun l8 n11 n14 n17 n20 n23 n26 n29 => (unn l4 (some ((.tup [.agg [.os (5,0) l8,.int .i64 n11,.int .i64 n14,.int .i64 n17,.int .i64 n20,.int .i64 n23,.int .i64 n26,.int .i64 n29],.int .i64 (0)]),[]))))
 (ac V 85 [.agg [.rs (5,0) a1_0,.int .i64 a1_1,.int .i64 a1_2,.int .i64 a1_3,.int .i64 a1_4,.int .i64 a1_5,.int .i64 a1_6,.int .i64 a1_7]] fun x30 l31 =>
 tk3 x30 fun l35 n38 n41 n44 n47 n50 n53 n56 => (unn l31 (ac V 101 [.agg [.rs (5,0) a0_0,.rs (4,0) a0_1,.rs (3,0) a0_2],(.agg [.os (5,0) l35,.int .i64 n38,.int .i64 n41,.int .i64 n44,.int .i64 n47,.int .i64 n50,.int .i64 n53,.int .i64 n56]),.int .i64 a2_] fun x57 l58 =>
 b6 x57 fun l59 => unc l59 fun x60 l61 => tk3 x60 fun l65 n68 n71 n74 n77 n80 n83 n86 => (unc l61 fun x87 l88 => asI .i64 x87 fun n89 => unn l88 (unn l58 (some ((.tup [.agg [.os (5,0) l65,.int .i64 n68,.int .i64 n71,.int .i64 n74,.int .i64 n77,.int .i64 n80,.int .i64 n83,.int .i64 n86],.int .i64 n89]),[])))))))) := by
  exact (ay Tryz.func35 rfl _).trans (by kernel_rfl)
theorem gw (p0 p1 p2 p3 p4 p5 p6 p7 p8 : Int) (p9 p10 p11 p12 : List D) : dQ p0 p1 p2 p3 p4 p5 p6 p7 p8 p9 p10 p11 p12 =
 br (decide (p1 > 0))
 (grd (decide (0 ≤ p0) && decide (p0 < ni (List.length p12))) (am p12 (Int.toNat p0) fun x0 =>
 asAgg x0 fun l1 => am l1 0 fun x2 =>
 asI .i64 x2 fun n3 => br (n3 != 5)
 (some ((.tup [.int .i64 (0),.bool false]),[.op [.os (5,0) p12,.int .i64 p2,.int .i64 p3,.int .i64 p4,.int .i64 p5,.int .i64 p6,.int .i64 p7,.int .i64 p8,.rs (5,0) p9,.rs (4,0) p10,.rs (3,0) p11]]))
 (grd (decide (0 ≤ p0) && decide (p0 < ni (List.length p12))) (am p12 (Int.toNat p0) fun x4 =>
 asAgg x4 fun l5 => am l5 4 fun x6 =>
 asI .i64 x6 fun n7 => dQ n7 (IntKind.wrap IntKind.i64 (p1 - 1)) p2 p3 p4 p5 p6 p7 p8 p9 p10 p11 p12))))
 (grd (decide (0 ≤ p0) && decide (p0 < ni (List.length p12))) (am p12 (Int.toNat p0) fun x8 =>
 asAgg x8 fun l9 => am l9 0 fun x10 =>
 asI .i64 x10 fun n11 => br (n11 != 5)
 (some ((.tup [.int .i64 (0),.bool false]),[.op [.os (5,0) p12,.int .i64 p2,.int .i64 p3,.int .i64 p4,.int .i64 p5,.int .i64 p6,.int .i64 p7,.int .i64 p8,.rs (5,0) p9,.rs (4,0) p10,.rs (3,0) p11]]))
 (grd (decide (0 ≤ p0) && decide (p0 < ni (List.length p12))) (am p12 (Int.toNat p0) fun x12 =>
 asAgg x12 fun l13 => am l13 3 fun x14 =>
 asI .i64 x14 fun n15 => some ((.tup [.int .i64 n15,.bool true]),[.op [.os (5,0) p12,.int .i64 p2,.int .i64 p3,.int .i64 p4,.int .i64 p5,.int .i64 p6,.int .i64 p7,.int .i64 p8,.rs (5,0) p9,.rs (4,0) p10,.rs (3,0) p11]]))))) := by
  exact (bQ _ _ _).trans (by kernel_rfl)
theorem zD (a0_0 : List D) (a1_ a2_ : Int) : V 234 [.agg [.rs (5,0) a0_0],.int .i64 a1_,.int .i64 a2_] =
 ac V 228 [.agg [.rs (5,0) a0_0],.int .i64 a1_] fun x0 l1 =>
 tk2 x0 fun l5 b8 => (unn l1 (br (!b8)
 (some ((.tup [.int .i64 (0),.os (1,0) [],.bool false]),[]))
 (br (ni (List.length l5) != a2_)
 (some ((.tup [.int .i64 (0),.os (1,0) [],.bool false]),[]))
 (grd (decide (0 ≤ 0) && decide (0 < ni (List.length l5))) (am l5 0 fun x9 =>
 asI .i64 x9 fun n10 => grd (decide (0 ≤ n10) && decide (n10 < ni (List.length a0_0))) (am a0_0 (Int.toNat n10) fun x11 =>
 asAgg x11 fun l12 => am l12 0 fun x13 =>
 asI .i64 x13 fun n14 => br (n14 != 3)
 (some ((.tup [.int .i64 (0),.os (1,0) [],.bool false]),[]))
 (grd (decide (0 ≤ 0) && decide (0 < ni (List.length l5))) (am l5 0 fun x15 =>
 asI .i64 x15 fun n16 => grd (decide (0 ≤ n16) && decide (n16 < ni (List.length a0_0))) (am a0_0 (Int.toNat n16) fun x17 =>
 asAgg x17 fun l18 => am l18 1 fun x19 =>
 asI .i64 x19 fun n20 => grd (fF (List.length l5) (some (1)) none) (some ((.tup [.int .i64 n20,(.os (1,0) (part l5 (some (Int.toNat (1),List.length l5 - Int.toNat (1))))),.bool true]),[]))))))))))) := by
  exact (ay Tryz.func234 rfl _).trans (by kernel_rfl)
theorem kV (p0 : List D) (p1 : Int) (p2 : List D) : gI p0 p1 p2 =
 br (decide (p1 < ni (List.length p0)))
 (grd (decide (0 ≤ p1) && decide (p1 < ni (List.length p0))) (am p0 (Int.toNat p1) fun x0 =>
 tk1 x0 fun n4 n7 s10 n13 n16 => (ac V 199 [.agg [.int .i64 n4,.int .i64 n7,.str s10,.int .i64 n13,.int .i64 n16]] fun x17 l18 =>
 tk1 x17 fun n22 n25 s28 n31 n34 => (unn l18 (grd (decide (0 ≤ p1) && decide (p1 < ni (List.length p2))) (am p2 (Int.toNat p1) fun _ =>
 nam (List.set p2 (Int.toNat p1) (D.agg [D.int IntKind.i64 n22,D.int IntKind.i64 n25,D.str s28,D.int IntKind.i64 n31,D.int IntKind.i64 n34])) fun l36 =>
 gI p0 (IntKind.wrap IntKind.i64 (p1 + 1)) l36))))))
 (some ((.os (5,0) p2),[])) := by
  exact (bQ _ _ _).trans (by kernel_rfl)
theorem BD (a0_0 : List D) (a0_1 a0_2 a0_3 a0_4 a0_5 a0_6 a0_7 a1_ : Int) : V 97 [.agg [.rs (5,0) a0_0,.int .i64 a0_1,.int .i64 a0_2,.int .i64 a0_3,.int .i64 a0_4,.int .i64 a0_5,.int .i64 a0_6,.int .i64 a0_7],.int .i64 a1_] =
 ac V 85 [.agg [.rs (5,0) a0_0,.int .i64 a0_1,.int .i64 a0_2,.int .i64 a0_3,.int .i64 a0_4,.int .i64 a0_5,.int .i64 a0_6,.int .i64 a0_7]] fun x0 l1 =>
 tk3 x0 fun l5 _ n11 n14 n17 _ _ _ => (unn l1 (some ((.agg [.os (5,0) l5,.int .i64 (0),.int .i64 n11,.int .i64 n14,.int .i64 n17,.int .i64 (3),.int .i64 a1_,.int .i64 (0)]),[]))) := by
  exact (ay Tryz.func97 rfl _).trans (by kernel_rfl)
theorem s5 (p : List D) (m1 m2 m3 m4 m5 m6 m7 : Int) (cp cl cd : List D) (v : Int) : V 185 [.op [.os (5,0) p,.int .i64 m1,.int .i64 m2,.int .i64 m3,.int .i64 m4,.int .i64 m5,.int .i64 m6,.int .i64 m7,.rs (5,0) cp,.rs (4,0) cl,.rs (3,0) cd],.int .i64 v] =
 ac V 94 [.op [.os (5,0) p],.int .i64 v,.int .i64 m2] fun x0 l1 =>
 asI .i64 x0 fun n2 => unc l1 fun x3 l4 => bz x3 fun l5 => unc l5 fun x6 l7 => aM (5,0) x6 fun l8 => unn l7 (unn l4 (some ((.tup []),[.op [.os (5,0) l8,.int .i64 m1,.int .i64 n2,.int .i64 m3,.int .i64 m4,.int .i64 m5,.int .i64 m6,.int .i64 m7,.rs (5,0) cp,.rs (4,0) cl,.rs (3,0) cd]]))) := by
  exact (ay Tryz.func185 rfl _).trans (by kernel_rfl)
theorem lQ (p0 : List D) (p1 : Int) (p2 p3 p4 : List D) : il p0 p1 p2 p3 p4 =
 br (decide (p1 < ni (List.length p0)))
 (grd (decide (0 ≤ p1) && decide (p1 < ni (List.length p0))) (am p0 (Int.toNat p1) fun x12 =>
 asI .i64 x12 fun n13 => grd (decide (0 ≤ n13) && decide (n13 < ni (List.length p2))) (am p2 (Int.toNat n13) fun x14 =>
 asI .i64 x14 fun n15 => grd (decide (ni (List.length (p3 ++ [D.int IntKind.i64 n15])) ≤ LIM)) (nam (p3 ++ [D.int IntKind.i64 n15]) fun l16 =>
 il p0 (IntKind.wrap IntKind.i64 (p1 + 1)) p2 l16 p4))))
 (some ((.tup [.agg [.os (5,0) p4],.os (1,0) p3]),[])) := by
  exact (bQ _ _ _).trans (by kernel_rfl)
theorem kD (p0 : List D) (p1 : Int) (p2 : List D) : ff p0 p1 p2 =
 br (decide (p1 < ni (List.length p0)))
 (grd (decide (0 ≤ p1) && decide (p1 < ni (List.length p0))) (am p0 (Int.toNat p1) fun x0 =>
 asI .i64 x0 fun n1 => ac V 61 [.agg [.rs (5,0) p2],.int .i64 n1] fun x2 l3 =>
 asB x2 fun b4 => unn l3 (br (!b4)
 (some ((.bool false),[]))
 (ff p0 (IntKind.wrap IntKind.i64 (p1 + 1)) p2))))
 (ac V 60 [.agg [.rs (5,0) p2]] fun x5 l6 =>
 asB x5 fun b7 => unn l6 (some ((.bool b7),[]))) := by
  exact (bQ _ _ _).trans (by kernel_rfl)
theorem zb (a0_0 a0_1 a0_2 : Int) (a0_3 : ByteArray) (a1_0 a1_1 a1_2 : Int) (a1_3 : ByteArray) : V 167 [.agg [.int .i64 a0_0,.int .i64 a0_1,.int .i64 a0_2,.str a0_3],.agg [.int .i64 a1_0,.int .i64 a1_1,.int .i64 a1_2,.str a1_3]] =
 br (a0_0 != a1_0)
 (some ((.bool false),[]))
 (br (a0_1 != a1_1)
 (some ((.bool false),[]))
 (br (a0_2 != a1_2)
 (some ((.bool false),[]))
 (br (!aQ a0_3 a1_3)
 (some ((.bool false),[]))
 (some ((.bool true),[]))))) := by
  exact (ay Tryz.func167 rfl _).trans (by kernel_rfl)
theorem zi (a0_0 a0_1 a0_2 : List D) (a1_ : Int) : V 57 [.agg [.rs (5,0) a0_0,.rs (4,0) a0_1,.rs (3,0) a0_2],.int .i64 a1_] =
 ac V 58 [.int .i64 a1_,.int .i64 (0),(.int .i64 (IntKind.wrap IntKind.i64 (ni (List.length a0_1) - 1)))] fun x0 l1 =>
 asB x0 fun b2 => unn l1 (some ((.bool b2),[])) := by
  exact (ay Tryz.func57 rfl _).trans (by kernel_rfl)
theorem zl (a0_0 a1_ : List D) : V 149 [.agg [.rs (5,0) a0_0],.rs (1,0) a1_] =
 grd (decide (0 ≤ ni (List.length a0_0)) && decide (ni (List.length a0_0) ≤ LIM)) (fh a1_ (0) a0_0 (List.replicate (Int.toNat (ni (List.length a0_0))) (D.bool false))) := by
  exact (ay Tryz.func149 rfl _).trans (by kernel_rfl)
theorem Eo (a0_0 : List D) (a1_ : Int) : V 61 [.agg [.rs (5,0) a0_0],.int .i64 a1_] =
 ac V 62 [.int .i64 a1_,.int .i64 (0),(.int .i64 (IntKind.wrap IntKind.i64 (ni (List.length a0_0) - 1)))] fun x0 l1 =>
 asB x0 fun b2 => unn l1 (some ((.bool b2),[])) := by
  exact (ay Tryz.func61 rfl _).trans (by kernel_rfl)
theorem yq (a0_ a1_ : List D) : V 106 [.rs (4,0) a0_,.rs (4,0) a1_] =
 br (ni (List.length a0_) != ni (List.length a1_))
 (some ((.bool false),[]))
 (gb a0_ a1_ (0)) := by
  exact (ay Tryz.func106 rfl _).trans (by kernel_rfl)
theorem xB (a0_0 : List D) (a1_ : Int) : V 228 [.agg [.rs (5,0) a0_0],.int .i64 a1_] =
 gg a1_ a0_0 [] := by
  exact (ay Tryz.func228 rfl _).trans (by kernel_rfl)
theorem Bw (a0_ : ByteArray) : V 128 [.str a0_] =
 fT a0_ (0) := by
  exact (ay Tryz.func128 rfl _).trans (by kernel_rfl)

end Go.Eng
/-! the functions as the interpreter has them -/
namespace Go.Eng
open Go.Proofs Go.Proofs.Tryz
set_option maxRecDepth 100000
theorem qY (p : List D) (m1 m2 m3 m4 m5 m6 m7 : Int) (cp cl cd : List D) (io im ii : Int) (is : ByteArray) : V 134 [.op [.os (5,0) p,.int .i64 m1,.int .i64 m2,.int .i64 m3,.int .i64 m4,.int .i64 m5,.int .i64 m6,.int .i64 m7,.rs (5,0) cp,.rs (4,0) cl,.rs (3,0) cd],.agg [.int .i64 io,.int .i64 im,.int .i64 ii,.str is]] =
 br (io == 1)
 (ac V 93 [.op [.os (5,0) p],(.agg [.rs (5,0) cp]),.int .i64 im] fun x0 l1 =>
 asI .i64 x0 fun n2 => unc l1 fun x3 l4 => bz x3 fun l5 => unc l5 fun x6 l7 => aM (5,0) x6 fun l8 => unn l7 (unn l4 (ac V 185 [.op [.os (5,0) l8,.int .i64 m1,.int .i64 m2,.int .i64 m3,.int .i64 m4,.int .i64 m5,.int .i64 m6,.int .i64 m7,.rs (5,0) cp,.rs (4,0) cl,.rs (3,0) cd],.int .i64 n2] fun x9 l10 =>
 b6 x9 fun l11 => unn l11 (unc l10 fun x12 l13 => tk6 x12 fun l17 n20 n23 n26 n29 n32 n35 n38 l41 l44 l47 => (unn l13 (ac V 57 [.agg [.rs (5,0) l41,.rs (4,0) l44,.rs (3,0) l47],(.int .i64 (IntKind.wrap IntKind.i64 (m1 + 1)))] fun x48 l49 =>
 asB x48 fun b50 => unn l49 (br (!b50)
 (some ((.int .i64 (7)),[.op [.os (5,0) l17,.int .i64 n20,.int .i64 n23,.int .i64 n26,.int .i64 n29,.int .i64 n32,.int .i64 n35,.int .i64 n38,.rs (5,0) l41,.rs (4,0) l44,.rs (3,0) l47]]))
 (some ((.int .i64 (0)),[(.op [.os (5,0) l17,(.int .i64 (IntKind.wrap IntKind.i64 (m1 + 1))),.int .i64 n23,.int .i64 n26,.int .i64 n29,.int .i64 n32,.int .i64 n35,.int .i64 n38,.rs (5,0) l41,.rs (4,0) l44,.rs (3,0) l47])])))))))))
 (br (io == 2)
 (ac V 186 [.op [.os (5,0) p,.int .i64 m1,.int .i64 m2,.int .i64 m3,.int .i64 m4,.int .i64 m5,.int .i64 m6,.int .i64 m7,.rs (5,0) cp,.rs (4,0) cl,.rs (3,0) cd],.int .i64 im,.int .i64 ii] fun x51 l52 =>
 asI .i64 x51 fun n53 => unc l52 fun x54 l55 => tk6 x54 fun l59 n62 n65 n68 n71 n74 n77 n80 l83 l86 l89 => (unn l55 (br (n53 == 0)
 (ac V 57 [.agg [.rs (5,0) l83,.rs (4,0) l86,.rs (3,0) l89],(.int .i64 (IntKind.wrap IntKind.i64 (m1 + 1)))] fun x90 l91 =>
 asB x90 fun b92 => unn l91 (br (!b92)
 (some ((.int .i64 (7)),[.op [.os (5,0) l59,.int .i64 n62,.int .i64 n65,.int .i64 n68,.int .i64 n71,.int .i64 n74,.int .i64 n77,.int .i64 n80,.rs (5,0) l83,.rs (4,0) l86,.rs (3,0) l89]]))
 (some ((.int .i64 n53),[(.op [.os (5,0) l59,(.int .i64 (IntKind.wrap IntKind.i64 (m1 + 1))),.int .i64 n65,.int .i64 n68,.int .i64 n71,.int .i64 n74,.int .i64 n77,.int .i64 n80,.rs (5,0) l83,.rs (4,0) l86,.rs (3,0) l89])]))))
 (some ((.int .i64 n53),[(.op [.os (5,0) l59,(.int .i64 (IntKind.wrap IntKind.i64 (m1 + 1))),.int .i64 n65,.int .i64 n68,.int .i64 n71,.int .i64 n74,.int .i64 n77,.int .i64 n80,.rs (5,0) l83,.rs (4,0) l86,.rs (3,0) l89])])))))
 (br (io == 3)
 (ac V 187 [.op [.os (5,0) p,.int .i64 m1,.int .i64 m2,.int .i64 m3,.int .i64 m4,.int .i64 m5,.int .i64 m6,.int .i64 m7,.rs (5,0) cp,.rs (4,0) cl,.rs (3,0) cd],.str is] fun x93 l94 =>
 asI .i64 x93 fun n95 => unc l94 fun x96 l97 => tk6 x96 fun l101 n104 n107 n110 n113 n116 n119 n122 l125 l128 l131 => (unn l97 (br (n95 == 0)
 (ac V 57 [.agg [.rs (5,0) l125,.rs (4,0) l128,.rs (3,0) l131],(.int .i64 (IntKind.wrap IntKind.i64 (m1 + 1)))] fun x132 l133 =>
 asB x132 fun b134 => unn l133 (br (!b134)
 (some ((.int .i64 (7)),[.op [.os (5,0) l101,.int .i64 n104,.int .i64 n107,.int .i64 n110,.int .i64 n113,.int .i64 n116,.int .i64 n119,.int .i64 n122,.rs (5,0) l125,.rs (4,0) l128,.rs (3,0) l131]]))
 (some ((.int .i64 n95),[(.op [.os (5,0) l101,(.int .i64 (IntKind.wrap IntKind.i64 (m1 + 1))),.int .i64 n107,.int .i64 n110,.int .i64 n113,.int .i64 n116,.int .i64 n119,.int .i64 n122,.rs (5,0) l125,.rs (4,0) l128,.rs (3,0) l131])]))))
 (some ((.int .i64 n95),[(.op [.os (5,0) l101,(.int .i64 (IntKind.wrap IntKind.i64 (m1 + 1))),.int .i64 n107,.int .i64 n110,.int .i64 n113,.int .i64 n116,.int .i64 n119,.int .i64 n122,.rs (5,0) l125,.rs (4,0) l128,.rs (3,0) l131])])))))
 (br (io == 5)
 (ac V 57 [.agg [.rs (5,0) cp,.rs (4,0) cl,.rs (3,0) cd],.int .i64 im] fun x135 l136 =>
 asB x135 fun b137 => unn l136 (br (!b137)
 (some ((.int .i64 (7)),[.op [.os (5,0) p,.int .i64 m1,.int .i64 m2,.int .i64 m3,.int .i64 m4,.int .i64 m5,.int .i64 m6,.int .i64 m7,.rs (5,0) cp,.rs (4,0) cl,.rs (3,0) cd]]))
 (some ((.int .i64 (0)),[.op [.os (5,0) p,.int .i64 im,.int .i64 m2,.int .i64 m3,.int .i64 m4,.int .i64 m5,.int .i64 m6,.int .i64 m7,.rs (5,0) cp,.rs (4,0) cl,.rs (3,0) cd]]))))
 (br (io == 6)
 (ac V 157 [.op [.os (5,0) p],(.agg [.int .i64 (6),(.int .i64 (IntKind.wrap IntKind.i64 (IntKind.wrap IntKind.i64 (8 * im) + ii))),.str ({ data := #[] }),.int .i64 m3,.int .i64 (0)])] fun x138 l139 =>
 asI .i64 x138 fun n140 => unc l139 fun x141 l142 => bz x141 fun l143 => unc l143 fun x144 l145 => aM (5,0) x144 fun l146 => unn l145 (unn l142 (ac V 185 [.op [.os (5,0) l146,.int .i64 m1,.int .i64 m2,.int .i64 m3,.int .i64 m4,.int .i64 m5,.int .i64 m6,.int .i64 m7,.rs (5,0) cp,.rs (4,0) cl,.rs (3,0) cd],.int .i64 n140] fun x147 l148 =>
 b6 x147 fun l149 => unn l149 (unc l148 fun x150 l151 => tk6 x150 fun l155 n158 n161 n164 n167 n170 n173 n176 l179 l182 l185 => (unn l151 (ac V 57 [.agg [.rs (5,0) l179,.rs (4,0) l182,.rs (3,0) l185],(.int .i64 (IntKind.wrap IntKind.i64 (m1 + 1)))] fun x186 l187 =>
 asB x186 fun b188 => unn l187 (br (!b188)
 (some ((.int .i64 (7)),[.op [.os (5,0) l155,.int .i64 n158,.int .i64 n161,.int .i64 n164,.int .i64 n167,.int .i64 n170,.int .i64 n173,.int .i64 n176,.rs (5,0) l179,.rs (4,0) l182,.rs (3,0) l185]]))
 (some ((.int .i64 (0)),[(.op [.os (5,0) l155,(.int .i64 (IntKind.wrap IntKind.i64 (m1 + 1))),.int .i64 n161,.int .i64 n164,.int .i64 n167,.int .i64 n170,.int .i64 n173,.int .i64 n176,.rs (5,0) l179,.rs (4,0) l182,.rs (3,0) l185])])))))))))
 (ac V 182 [.op [.os (5,0) p,.int .i64 m1,.int .i64 m2,.int .i64 m3,.int .i64 m4,.int .i64 m5,.int .i64 m6,.int .i64 m7,.rs (5,0) cp,.rs (4,0) cl,.rs (3,0) cd]] fun x189 l190 =>
 tk4 x189 fun n194 b197 => (unc l190 fun x198 l199 => tk6 x198 fun l203 n206 n209 n212 n215 n218 n221 n224 l227 l230 l233 => (unn l199 (br (!b197)
 (some ((.int .i64 (7)),[.op [.os (5,0) l203,.int .i64 n206,.int .i64 n209,.int .i64 n212,.int .i64 n215,.int .i64 n218,.int .i64 n221,.int .i64 n224,.rs (5,0) l227,.rs (4,0) l230,.rs (3,0) l233]]))
 (grd (decide (0 ≤ n194) && decide (n194 < ni (List.length l203))) (am l203 (Int.toNat n194) fun x234 =>
 tk1 x234 fun n238 n241 _ _ _ => (br (io == 4)
 (br (n238 == 2)
 (br (n241 == 0)
 (ac V 57 [.agg [.rs (5,0) l227,.rs (4,0) l230,.rs (3,0) l233],.int .i64 im] fun x251 l252 =>
 asB x251 fun b253 => unn l252 (br (!b253)
 (some ((.int .i64 (7)),[.op [.os (5,0) l203,.int .i64 n206,.int .i64 n209,.int .i64 n212,.int .i64 n215,.int .i64 n218,.int .i64 n221,.int .i64 n224,.rs (5,0) l227,.rs (4,0) l230,.rs (3,0) l233]]))
 (some ((.int .i64 (0)),[.op [.os (5,0) l203,.int .i64 im,.int .i64 n209,.int .i64 n212,.int .i64 n215,.int .i64 n218,.int .i64 n221,.int .i64 n224,.rs (5,0) l227,.rs (4,0) l230,.rs (3,0) l233]]))))
 (ac V 57 [.agg [.rs (5,0) l227,.rs (4,0) l230,.rs (3,0) l233],(.int .i64 (IntKind.wrap IntKind.i64 (m1 + 1)))] fun x254 l255 =>
 asB x254 fun b256 => unn l255 (br (!b256)
 (some ((.int .i64 (7)),[.op [.os (5,0) l203,.int .i64 n206,.int .i64 n209,.int .i64 n212,.int .i64 n215,.int .i64 n218,.int .i64 n221,.int .i64 n224,.rs (5,0) l227,.rs (4,0) l230,.rs (3,0) l233]]))
 (some ((.int .i64 (0)),[(.op [.os (5,0) l203,(.int .i64 (IntKind.wrap IntKind.i64 (m1 + 1))),.int .i64 n209,.int .i64 n212,.int .i64 n215,.int .i64 n218,.int .i64 n221,.int .i64 n224,.rs (5,0) l227,.rs (4,0) l230,.rs (3,0) l233])])))))
 (ac V 57 [.agg [.rs (5,0) l227,.rs (4,0) l230,.rs (3,0) l233],(.int .i64 (IntKind.wrap IntKind.i64 (m1 + 1)))] fun x257 l258 =>
 asB x257 fun b259 => unn l258 (br (!b259)
 (some ((.int .i64 (7)),[.op [.os (5,0) l203,.int .i64 n206,.int .i64 n209,.int .i64 n212,.int .i64 n215,.int .i64 n218,.int .i64 n221,.int .i64 n224,.rs (5,0) l227,.rs (4,0) l230,.rs (3,0) l233]]))
 (some ((.int .i64 (0)),[(.op [.os (5,0) l203,(.int .i64 (IntKind.wrap IntKind.i64 (m1 + 1))),.int .i64 n209,.int .i64 n212,.int .i64 n215,.int .i64 n218,.int .i64 n221,.int .i64 n224,.rs (5,0) l227,.rs (4,0) l230,.rs (3,0) l233])])))))
 (ac V 57 [.agg [.rs (5,0) l227,.rs (4,0) l230,.rs (3,0) l233],(.int .i64 (IntKind.wrap IntKind.i64 (m1 + 1)))] fun x260 l261 =>
 asB x260 fun b262 => unn l261 (br (!b262)
 (some ((.int .i64 (7)),[.op [.os (5,0) l203,.int .i64 n206,.int .i64 n209,.int .i64 n212,.int .i64 n215,.int .i64 n218,.int .i64 n221,.int .i64 n224,.rs (5,0) l227,.rs (4,0) l230,.rs (3,0) l233]]))
 (some ((.int .i64 (0)),[(.op [.os (5,0) l203,(.int .i64 (IntKind.wrap IntKind.i64 (m1 + 1))),.int .i64 n209,.int .i64 n212,.int .i64 n215,.int .i64 n218,.int .i64 n221,.int .i64 n224,.rs (5,0) l227,.rs (4,0) l230,.rs (3,0) l233])]))))))))))))))) := by
  exact (ay Tryz.func134 rfl _).trans (by kernel_rfl)
theorem Cy (a0_0 a0_1 a0_2 a1_0 : List D) (a1_1 a1_2 a1_3 a1_4 a1_5 a1_6 a1_7 : Int) : V 153 [.agg [.rs (5,0) a0_0,.rs (4,0) a0_1,.rs (3,0) a0_2],.agg [.rs (5,0) a1_0,.int .i64 a1_1,.int .i64 a1_2,.int .i64 a1_3,.int .i64 a1_4,.int .i64 a1_5,.int .i64 a1_6,.int .i64 a1_7]] =
 ac V 85 [.agg [.rs (5,0) a1_0,.int .i64 a1_1,.int .i64 a1_2,.int .i64 a1_3,.int .i64 a1_4,.int .i64 a1_5,.int .i64 a1_6,.int .i64 a1_7]] fun x0 l1 =>
 tk3 x0 fun l5 n8 n11 n14 n17 n20 n23 n26 => (unn l1 (grd (decide (0 ≤ a1_1) && decide (a1_1 < ni (List.length a0_1))) (am a0_1 (Int.toNat a1_1) fun x27 =>
 wt x27 fun n31 n34 n37 s40 => (ac V 196 [.agg [.rs (5,0) a0_0,.rs (4,0) a0_1,.rs (3,0) a0_2],(.op [.os (5,0) l5,.int .i64 n8,.int .i64 n11,.int .i64 n14,.int .i64 n17,.int .i64 n20,.int .i64 n23,.int .i64 n26]),.agg [.int .i64 n31,.int .i64 n34,.int .i64 n37,.str s40]] fun x41 l42 =>
 asI .i64 x41 fun n43 => unc l42 fun x44 l45 => tk5 x44 fun l49 n52 n55 n58 n61 n64 n67 n70 => (unn l45 (br (n43 != 0)
 (ac V 97 [.agg [.rs (5,0) a1_0,.int .i64 a1_1,.int .i64 a1_2,.int .i64 a1_3,.int .i64 a1_4,.int .i64 a1_5,.int .i64 a1_6,.int .i64 a1_7],.int .i64 n43] fun x71 l72 =>
 tk3 x71 fun l76 n79 n82 n85 n88 n91 n94 n97 => (unn l72 (some ((.agg [.os (5,0) l76,.int .i64 n79,.int .i64 n82,.int .i64 n85,.int .i64 n88,.int .i64 n91,.int .i64 n94,.int .i64 n97]),[]))))
 (ac V 62 [.int .i64 n52,.int .i64 (0),(.int .i64 (IntKind.wrap IntKind.i64 (ni (List.length a0_1) - 1)))] fun x98 l99 =>
 asB x98 fun b100 => unn l99 (br (!b100)
 (ac V 97 [.agg [.rs (5,0) a1_0,.int .i64 a1_1,.int .i64 a1_2,.int .i64 a1_3,.int .i64 a1_4,.int .i64 a1_5,.int .i64 a1_6,.int .i64 a1_7],.int .i64 (7)] fun x101 l102 =>
 tk3 x101 fun l106 n109 n112 n115 n118 n121 n124 n127 => (unn l102 (some ((.agg [.os (5,0) l106,.int .i64 n109,.int .i64 n112,.int .i64 n115,.int .i64 n118,.int .i64 n121,.int .i64 n124,.int .i64 n127]),[]))))
 (br (decide (ni (List.length l49) > 3000))
 (ac V 97 [.agg [.rs (5,0) a1_0,.int .i64 a1_1,.int .i64 a1_2,.int .i64 a1_3,.int .i64 a1_4,.int .i64 a1_5,.int .i64 a1_6,.int .i64 a1_7],.int .i64 (6)] fun x128 l129 =>
 tk3 x128 fun l133 n136 n139 n142 n145 n148 n151 n154 => (unn l129 (some ((.agg [.os (5,0) l133,.int .i64 n136,.int .i64 n139,.int .i64 n142,.int .i64 n145,.int .i64 n148,.int .i64 n151,.int .i64 n154]),[]))))
 (some ((.agg [.os (5,0) l49,.int .i64 n52,.int .i64 n55,.int .i64 n58,.int .i64 n61,.int .i64 n64,.int .i64 n67,.int .i64 n70]),[]))))))))))) := by
  exact (ay Tryz.func153 rfl _).trans (by kernel_rfl)
theorem Je (a0_0 a0_1 a0_2 a1_0 : List D) (a1_1 a1_2 a1_3 a1_4 a1_5 a1_6 a1_7 : Int) : V 89 [.agg [.rs (5,0) a0_0,.rs (4,0) a0_1,.rs (3,0) a0_2],.agg [.rs (5,0) a1_0,.int .i64 a1_1,.int .i64 a1_2,.int .i64 a1_3,.int .i64 a1_4,.int .i64 a1_5,.int .i64 a1_6,.int .i64 a1_7]] =
 ac V 15 [.agg [.rs (5,0) a0_0,.rs (4,0) a0_1,.rs (3,0) a0_2],(.agg [.rs (5,0) a1_0,.int .i64 a1_1,.int .i64 a1_2,.int .i64 a1_3,.int .i64 a1_4,.int .i64 a1_5,.int .i64 a1_6,.int .i64 a1_7])] fun x0 l1 =>
 asB x0 fun b2 => unn l1 (br (!b2)
 (some ((.agg [.os (5,0) [],.int .i64 (0),.int .i64 (0),.int .i64 (0),.int .i64 (0),.int .i64 (3),.int .i64 (7),.int .i64 (0)]),[]))
 (br (a1_5 != 0)
 (ac V 85 [.agg [.rs (5,0) a1_0,.int .i64 a1_1,.int .i64 a1_2,.int .i64 a1_3,.int .i64 a1_4,.int .i64 a1_5,.int .i64 a1_6,.int .i64 a1_7]] fun x3 l4 =>
 tk3 x3 fun l8 n11 n14 n17 n20 n23 n26 n29 => (unn l4 (some ((.agg [.os (5,0) l8,.int .i64 n11,.int .i64 n14,.int .i64 n17,.int .i64 n20,.int .i64 n23,.int .i64 n26,.int .i64 n29]),[]))))
 (ac V 153 [.agg [.rs (5,0) a0_0,.rs (4,0) a0_1,.rs (3,0) a0_2],(.agg [.rs (5,0) a1_0,.int .i64 a1_1,.int .i64 a1_2,.int .i64 a1_3,.int .i64 a1_4,.int .i64 a1_5,.int .i64 a1_6,.int .i64 a1_7])] fun x30 l31 =>
 tk3 x30 fun l35 n38 n41 n44 n47 n50 n53 n56 => (unn l31 (some ((.agg [.os (5,0) l35,.int .i64 n38,.int .i64 n41,.int .i64 n44,.int .i64 n47,.int .i64 n50,.int .i64 n53,.int .i64 n56]),[])))))) := by
  exact (ay Tryz.func89 rfl _).trans (by kernel_rfl)
theorem nw (p0 p1 : Int) (p2 : List D) : jv p0 p1 p2 =
 br (decide (p1 > 0))
 (grd (decide (0 ≤ p0) && decide (p0 < ni (List.length p2))) (am p2 (Int.toNat p0) fun x0 =>
 asAgg x0 fun l1 => am l1 0 fun x2 =>
 asI .i64 x2 fun n3 => br (n3 == 5)
 (grd (decide (0 ≤ p0) && decide (p0 < ni (List.length p2))) (am p2 (Int.toNat p0) fun x4 =>
 asAgg x4 fun l5 => am l5 4 fun x6 =>
 asI .i64 x6 fun n7 => jv n7 (IntKind.wrap IntKind.i64 (p1 - 1)) p2))
 (grd (decide (0 ≤ p0) && decide (p0 < ni (List.length p2))) (am p2 (Int.toNat p0) fun x8 =>
 asAgg x8 fun l9 => am l9 0 fun x10 =>
 asI .i64 x10 fun n11 => br (n11 != 5)
 (some ((.tup [.int .i64 (0),.bool false]),[]))
 (grd (decide (0 ≤ p0) && decide (p0 < ni (List.length p2))) (am p2 (Int.toNat p0) fun x12 =>
 asAgg x12 fun l13 => am l13 3 fun x14 =>
 asI .i64 x14 fun n15 => some ((.tup [.int .i64 n15,.bool true]),[])))))))
 (grd (decide (0 ≤ p0) && decide (p0 < ni (List.length p2))) (am p2 (Int.toNat p0) fun x16 =>
 asAgg x16 fun l17 => am l17 0 fun x18 =>
 asI .i64 x18 fun n19 => br (n19 != 5)
 (some ((.tup [.int .i64 (0),.bool false]),[]))
 (grd (decide (0 ≤ p0) && decide (p0 < ni (List.length p2))) (am p2 (Int.toNat p0) fun x20 =>
 asAgg x20 fun l21 => am l21 3 fun x22 =>
 asI .i64 x22 fun n23 => some ((.tup [.int .i64 n23,.bool true]),[]))))) := by
  exact (bQ _ _ _).trans (by kernel_rfl)
theorem mh (p0 : Int) (p1 p2 p3 : List D) : iv p0 p1 p2 p3 =
 br (decide (p0 < ni (List.length p3)))
 (grd (decide (0 ≤ p0) && decide (p0 < ni (List.length p3))) (am p3 (Int.toNat p0) fun x6 =>
 wk x6 fun s10 n13 n16 => (ac V 128 [.str s10] fun x17 l18 =>
 asB x17 fun b19 => unn l18 (br (!b19)
 (some ((.bool false),[]))
 (ac V 129 [.agg [.rs (5,0) p1,.rs (4,0) p2,.rs (3,0) p3],.str s10] fun x20 l21 =>
 asI .i64 x20 fun n22 => unn l21 (br (n22 != p0)
 (some ((.bool false),[]))
 (ac V 62 [.int .i64 n13,.int .i64 (0),(.int .i64 (IntKind.wrap IntKind.i64 (ni (List.length p2) - 1)))] fun x23 l24 =>
 asB x23 fun b25 => unn l24 (br (!b25)
 (some ((.bool false),[]))
 (ac V 62 [.int .i64 n16,.int .i64 (0),.int .i64 (4)] fun x26 l27 =>
 asB x26 fun b28 => unn l27 (br (!b28)
 (some ((.bool false),[]))
 (iv (IntKind.wrap IntKind.i64 (p0 + 1)) p1 p2 p3)))))))))))
 (some ((.bool true),[])) := by
  exact (bQ _ _ _).trans (by kernel_rfl)
theorem Jj (a0_0 : List D) (a1_ a2_ : Int) : V 242 [.agg [.rs (5,0) a0_0],.int .i64 a1_,.int .i64 a2_] =
 ac V 55 [.agg [.rs (5,0) a0_0]] fun x0 l1 =>
 asB x0 fun b2 => unn l1 (br (!b2)
 (some ((.bool false),[]))
 (ac V 56 [.agg [.rs (5,0) a0_0],.int .i64 a1_] fun x3 l4 =>
 asB x3 fun b5 => unn l4 (br (!b5)
 (some ((.bool false),[]))
 (ac V 56 [.agg [.rs (5,0) a0_0],.int .i64 a2_] fun x6 l7 =>
 asB x6 fun b8 => unn l7 (br (!b8)
 (some ((.bool false),[]))
 (ac V 247 [.agg [.rs (5,0) a0_0]] fun x9 l10 =>
 aM (1,0) x9 fun l11 => unn l10 (grd (decide (0 ≤ a1_) && decide (a1_ < ni (List.length l11))) (am l11 (Int.toNat a1_) fun x12 =>
 asI .i64 x12 fun n13 => grd (decide (0 ≤ a2_) && decide (a2_ < ni (List.length l11))) (am l11 (Int.toNat a2_) fun x14 =>
 asI .i64 x14 fun n15 => some ((.bool (n13 == n15)),[])))))))))) := by
  exact (ay Tryz.func242 rfl _).trans (by kernel_rfl)
theorem lY (p0 : List D) (p1 p2 : Int) (p3 : List D) : iw p0 p1 p2 p3 =
 br (decide (p2 < p1))
 (grd (decide (0 ≤ p2) && decide (p2 < ni (List.length p0))) (am p0 (Int.toNat p2) fun x0 =>
 tk1 x0 fun n4 n7 s10 n13 n16 => (ac V 126 [.agg [.int .i64 n4,.int .i64 n7,.str s10,.int .i64 n13,.int .i64 n16],.int .i64 p2] fun x17 l18 =>
 asB x17 fun b19 => unn l18 (br (!b19)
 (some ((.bool false),[]))
 (iw p0 p1 (IntKind.wrap IntKind.i64 (p2 + 1)) p3)))))
 (some ((.bool (decide (ni (List.length p3) ≤ 3000))),[])) := by
  exact (bQ _ _ _).trans (by kernel_rfl)
theorem DE (a0_0 a0_1 a0_2 a1_0 a1_1 a1_2 : List D) : V 39 [.agg [.rs (5,0) a0_0,.rs (4,0) a0_1,.rs (3,0) a0_2],.agg [.rs (5,0) a1_0,.rs (4,0) a1_1,.rs (3,0) a1_2]] =
 ac V 105 [.agg [.rs (5,0) a0_0],(.agg [.rs (5,0) a1_0])] fun x0 l1 =>
 asB x0 fun b2 => unn l1 (br (!b2)
 (some ((.bool false),[]))
 (ac V 106 [.rs (4,0) a0_1,.rs (4,0) a1_1] fun x3 l4 =>
 asB x3 fun b5 => unn l4 (br (!b5)
 (some ((.bool false),[]))
 (ac V 107 [.rs (3,0) a0_2,.rs (3,0) a1_2] fun x6 l7 =>
 asB x6 fun b8 => unn l7 (br (!b8)
 (some ((.bool false),[]))
 (some ((.bool true),[]))))))) := by
  exact (ay Tryz.func39 rfl _).trans (by kernel_rfl)
theorem uL (a0_ : Int) : V 177 [.int .u8 a0_] =
 br (decide (a0_ ≥ 97))
 (br (decide (a0_ ≤ 122))
 (some ((.bool true),[]))
 (grd (decide (0 < 8)) (ac V 203 [.rs (1,0) [.int .u8 (43),.int .u8 (45),.int .u8 (42),.int .u8 (60),.int .u8 (61),.int .u8 (63),.int .u8 (33),.int .u8 (47)],.int .u8 a0_] fun x0 l1 =>
 asB x0 fun b2 => unn l1 (some ((.bool b2),[])))))
 (grd (decide (0 < 8)) (ac V 203 [.rs (1,0) [.int .u8 (43),.int .u8 (45),.int .u8 (42),.int .u8 (60),.int .u8 (61),.int .u8 (63),.int .u8 (33),.int .u8 (47)],.int .u8 a0_] fun x3 l4 =>
 asB x3 fun b5 => unn l4 (some ((.bool b5),[])))) := by
  exact (ay Tryz.func177 rfl _).trans (by kernel_rfl)
theorem ky (p0 : List D) (p1 : Int) (p2 p3 : List D) : fh p0 p1 p2 p3 =
 br (decide (p1 < ni (List.length p0)))
 (grd (decide (0 ≤ p1) && decide (p1 < ni (List.length p0))) (am p0 (Int.toNat p1) fun x0 =>
 asI .i64 x0 fun n1 => grd (decide (0 ≤ n1) && decide (n1 < ni (List.length p3))) (am p3 (Int.toNat n1) fun _ =>
 nam (List.set p3 (Int.toNat n1) (D.bool true)) fun l3 =>
 fh p0 (IntKind.wrap IntKind.i64 (p1 + 1)) p2 l3)))
 (cH (IntKind.wrap IntKind.i64 (ni (List.length p2) - 1)) p2 p3) := by
  exact (bQ _ _ _).trans (by kernel_rfl)
theorem ra (p q : List D) (v : Int) : V 93 [.op [.os (5,0) p],.agg [.rs (5,0) q],.int .i64 v] =
 ac V 137 [.op [.os (5,0) p],(.agg [.rs (5,0) q]),.rs (1,0) [.int .i64 v]] fun x0 l1 =>
 aM (1,0) x0 fun l2 => unc l1 fun x3 l4 => bz x3 fun l5 => unc l5 fun x6 l7 => aM (5,0) x6 fun l8 => unn l7 (unn l4 (grd (decide (0 ≤ v) && decide (v < ni (List.length l2))) (am l2 (Int.toNat v) fun x9 =>
 asI .i64 x9 fun n10 => some ((.int .i64 n10),[.op [.os (5,0) l8]])))) := by
  exact (ay Tryz.func93 rfl _).trans (by kernel_rfl)
theorem q6 (p : List D) (m1 m2 m3 m4 m5 m6 m7 : Int) (cp cl cd : List D) (v n : Int) : V 207 [.op [.os (5,0) p,.int .i64 m1,.int .i64 m2,.int .i64 m3,.int .i64 m4,.int .i64 m5,.int .i64 m6,.int .i64 m7,.rs (5,0) cp,.rs (4,0) cl,.rs (3,0) cd],.int .i64 v,.int .i64 n] =
 dQ v n m1 m2 m3 m4 m5 m6 m7 cp cl cd p := by
  exact (ay Tryz.func207 rfl _).trans (by kernel_rfl)
theorem w9 (a0_ : List D) : V 103 [.rs (4,0) a0_] =
 grd (decide (0 ≤ ni (List.length a0_)) && decide (ni (List.length a0_) ≤ LIM)) (gk a0_ (0) (List.replicate (Int.toNat (ni (List.length a0_))) (D.agg [D.int IntKind.i64 (0),D.int IntKind.i64 (0),D.int IntKind.i64 (0),D.str { data := #[] }]))) := by
  exact (ay Tryz.func103 rfl _).trans (by kernel_rfl)
theorem DT (a0_ : ByteArray) : V 124 [.str a0_] =
 ac V 58 [(.int .i64 (ni (ByteArray.size a0_))),.int .i64 (1),.int .i64 (12)] fun x0 l1 =>
 asB x0 fun b2 => unn l1 (br (!b2)
 (some ((.bool false),[]))
 (fA a0_ (ni (ByteArray.size a0_)) (0))) := by
  exact (ay Tryz.func124 rfl _).trans (by kernel_rfl)
theorem J6 (r : Int) (p : List D) : V 136 [.int .i64 r,.bp [.rs (5,0) p]] =
 ac V 56 [.agg [.rs (5,0) p],.int .i64 r] fun x0 l1 =>
 asB x0 fun b2 => unn l1 (some ((.bool (!b2)),[])) := by
  exact (ay Tryz.func136 rfl _).trans (by kernel_rfl)
theorem Cz (a0_0 : List D) : V 102 [.agg [.rs (5,0) a0_0]] =
 ac V 163 [.rs (5,0) a0_0] fun x0 l1 =>
 aM (5,0) x0 fun l2 => unn l1 (some ((.agg [.os (5,0) l2]),[])) := by
  exact (ay Tryz.func102 rfl _).trans (by kernel_rfl)
theorem zq (a0_0 a1_ : List D) : V 84 [.agg [.rs (5,0) a0_0],.rs (1,0) a1_] =
 ff a1_ (0) a0_0 := by
  exact (ay Tryz.func84 rfl _).trans (by kernel_rfl)
theorem wb (a0_0 : List D) : V 252 [.agg [.rs (5,0) a0_0]] =
 dn (0) a0_0 [] [] := by
  exact (ay Tryz.func252 rfl _).trans (by kernel_rfl)

end Go.Eng
/-! the functions as the interpreter has them -/
namespace Go.Eng
open Go.Proofs Go.Proofs.Tryz
set_option maxRecDepth 100000
theorem Jw (cp cl cd p : List D) (m1 m2 m3 m4 m5 m6 m7 io im ii : Int) (is : ByteArray) : V 196 [.agg [.rs (5,0) cp,.rs (4,0) cl,.rs (3,0) cd],.op [.os (5,0) p,.int .i64 m1,.int .i64 m2,.int .i64 m3,.int .i64 m4,.int .i64 m5,.int .i64 m6,.int .i64 m7],.agg [.int .i64 io,.int .i64 im,.int .i64 ii,.str is]] =
 br (io == 1)
 (ac V 96 [.op [.os (5,0) p],(.agg [.rs (5,0) cp]),.int .i64 im] fun x0 l1 =>
 asI .i64 x0 fun n2 => unc l1 fun x3 l4 => bz x3 fun l5 => unc l5 fun x6 l7 => aM (5,0) x6 fun l8 => unn l7 (unn l4 (ac V 95 [.op [.os (5,0) l8,.int .i64 m1,.int .i64 m2,.int .i64 m3,.int .i64 m4,.int .i64 m5,.int .i64 m6,.int .i64 m7],.int .i64 n2] fun x9 l10 =>
 b6 x9 fun l11 => unn l11 (unc l10 fun x12 l13 => tk5 x12 fun l17 _ n23 n26 n29 n32 n35 n38 => (unn l13 (some ((.int .i64 (0)),[(.op [.os (5,0) l17,(.int .i64 (IntKind.wrap IntKind.i64 (m1 + 1))),.int .i64 n23,.int .i64 n26,.int .i64 n29,.int .i64 n32,.int .i64 n35,.int .i64 n38])])))))))
 (br (io == 2)
 (ac V 216 [.agg [.rs (5,0) p],.int .i64 m3,.int .i64 im] fun x39 l40 =>
 tk4 x39 fun n44 b47 => (unn l40 (br (!b47)
 (some ((.int .i64 (7)),[.op [.os (5,0) p,.int .i64 m1,.int .i64 m2,.int .i64 m3,.int .i64 m4,.int .i64 m5,.int .i64 m6,.int .i64 m7]]))
 (ac V 216 [.agg [.rs (5,0) p],.int .i64 n44,.int .i64 ii] fun x48 l49 =>
 tk4 x48 fun n53 b56 => (unn l49 (br (!b56)
 (some ((.int .i64 (7)),[.op [.os (5,0) p,.int .i64 m1,.int .i64 m2,.int .i64 m3,.int .i64 m4,.int .i64 m5,.int .i64 m6,.int .i64 m7]]))
 (ac V 95 [.op [.os (5,0) p,.int .i64 m1,.int .i64 m2,.int .i64 m3,.int .i64 m4,.int .i64 m5,.int .i64 m6,.int .i64 m7],.int .i64 n53] fun x57 l58 =>
 b6 x57 fun l59 => unn l59 (unc l58 fun x60 l61 => tk5 x60 fun l65 _ n71 n74 n77 n80 n83 n86 => (unn l61 (some ((.int .i64 (0)),[(.op [.os (5,0) l65,(.int .i64 (IntKind.wrap IntKind.i64 (m1 + 1))),.int .i64 n71,.int .i64 n74,.int .i64 n77,.int .i64 n80,.int .i64 n83,.int .i64 n86])])))))))))))
 (br (io == 3)
 (ac V 217 [.agg [.rs (5,0) cp,.rs (4,0) cl,.rs (3,0) cd],(.op [.os (5,0) p,.int .i64 m1,.int .i64 m2,.int .i64 m3,.int .i64 m4,.int .i64 m5,.int .i64 m6,.int .i64 m7]),.str is] fun x87 l88 =>
 asI .i64 x87 fun n89 => unc l88 fun x90 l91 => tk5 x90 fun l95 n98 n101 n104 n107 n110 n113 n116 => (unn l91 (br (n89 != 0)
 (some ((.int .i64 n89),[.op [.os (5,0) l95,.int .i64 n98,.int .i64 n101,.int .i64 n104,.int .i64 n107,.int .i64 n110,.int .i64 n113,.int .i64 n116]]))
 (some ((.int .i64 (0)),[(.op [.os (5,0) l95,(.int .i64 (IntKind.wrap IntKind.i64 (m1 + 1))),.int .i64 n101,.int .i64 n104,.int .i64 n107,.int .i64 n110,.int .i64 n113,.int .i64 n116])])))))
 (br (io == 4)
 (ac V 218 [.op [.os (5,0) p,.int .i64 m1,.int .i64 m2,.int .i64 m3,.int .i64 m4,.int .i64 m5,.int .i64 m6,.int .i64 m7]] fun x117 l118 =>
 tk4 x117 fun n122 b125 => (unc l118 fun x126 l127 => tk5 x126 fun l131 n134 n137 n140 n143 n146 n149 n152 => (unn l127 (br (!b125)
 (some ((.int .i64 (7)),[.op [.os (5,0) l131,.int .i64 n134,.int .i64 n137,.int .i64 n140,.int .i64 n143,.int .i64 n146,.int .i64 n149,.int .i64 n152]]))
 (grd (decide (0 ≤ n122) && decide (n122 < ni (List.length l131))) (am l131 (Int.toNat n122) fun x153 =>
 tk1 x153 fun n157 n160 _ _ _ => (br (n157 == 2)
 (br (n160 == 0)
 (some ((.int .i64 (0)),[.op [.os (5,0) l131,.int .i64 im,.int .i64 n137,.int .i64 n140,.int .i64 n143,.int .i64 n146,.int .i64 n149,.int .i64 n152]]))
 (some ((.int .i64 (0)),[(.op [.os (5,0) l131,(.int .i64 (IntKind.wrap IntKind.i64 (m1 + 1))),.int .i64 n137,.int .i64 n140,.int .i64 n143,.int .i64 n146,.int .i64 n149,.int .i64 n152])])))
 (some ((.int .i64 (0)),[(.op [.os (5,0) l131,(.int .i64 (IntKind.wrap IntKind.i64 (m1 + 1))),.int .i64 n137,.int .i64 n140,.int .i64 n143,.int .i64 n146,.int .i64 n149,.int .i64 n152])])))))))))
 (br (io == 5)
 (some ((.int .i64 (0)),[.op [.os (5,0) p,.int .i64 im,.int .i64 m2,.int .i64 m3,.int .i64 m4,.int .i64 m5,.int .i64 m6,.int .i64 m7]]))
 (br (io == 6)
 (ac V 158 [.op [.os (5,0) p],(.agg [.int .i64 (6),(.int .i64 (IntKind.wrap IntKind.i64 (IntKind.wrap IntKind.i64 (8 * im) + ii))),.str ({ data := #[] }),.int .i64 m3,.int .i64 (0)])] fun x170 l171 =>
 asI .i64 x170 fun n172 => unc l171 fun x173 l174 => bz x173 fun l175 => unc l175 fun x176 l177 => aM (5,0) x176 fun l178 => unn l177 (unn l174 (ac V 95 [.op [.os (5,0) l178,.int .i64 m1,.int .i64 m2,.int .i64 m3,.int .i64 m4,.int .i64 m5,.int .i64 m6,.int .i64 m7],.int .i64 n172] fun x179 l180 =>
 b6 x179 fun l181 => unn l181 (unc l180 fun x182 l183 => tk5 x182 fun l187 _ n193 n196 n199 n202 n205 n208 => (unn l183 (some ((.int .i64 (0)),[(.op [.os (5,0) l187,(.int .i64 (IntKind.wrap IntKind.i64 (m1 + 1))),.int .i64 n193,.int .i64 n196,.int .i64 n199,.int .i64 n202,.int .i64 n205,.int .i64 n208])])))))))
 (br (io == 7)
 (ac V 219 [.agg [.rs (5,0) cp,.rs (4,0) cl,.rs (3,0) cd],(.op [.os (5,0) p,.int .i64 m1,.int .i64 m2,.int .i64 m3,.int .i64 m4,.int .i64 m5,.int .i64 m6,.int .i64 m7]),.int .i64 ii,(.int .i64 (IntKind.wrap IntKind.i64 (m1 + 1)))] fun x209 l210 =>
 asI .i64 x209 fun n211 => unc l210 fun x212 l213 => tk5 x212 fun l217 n220 n223 n226 n229 n232 n235 n238 => (unn l213 (some ((.int .i64 n211),[.op [.os (5,0) l217,.int .i64 n220,.int .i64 n223,.int .i64 n226,.int .i64 n229,.int .i64 n232,.int .i64 n235,.int .i64 n238]]))))
 (br (io == 8)
 (ac V 220 [.op [.os (5,0) p,.int .i64 m1,.int .i64 m2,.int .i64 m3,.int .i64 m4,.int .i64 m5,.int .i64 m6,.int .i64 m7]] fun x239 l240 =>
 asI .i64 x239 fun n241 => unc l240 fun x242 l243 => tk5 x242 fun l247 n250 n253 n256 n259 n262 n265 n268 => (unn l243 (some ((.int .i64 n241),[.op [.os (5,0) l247,.int .i64 n250,.int .i64 n253,.int .i64 n256,.int .i64 n259,.int .i64 n262,.int .i64 n265,.int .i64 n268]]))))
 (br (io == 9)
 (ac V 218 [.op [.os (5,0) p,.int .i64 m1,.int .i64 m2,.int .i64 m3,.int .i64 m4,.int .i64 m5,.int .i64 m6,.int .i64 m7]] fun x269 l270 =>
 tk4 x269 fun _ b277 => (unc l270 fun x278 l279 => tk5 x278 fun l283 n286 n289 n292 n295 n298 n301 n304 => (unn l279 (br (!b277)
 (some ((.int .i64 (7)),[.op [.os (5,0) l283,.int .i64 n286,.int .i64 n289,.int .i64 n292,.int .i64 n295,.int .i64 n298,.int .i64 n301,.int .i64 n304]]))
 (some ((.int .i64 (0)),[(.op [.os (5,0) l283,(.int .i64 (IntKind.wrap IntKind.i64 (m1 + 1))),.int .i64 n289,.int .i64 n292,.int .i64 n295,.int .i64 n298,.int .i64 n301,.int .i64 n304])]))))))
 (some ((.int .i64 (0)),[(.op [.os (5,0) p,(.int .i64 (IntKind.wrap IntKind.i64 (m1 + 1))),.int .i64 m2,.int .i64 m3,.int .i64 m4,.int .i64 m5,.int .i64 m6,.int .i64 m7])])))))))))) := by
  exact (ay Tryz.func196 rfl _).trans (by kernel_rfl)
theorem CY (cp cl cd p : List D) (m1 m2 m3 m4 m5 m6 m7 n : Int) (l : List D) (nx : Int) : V 240 [.agg [.rs (5,0) cp,.rs (4,0) cl,.rs (3,0) cd],.op [.os (5,0) p,.int .i64 m1,.int .i64 m2,.int .i64 m3,.int .i64 m4,.int .i64 m5,.int .i64 m6,.int .i64 m7],.int .i64 n,.rs (1,0) l,.int .i64 nx] =
 ac V 245 [.int .i64 n] fun x0 l1 =>
 asI .i64 x0 fun n2 => unn l1 (br (ni (List.length l) != n2)
 (some ((.int .i64 (2)),[.op [.os (5,0) p,.int .i64 m1,.int .i64 m2,.int .i64 m3,.int .i64 m4,.int .i64 m5,.int .i64 m6,.int .i64 m7]]))
 (br (n == 18)
 (ac V 158 [.op [.os (5,0) p],(.agg [.int .i64 (3),.int .i64 nx,.str ({ data := #[] }),.int .i64 (0),.int .i64 (0)])] fun x3 l4 =>
 asI .i64 x3 fun n5 => unc l4 fun x6 l7 => bz x6 fun l8 => unc l8 fun x9 l10 => aM (5,0) x9 fun l11 => unn l10 (unn l7 (ac V 210 [.op [.os (5,0) l11],.rs (1,0) [.int .i64 n5,.int .i64 m2,.int .i64 m3,.int .i64 m4]] fun x12 l13 =>
 asI .i64 x12 fun n14 => unc l13 fun x15 l16 => bz x15 fun l17 => unc l17 fun x18 l19 => aM (5,0) x18 fun l20 => unn l19 (unn l16 (ac V 158 [.op [.os (5,0) l20],(.agg [.int .i64 (7),.int .i64 (0),.str ({ data := #[] }),.int .i64 n14,.int .i64 (0)])] fun x21 l22 =>
 asI .i64 x21 fun n23 => unc l22 fun x24 l25 => bz x24 fun l26 => unc l26 fun x27 l28 => aM (5,0) x27 fun l29 => unn l28 (unn l25 (grd (decide (0 ≤ 0) && decide (0 < ni (List.length l))) (am l 0 fun x30 =>
 asI .i64 x30 fun n31 => ac V 233 [.agg [.rs (5,0) cp,.rs (4,0) cl,.rs (3,0) cd],(.op [.os (5,0) l29,.int .i64 m1,.int .i64 m2,.int .i64 m3,.int .i64 m4,.int .i64 m5,.int .i64 m6,.int .i64 m7]),.int .i64 n31,.rs (1,0) [.int .i64 n23],.int .i64 nx] fun x32 l33 =>
 asI .i64 x32 fun n34 => unc l33 fun x35 l36 => tk5 x35 fun l40 n43 n46 n49 n52 n55 n58 n61 => (unn l36 (some ((.int .i64 n34),[.op [.os (5,0) l40,.int .i64 n43,.int .i64 n46,.int .i64 n49,.int .i64 n52,.int .i64 n55,.int .i64 n58,.int .i64 n61]])))))))))))
 (br (decide (n > 12))
 (ac V 210 [.op [.os (5,0) p],.rs (1,0) l] fun x62 l63 =>
 asI .i64 x62 fun n64 => unc l63 fun x65 l66 => bz x65 fun l67 => unc l67 fun x68 l69 => aM (5,0) x68 fun l70 => unn l69 (unn l66 (some ((.int .i64 (0)),[.op [.os (5,0) l70,.int .i64 m1,.int .i64 m2,.int .i64 m3,.int .i64 m4,.int .i64 (1),.int .i64 n,.int .i64 n64]]))))
 (ac V 246 [.op [.os (5,0) p],.int .i64 n,.rs (1,0) l] fun x71 l72 =>
 tk9 x71 fun n76 n79 => (unc l72 fun x80 l81 => bz x80 fun l82 => unc l82 fun x83 l84 => aM (5,0) x83 fun l85 => unn l84 (unn l81 (br (n79 == 3)
 (some ((.int .i64 (4)),[.op [.os (5,0) l85,.int .i64 m1,.int .i64 m2,.int .i64 m3,.int .i64 m4,.int .i64 m5,.int .i64 m6,.int .i64 m7]]))
 (br (n79 == 4)
 (some ((.int .i64 (5)),[.op [.os (5,0) l85,.int .i64 m1,.int .i64 m2,.int .i64 m3,.int .i64 m4,.int .i64 m5,.int .i64 m6,.int .i64 m7]]))
 (ac V 95 [.op [.os (5,0) l85,.int .i64 m1,.int .i64 m2,.int .i64 m3,.int .i64 m4,.int .i64 m5,.int .i64 m6,.int .i64 m7],.int .i64 n76] fun x86 l87 =>
 b6 x86 fun l88 => unn l88 (unc l87 fun x89 l90 => tk5 x89 fun l94 _ n100 n103 n106 n109 n112 n115 => (unn l90 (some ((.int .i64 (0)),[.op [.os (5,0) l94,.int .i64 nx,.int .i64 n100,.int .i64 n103,.int .i64 n106,.int .i64 n109,.int .i64 n112,.int .i64 n115]]))))))))))))) := by
  exact (ay Tryz.func240 rfl _).trans (by kernel_rfl)
theorem xF (cp cl cd p : List D) (m1 m2 m3 m4 m5 m6 m7 : Int) (s : ByteArray) : V 217 [.agg [.rs (5,0) cp,.rs (4,0) cl,.rs (3,0) cd],.op [.os (5,0) p,.int .i64 m1,.int .i64 m2,.int .i64 m3,.int .i64 m4,.int .i64 m5,.int .i64 m6,.int .i64 m7],.str s] =
 ac V 129 [.agg [.rs (5,0) cp,.rs (4,0) cl,.rs (3,0) cd],.str s] fun x0 l1 =>
 asI .i64 x0 fun n2 => unn l1 (br (decide (n2 ≥ 0))
 (ac V 158 [.op [.os (5,0) p],(.agg [.int .i64 (1),.int .i64 (0),.str ({ data := #[] }),.int .i64 (0),.int .i64 (0)])] fun x3 l4 =>
 asI .i64 x3 fun n5 => unc l4 fun x6 l7 => bz x6 fun l8 => unc l8 fun x9 l10 => aM (5,0) x9 fun l11 => unn l10 (unn l7 (grd (decide (0 ≤ n2) && decide (n2 < ni (List.length cd))) (am cd (Int.toNat n2) fun x12 =>
 asAgg x12 fun l13 => am l13 1 fun x14 =>
 asI .i64 x14 fun n15 => grd (decide (0 ≤ n2) && decide (n2 < ni (List.length cd))) (am cd (Int.toNat n2) fun x16 =>
 asAgg x16 fun l17 => am l17 2 fun x18 =>
 asI .i64 x18 fun n19 => ac V 158 [.op [.os (5,0) l11],(.agg [.int .i64 (6),(.int .i64 (IntKind.wrap IntKind.i64 (IntKind.wrap IntKind.i64 (8 * n15) + n19))),.str ({ data := #[] }),.int .i64 n5,.int .i64 (0)])] fun x20 l21 =>
 asI .i64 x20 fun n22 => unc l21 fun x23 l24 => bz x23 fun l25 => unc l25 fun x26 l27 => aM (5,0) x26 fun l28 => unn l27 (unn l24 (ac V 95 [.op [.os (5,0) l28,.int .i64 m1,.int .i64 m2,.int .i64 m3,.int .i64 m4,.int .i64 m5,.int .i64 m6,.int .i64 m7],.int .i64 n22] fun x29 l30 =>
 b6 x29 fun l31 => unn l31 (unc l30 fun x32 l33 => tk5 x32 fun l37 n40 n43 n46 n49 n52 n55 n58 => (unn l33 (some ((.int .i64 (0)),[.op [.os (5,0) l37,.int .i64 n40,.int .i64 n43,.int .i64 n46,.int .i64 n49,.int .i64 n52,.int .i64 n55,.int .i64 n58]])))))))))))
 (ac V 232 [.str s] fun x59 l60 =>
 asI .i64 x59 fun n61 => unn l60 (br (n61 == 0)
 (some ((.int .i64 (1)),[.op [.os (5,0) p,.int .i64 m1,.int .i64 m2,.int .i64 m3,.int .i64 m4,.int .i64 m5,.int .i64 m6,.int .i64 m7]]))
 (ac V 158 [.op [.os (5,0) p],(.agg [.int .i64 (8),.int .i64 n61,.str ({ data := #[] }),.int .i64 (0),.int .i64 (0)])] fun x62 l63 =>
 asI .i64 x62 fun n64 => unc l63 fun x65 l66 => bz x65 fun l67 => unc l67 fun x68 l69 => aM (5,0) x68 fun l70 => unn l69 (unn l66 (ac V 95 [.op [.os (5,0) l70,.int .i64 m1,.int .i64 m2,.int .i64 m3,.int .i64 m4,.int .i64 m5,.int .i64 m6,.int .i64 m7],.int .i64 n64] fun x71 l72 =>
 b6 x71 fun l73 => unn l73 (unc l72 fun x74 l75 => tk5 x74 fun l79 n82 n85 n88 n91 n94 n97 n100 => (unn l75 (some ((.int .i64 (0)),[.op [.os (5,0) l79,.int .i64 n82,.int .i64 n85,.int .i64 n88,.int .i64 n91,.int .i64 n94,.int .i64 n97,.int .i64 n100]])))))))))) := by
  exact (ay Tryz.func217 rfl _).trans (by kernel_rfl)
theorem mO (p0 : Int) (p1 p2 : List D) : db p0 p1 p2 =
 br (decide (p0 ≥ 0))
 (grd (decide (0 ≤ p0) && decide (p0 < ni (List.length p2))) (am p2 (Int.toNat p0) fun x4 =>
 asB x4 fun b5 => br (!b5)
 (db (IntKind.wrap IntKind.i64 (p0 - 1)) p1 p2)
 (grd (decide (0 ≤ p0) && decide (p0 < ni (List.length p1))) (am p1 (Int.toNat p0) fun x6 =>
 tk1 x6 fun n10 _ _ n19 n22 => (br (n10 == 5)
 (grd (decide (0 ≤ n19) && decide (n19 < ni (List.length p2))) (am p2 (Int.toNat n19) fun _ =>
 nam (List.set p2 (Int.toNat n19) (D.bool true)) fun l24 =>
 grd (decide (0 ≤ n22) && decide (n22 < ni (List.length l24))) (am l24 (Int.toNat n22) fun _ =>
 nam (List.set l24 (Int.toNat n22) (D.bool true)) fun l26 =>
 db (IntKind.wrap IntKind.i64 (p0 - 1)) p1 l26)))
 (br (n10 == 6)
 (br (n10 == 6)
 (grd (decide (0 ≤ n19) && decide (n19 < ni (List.length p2))) (am p2 (Int.toNat n19) fun _ =>
 nam (List.set p2 (Int.toNat n19) (D.bool true)) fun l28 =>
 db (IntKind.wrap IntKind.i64 (p0 - 1)) p1 l28))
 (db (IntKind.wrap IntKind.i64 (p0 - 1)) p1 p2))
 (br (n10 == 7)
 (grd (decide (0 ≤ n19) && decide (n19 < ni (List.length p2))) (am p2 (Int.toNat n19) fun _ =>
 nam (List.set p2 (Int.toNat n19) (D.bool true)) fun l30 =>
 db (IntKind.wrap IntKind.i64 (p0 - 1)) p1 l30))
 (db (IntKind.wrap IntKind.i64 (p0 - 1)) p1 p2))))))))
 (some ((.os (1,0) p2),[])) := by
  exact (bQ _ _ _).trans (by kernel_rfl)
theorem kM (p : List D) (m1 m2 m3 m4 m5 m6 m7 : Int) (cp cl cd : List D)  : V 182 [.op [.os (5,0) p,.int .i64 m1,.int .i64 m2,.int .i64 m3,.int .i64 m4,.int .i64 m5,.int .i64 m6,.int .i64 m7,.rs (5,0) cp,.rs (4,0) cl,.rs (3,0) cd]] =
 grd (decide (0 ≤ m2) && decide (m2 < ni (List.length p))) (am p (Int.toNat m2) fun x0 =>
 tk1 x0 fun n4 _ _ n13 n16 => (br (n4 != 5)
 (some ((.tup [.int .i64 (0),.bool false]),[.op [.os (5,0) p,.int .i64 m1,.int .i64 m2,.int .i64 m3,.int .i64 m4,.int .i64 m5,.int .i64 m6,.int .i64 m7,.rs (5,0) cp,.rs (4,0) cl,.rs (3,0) cd]]))
 (some ((.tup [.int .i64 n13,.bool true]),[.op [.os (5,0) p,.int .i64 m1,.int .i64 n16,.int .i64 m3,.int .i64 m4,.int .i64 m5,.int .i64 m6,.int .i64 m7,.rs (5,0) cp,.rs (4,0) cl,.rs (3,0) cd]])))) := by
  exact (ay Tryz.func182 rfl _).trans (by kernel_rfl)
theorem DK (a0_0 : List D) (a0_1 a0_2 a0_3 a0_4 a0_5 a0_6 a0_7 a1_ : Int) : V 92 [.agg [.rs (5,0) a0_0,.int .i64 a0_1,.int .i64 a0_2,.int .i64 a0_3,.int .i64 a0_4,.int .i64 a0_5,.int .i64 a0_6,.int .i64 a0_7],.int .i64 a1_] =
 ac V 63 [.agg [.rs (5,0) a0_0,.int .i64 a0_1,.int .i64 a0_2,.int .i64 a0_3,.int .i64 a0_4,.int .i64 a0_5,.int .i64 a0_6,.int .i64 a0_7]] fun x0 l1 =>
 tk3 x0 fun l5 _ n11 n14 n17 _ _ _ => (unn l1 (some ((.agg [.os (5,0) l5,.int .i64 (0),.int .i64 n11,.int .i64 n14,.int .i64 n17,.int .i64 (3),.int .i64 a1_,.int .i64 (0)]),[]))) := by
  exact (ay Tryz.func92 rfl _).trans (by kernel_rfl)
theorem y3  : V 239 [] =
 some ((.os (1,0) [.str ({ data := #[] }),.str ({ data := #[43] }),.str ({ data := #[45] }),.str ({ data := #[42] }),.str ({ data := #[60] }),.str ({ data := #[61] }),.str ({ data := #[99,111,110,115] }),.str ({ data := #[99,97,114] }),.str ({ data := #[99,100,114] }),.str ({ data := #[110,117,108,108,63] }),.str ({ data := #[112,97,105,114,63] }),.str ({ data := #[101,113,63] }),.str ({ data := #[110,111,116] }),.str ({ data := #[112,114,105,110,116] }),.str ({ data := #[115,101,108,102] }),.str ({ data := #[115,101,110,100] }),.str ({ data := #[114,101,99,118] }),.str ({ data := #[115,112,97,119,110] }),.str ({ data := #[99,97,108,108,99,99] }),.str ({ data := #[103,111] })]),[]) := by
  exact (ay Tryz.func239 rfl _).trans (by kernel_rfl)
theorem gr (p0 : List D) (p1 p2 : Int) : gj p0 p1 p2 =
 br (decide (p2 < ni (List.length p0)))
 (grd (decide (0 ≤ p2) && decide (p2 < ni (List.length p0))) (am p0 (Int.toNat p2) fun x0 =>
 wt x0 fun n4 n7 n10 s13 => (ac V 160 [.agg [.int .i64 n4,.int .i64 n7,.int .i64 n10,.str s13],.int .i64 p1] fun x14 l15 =>
 asI .i64 x14 fun n16 => unn l15 (br (decide (n16 < 0))
 (some ((.int .i64 (-1)),[]))
 (gj p0 n16 (IntKind.wrap IntKind.i64 (p2 + 1)))))))
 (some ((.int .i64 p1),[])) := by
  exact (bQ _ _ _).trans (by kernel_rfl)
theorem DZ (a0_0 : List D) (a0_1 a0_2 a0_3 a0_4 a0_5 a0_6 a0_7 : Int) : V 85 [.agg [.rs (5,0) a0_0,.int .i64 a0_1,.int .i64 a0_2,.int .i64 a0_3,.int .i64 a0_4,.int .i64 a0_5,.int .i64 a0_6,.int .i64 a0_7]] =
 ac V 147 [.agg [.rs (5,0) a0_0]] fun x0 l1 =>
 asAgg x0 fun l2 => unc l2 fun x3 l4 => aM (5,0) x3 fun l5 => unn l4 (unn l1 (some ((.agg [.os (5,0) l5,.int .i64 a0_1,.int .i64 a0_2,.int .i64 a0_3,.int .i64 a0_4,.int .i64 a0_5,.int .i64 a0_6,.int .i64 a0_7]),[]))) := by
  exact (ay Tryz.func85 rfl _).trans (by kernel_rfl)
theorem gp (p0 : Int) (p1 : ByteArray) : gc p0 p1 =
 br (decide (p0 > 0))
 (grd (!decide (10 = 0)) (k8 ([D.int IntKind.u8 (IntKind.wrap IntKind.u8 (IntKind.wrap IntKind.i64 (48 + Int.tmod p0 (10))))]) fun s0 => grd (decide (ni (ByteArray.size s0 + ByteArray.size p1) ≤ LIM)) (grd (!decide (10 = 0)) (gc (IntKind.wrap IntKind.i64 (Int.tdiv p0 (10))) (s0 ++ p1)))))
 (grd (decide (ni (ByteArray.size { data := #[109] } + ByteArray.size p1) ≤ LIM)) (some ((.str ({ data := #[109] } ++ p1)),[]))) := by
  exact (bQ _ _ _).trans (by kernel_rfl)
theorem Gy (a0_0 a0_1 a0_2 a1_0 : List D) (a1_1 a1_2 a1_3 a1_4 a1_5 a1_6 a1_7 a2_ : Int) : V 101 [.agg [.rs (5,0) a0_0,.rs (4,0) a0_1,.rs (3,0) a0_2],.agg [.os (5,0) a1_0,.int .i64 a1_1,.int .i64 a1_2,.int .i64 a1_3,.int .i64 a1_4,.int .i64 a1_5,.int .i64 a1_6,.int .i64 a1_7],.int .i64 a2_] =
 jr a2_ (0) a0_0 a0_1 a0_2 a1_1 a1_2 a1_3 a1_4 a1_5 a1_6 a1_7 (0) (0) (0) (0) (0) (0) (0) a1_0 := by
  exact (ay Tryz.func101 rfl _).trans (by kernel_rfl)
theorem we (p : List D) (a b : Int) : V 94 [.op [.os (5,0) p],.int .i64 a,.int .i64 b] =
 ac V 157 [.op [.os (5,0) p],(.agg [.int .i64 (5),.int .i64 (0),.str ({ data := #[] }),.int .i64 a,.int .i64 b])] fun x0 l1 =>
 asI .i64 x0 fun n2 => unc l1 fun x3 l4 => bz x3 fun l5 => unc l5 fun x6 l7 => aM (5,0) x6 fun l8 => unn l7 (unn l4 (some ((.int .i64 n2),[.op [.os (5,0) l8]]))) := by
  exact (ay Tryz.func94 rfl _).trans (by kernel_rfl)
theorem KJ (a0_0 a1_ : List D) : V 66 [.agg [.rs (5,0) a0_0],.rs (1,0) a1_] =
 ac V 137 [.op [.os (5,0) []],(.agg [.rs (5,0) a0_0]),.rs (1,0) a1_] fun x0 l1 =>
 aM (1,0) x0 fun l2 => unc l1 fun x3 l4 => bz x3 fun l5 => unc l5 fun x6 l7 => aM (5,0) x6 fun l8 => unn l7 (unn l4 (ka a1_ (ni (List.length a1_)) (0) l2 [] l8)) := by
  exact (ay Tryz.func66 rfl _).trans (by kernel_rfl)
theorem FK (a0_0 a0_1 a0_2 : List D) (a1_ : ByteArray) : V 125 [.agg [.rs (5,0) a0_0,.rs (4,0) a0_1,.rs (3,0) a0_2],.str a1_] =
 ac V 178 [.rs (3,0) a0_2,(.fn 179 [(.bp [.str a1_])])] fun x0 l1 =>
 asI .i64 x0 fun n2 => unn l1 (some ((.int .i64 n2),[])) := by
  exact (ay Tryz.func125 rfl _).trans (by kernel_rfl)
theorem yE (a0_0 : List D) (a1_ : Int) : V 108 [.agg [.os (5,0) a0_0],.int .i64 a1_] =
 ac V 169 [.os (5,0) a0_0,.int .i64 a1_] fun x0 l1 =>
 asI .i64 x0 fun n2 => unc l1 fun x3 l4 => aM (5,0) x3 fun l5 => unn l4 (some ((.int .i64 n2),[.agg [.os (5,0) l5]])) := by
  exact (ay Tryz.func108 rfl _).trans (by kernel_rfl)
theorem BN (a0_0 : List D) (a1_ : Int) : V 56 [.agg [.rs (5,0) a0_0],.int .i64 a1_] =
 ac V 58 [.int .i64 a1_,.int .i64 (0),(.int .i64 (IntKind.wrap IntKind.i64 (ni (List.length a0_0) - 1)))] fun x0 l1 =>
 asB x0 fun b2 => unn l1 (some ((.bool b2),[])) := by
  exact (ay Tryz.func56 rfl _).trans (by kernel_rfl)
theorem ij (a0_ : List D) : V 181 [.rs (5,0) a0_] =
 Mb a0_
 (some ((.os (5,0) []),[]))
 (grd (decide (ni (List.length ([] ++ a0_)) ≤ LIM)) (nam ([] ++ a0_) fun l0 =>
 some ((.os (5,0) l0),[]))) := by
  exact (ay Tryz.func181 rfl _).trans (by kernel_rfl)
theorem ya (a0_0 : List D) : V 131 [.agg [.rs (5,0) a0_0]] =
 ac V 181 [.rs (5,0) a0_0] fun x0 l1 =>
 aM (5,0) x0 fun l2 => unn l1 (some ((.agg [.os (5,0) l2]),[])) := by
  exact (ay Tryz.func131 rfl _).trans (by kernel_rfl)
theorem Pd (a : ByteArray) (b c : Int) (s : ByteArray) : V 179 [.agg [.str a,.int .i64 b,.int .i64 c],.bp [.str s]] =
 some ((.bool (aQ a s)),[]) := by
  exact (ay Tryz.func179 rfl _).trans (by kernel_rfl)
theorem D9 (a0_0 : List D) (a1_ a2_ : Int) : V 216 [.agg [.rs (5,0) a0_0],.int .i64 a1_,.int .i64 a2_] =
 jv a1_ a2_ a0_0 := by
  exact (ay Tryz.func216 rfl _).trans (by kernel_rfl)
theorem yW (a0_0 : List D) : V 247 [.agg [.rs (5,0) a0_0]] =
 aY a0_0 (ni (List.length a0_0)) (0) [] [] := by
  exact (ay Tryz.func247 rfl _).trans (by kernel_rfl)
theorem DN (a0_0 : List D) : V 60 [.agg [.rs (5,0) a0_0]] =
 iK (0) a0_0 := by
  exact (ay Tryz.func60 rfl _).trans (by kernel_rfl)

end Go.Eng
/-! the functions as the interpreter has them -/
namespace Go.Eng
open Go.Proofs Go.Proofs.Tryz
set_option maxRecDepth 100000
theorem iR (p0 : List D) (p1 p2 : Int) (p3 p4 p5 : List D) : bC p0 p1 p2 p3 p4 p5 =
 br (decide (p2 < p1))
 (grd (decide (0 ≤ p2) && decide (p2 < ni (List.length p0))) (am p0 (Int.toNat p2) fun x3 =>
 tk1 x3 fun n7 n10 s13 n16 n19 => (grd (decide (0 ≤ p2) && decide (p2 < ni (List.length p3))) (am p3 (Int.toNat p2) fun _ =>
 nam (List.set p3 (Int.toNat p2) (D.int IntKind.i64 (-1))) fun l21 =>
 grd (decide (0 ≤ p2) && decide (p2 < ni (List.length p4))) (am p4 (Int.toNat p2) fun x22 =>
 asB x22 fun b23 => br (!b23)
 (bC p0 p1 (IntKind.wrap IntKind.i64 (p2 + 1)) l21 p4 p5)
 (br (n7 == 5)
 (grd (decide (0 ≤ n16) && decide (n16 < ni (List.length l21))) (am l21 (Int.toNat n16) fun x24 =>
 asI .i64 x24 fun n25 => grd (decide (0 ≤ n19) && decide (n19 < ni (List.length l21))) (am l21 (Int.toNat n19) fun x26 =>
 asI .i64 x26 fun n27 => ac V 157 [.op [.os (5,0) p5],.agg [.int .i64 n7,.int .i64 n10,.str s13,.int .i64 n25,.int .i64 n27]] fun x28 l29 =>
 asI .i64 x28 fun n30 => unc l29 fun x31 l32 => bz x31 fun l33 => unc l33 fun x34 l35 => aM (5,0) x34 fun l36 => unn l35 (unn l32 (grd (decide (0 ≤ p2) && decide (p2 < ni (List.length l21))) (am l21 (Int.toNat p2) fun _ =>
 nam (List.set l21 (Int.toNat p2) (D.int IntKind.i64 n30)) fun l38 =>
 bC p0 p1 (IntKind.wrap IntKind.i64 (p2 + 1)) l38 p4 l36))))))
 (br (n7 == 6)
 (br (n7 == 6)
 (grd (decide (0 ≤ n16) && decide (n16 < ni (List.length l21))) (am l21 (Int.toNat n16) fun x39 =>
 asI .i64 x39 fun n40 => ac V 157 [.op [.os (5,0) p5],.agg [.int .i64 n7,.int .i64 n10,.str s13,.int .i64 n40,.int .i64 n19]] fun x41 l42 =>
 asI .i64 x41 fun n43 => unc l42 fun x44 l45 => bz x44 fun l46 => unc l46 fun x47 l48 => aM (5,0) x47 fun l49 => unn l48 (unn l45 (grd (decide (0 ≤ p2) && decide (p2 < ni (List.length l21))) (am l21 (Int.toNat p2) fun _ =>
 nam (List.set l21 (Int.toNat p2) (D.int IntKind.i64 n43)) fun l51 =>
 bC p0 p1 (IntKind.wrap IntKind.i64 (p2 + 1)) l51 p4 l49)))))
 (ac V 157 [.op [.os (5,0) p5],.agg [.int .i64 n7,.int .i64 n10,.str s13,.int .i64 n16,.int .i64 n19]] fun x52 l53 =>
 asI .i64 x52 fun n54 => unc l53 fun x55 l56 => bz x55 fun l57 => unc l57 fun x58 l59 => aM (5,0) x58 fun l60 => unn l59 (unn l56 (grd (decide (0 ≤ p2) && decide (p2 < ni (List.length l21))) (am l21 (Int.toNat p2) fun _ =>
 nam (List.set l21 (Int.toNat p2) (D.int IntKind.i64 n54)) fun l62 =>
 bC p0 p1 (IntKind.wrap IntKind.i64 (p2 + 1)) l62 p4 l60)))))
 (br (n7 == 7)
 (grd (decide (0 ≤ n16) && decide (n16 < ni (List.length l21))) (am l21 (Int.toNat n16) fun x63 =>
 asI .i64 x63 fun n64 => ac V 157 [.op [.os (5,0) p5],.agg [.int .i64 n7,.int .i64 n10,.str s13,.int .i64 n64,.int .i64 n19]] fun x65 l66 =>
 asI .i64 x65 fun n67 => unc l66 fun x68 l69 => bz x68 fun l70 => unc l70 fun x71 l72 => aM (5,0) x71 fun l73 => unn l72 (unn l69 (grd (decide (0 ≤ p2) && decide (p2 < ni (List.length l21))) (am l21 (Int.toNat p2) fun _ =>
 nam (List.set l21 (Int.toNat p2) (D.int IntKind.i64 n67)) fun l75 =>
 bC p0 p1 (IntKind.wrap IntKind.i64 (p2 + 1)) l75 p4 l73)))))
 (ac V 157 [.op [.os (5,0) p5],.agg [.int .i64 n7,.int .i64 n10,.str s13,.int .i64 n16,.int .i64 n19]] fun x76 l77 =>
 asI .i64 x76 fun n78 => unc l77 fun x79 l80 => bz x79 fun l81 => unc l81 fun x82 l83 => aM (5,0) x82 fun l84 => unn l83 (unn l80 (grd (decide (0 ≤ p2) && decide (p2 < ni (List.length l21))) (am l21 (Int.toNat p2) fun _ =>
 nam (List.set l21 (Int.toNat p2) (D.int IntKind.i64 n78)) fun l86 =>
 bC p0 p1 (IntKind.wrap IntKind.i64 (p2 + 1)) l86 p4 l84))))))))))))
 (some ((.os (1,0) p3),[.op [.os (5,0) p5]])) := by
  exact (bQ _ _ _).trans (by kernel_rfl)
theorem lN (p0 : List D) (p1 : Int) (p2 p3 p4 : List D) : cN p0 p1 p2 p3 p4 =
 br (decide (p1 < ni (List.length p2)))
 (grd (decide (0 ≤ p1) && decide (p1 < ni (List.length p0))) (am p0 (Int.toNat p1) fun x0 =>
 asB x0 fun b1 => br (!b1)
 (cN p0 (IntKind.wrap IntKind.i64 (p1 + 1)) p2 p3 p4)
 (grd (decide (0 ≤ p1) && decide (p1 < ni (List.length p2))) (am p2 (Int.toNat p1) fun x2 =>
 tk1 x2 fun n6 n9 s12 n15 n18 => (br (n6 == 5)
 (grd (decide (0 ≤ n15) && decide (n15 < ni (List.length p3))) (am p3 (Int.toNat n15) fun x19 =>
 asI .i64 x19 fun n20 => grd (decide (0 ≤ n18) && decide (n18 < ni (List.length p3))) (am p3 (Int.toNat n18) fun x21 =>
 asI .i64 x21 fun n22 => ac V 158 [.op [.os (5,0) p4],.agg [.int .i64 n6,.int .i64 n9,.str s12,.int .i64 n20,.int .i64 n22]] fun x23 l24 =>
 asI .i64 x23 fun n25 => unc l24 fun x26 l27 => bz x26 fun l28 => unc l28 fun x29 l30 => aM (5,0) x29 fun l31 => unn l30 (unn l27 (grd (decide (0 ≤ p1) && decide (p1 < ni (List.length p3))) (am p3 (Int.toNat p1) fun _ =>
 nam (List.set p3 (Int.toNat p1) (D.int IntKind.i64 n25)) fun l33 =>
 cN p0 (IntKind.wrap IntKind.i64 (p1 + 1)) p2 l33 l31))))))
 (br (n6 == 6)
 (br (n6 == 6)
 (grd (decide (0 ≤ n15) && decide (n15 < ni (List.length p3))) (am p3 (Int.toNat n15) fun x34 =>
 asI .i64 x34 fun n35 => ac V 158 [.op [.os (5,0) p4],.agg [.int .i64 n6,.int .i64 n9,.str s12,.int .i64 n35,.int .i64 n18]] fun x36 l37 =>
 asI .i64 x36 fun n38 => unc l37 fun x39 l40 => bz x39 fun l41 => unc l41 fun x42 l43 => aM (5,0) x42 fun l44 => unn l43 (unn l40 (grd (decide (0 ≤ p1) && decide (p1 < ni (List.length p3))) (am p3 (Int.toNat p1) fun _ =>
 nam (List.set p3 (Int.toNat p1) (D.int IntKind.i64 n38)) fun l46 =>
 cN p0 (IntKind.wrap IntKind.i64 (p1 + 1)) p2 l46 l44)))))
 (ac V 158 [.op [.os (5,0) p4],.agg [.int .i64 n6,.int .i64 n9,.str s12,.int .i64 n15,.int .i64 n18]] fun x47 l48 =>
 asI .i64 x47 fun n49 => unc l48 fun x50 l51 => bz x50 fun l52 => unc l52 fun x53 l54 => aM (5,0) x53 fun l55 => unn l54 (unn l51 (grd (decide (0 ≤ p1) && decide (p1 < ni (List.length p3))) (am p3 (Int.toNat p1) fun _ =>
 nam (List.set p3 (Int.toNat p1) (D.int IntKind.i64 n49)) fun l57 =>
 cN p0 (IntKind.wrap IntKind.i64 (p1 + 1)) p2 l57 l55)))))
 (br (n6 == 7)
 (grd (decide (0 ≤ n15) && decide (n15 < ni (List.length p3))) (am p3 (Int.toNat n15) fun x58 =>
 asI .i64 x58 fun n59 => ac V 158 [.op [.os (5,0) p4],.agg [.int .i64 n6,.int .i64 n9,.str s12,.int .i64 n59,.int .i64 n18]] fun x60 l61 =>
 asI .i64 x60 fun n62 => unc l61 fun x63 l64 => bz x63 fun l65 => unc l65 fun x66 l67 => aM (5,0) x66 fun l68 => unn l67 (unn l64 (grd (decide (0 ≤ p1) && decide (p1 < ni (List.length p3))) (am p3 (Int.toNat p1) fun _ =>
 nam (List.set p3 (Int.toNat p1) (D.int IntKind.i64 n62)) fun l70 =>
 cN p0 (IntKind.wrap IntKind.i64 (p1 + 1)) p2 l70 l68)))))
 (ac V 158 [.op [.os (5,0) p4],.agg [.int .i64 n6,.int .i64 n9,.str s12,.int .i64 n15,.int .i64 n18]] fun x71 l72 =>
 asI .i64 x71 fun n73 => unc l72 fun x74 l75 => bz x74 fun l76 => unc l76 fun x77 l78 => aM (5,0) x77 fun l79 => unn l78 (unn l75 (grd (decide (0 ≤ p1) && decide (p1 < ni (List.length p3))) (am p3 (Int.toNat p1) fun _ =>
 nam (List.set p3 (Int.toNat p1) (D.int IntKind.i64 n73)) fun l81 =>
 cN p0 (IntKind.wrap IntKind.i64 (p1 + 1)) p2 l81 l79)))))))))))
 (some ((.os (1,0) p3),[.op [.os (5,0) p4]])) := by
  exact (bQ _ _ _).trans (by kernel_rfl)
theorem C7 (p : List D) (m1 m2 m3 m4 m5 m6 m7 : Int)  : V 220 [.op [.os (5,0) p,.int .i64 m1,.int .i64 m2,.int .i64 m3,.int .i64 m4,.int .i64 m5,.int .i64 m6,.int .i64 m7]] =
 ac V 218 [.op [.os (5,0) p,.int .i64 m1,.int .i64 m2,.int .i64 m3,.int .i64 m4,.int .i64 m5,.int .i64 m6,.int .i64 m7]] fun x0 l1 =>
 tk4 x0 fun n5 b8 => (unc l1 fun x9 l10 => tk5 x9 fun l14 n17 n20 n23 n26 n29 n32 n35 => (unn l10 (br (!b8)
 (some ((.int .i64 (7)),[.op [.os (5,0) l14,.int .i64 n17,.int .i64 n20,.int .i64 n23,.int .i64 n26,.int .i64 n29,.int .i64 n32,.int .i64 n35]]))
 (grd (decide (0 ≤ n26) && decide (n26 < ni (List.length l14))) (am l14 (Int.toNat n26) fun x36 =>
 tk1 x36 fun n40 _ _ n49 n52 => (br (n40 == 1)
 (some ((.int .i64 (0)),[.op [.os (5,0) l14,.int .i64 (0),.int .i64 n20,.int .i64 n23,.int .i64 n26,.int .i64 (2),.int .i64 n32,.int .i64 n5]]))
 (br (n40 != 5)
 (some ((.int .i64 (7)),[.op [.os (5,0) l14,.int .i64 n17,.int .i64 n20,.int .i64 n23,.int .i64 n26,.int .i64 n29,.int .i64 n32,.int .i64 n35]]))
 (ac V 234 [.agg [.rs (5,0) l14],.int .i64 n49,.int .i64 (3)] fun x53 l54 =>
 tk8 x53 fun n58 l61 b64 => (unn l54 (br (!b64)
 (some ((.int .i64 (7)),[.op [.os (5,0) l14,.int .i64 n17,.int .i64 n20,.int .i64 n23,.int .i64 n26,.int .i64 n29,.int .i64 n32,.int .i64 n35]]))
 (grd (decide (0 ≤ 0) && decide (0 < ni (List.length l61))) (am l61 0 fun x65 =>
 asI .i64 x65 fun n66 => grd (decide (0 ≤ 1) && decide (1 < ni (List.length l61))) (am l61 1 fun x67 =>
 asI .i64 x67 fun n68 => ac V 95 [.op [.os (5,0) l14,.int .i64 n58,.int .i64 n66,.int .i64 n68,.int .i64 n52,.int .i64 n29,.int .i64 n32,.int .i64 n35],.int .i64 n5] fun x69 l70 =>
 b6 x69 fun l71 => unn l71 (unc l70 fun x72 l73 => tk5 x72 fun l77 n80 n83 n86 n89 n92 n95 n98 => (unn l73 (some ((.int .i64 (0)),[.op [.os (5,0) l77,.int .i64 n80,.int .i64 n83,.int .i64 n86,.int .i64 n89,.int .i64 n92,.int .i64 n95,.int .i64 n98]]))))))))))))))))) := by
  exact (ay Tryz.func220 rfl _).trans (by kernel_rfl)
theorem I6 (a0_0 a0_1 a0_2 a1_0 : List D) (a1_1 a1_2 a1_3 a1_4 a1_5 a1_6 a1_7 : Int) : V 17 [.agg [.rs (5,0) a0_0,.rs (4,0) a0_1,.rs (3,0) a0_2],.agg [.rs (5,0) a1_0,.int .i64 a1_1,.int .i64 a1_2,.int .i64 a1_3,.int .i64 a1_4,.int .i64 a1_5,.int .i64 a1_6,.int .i64 a1_7]] =
 ac V 14 [.agg [.rs (5,0) a0_0,.rs (4,0) a0_1,.rs (3,0) a0_2],(.agg [.rs (5,0) a1_0,.int .i64 a1_1,.int .i64 a1_2,.int .i64 a1_3,.int .i64 a1_4,.int .i64 a1_5,.int .i64 a1_6,.int .i64 a1_7])] fun x0 l1 =>
 asB x0 fun b2 => unn l1 (br (!b2)
 (some ((.agg [.os (5,0) [],.int .i64 (0),.int .i64 (0),.int .i64 (0),.int .i64 (0),.int .i64 (3),.int .i64 (7),.int .i64 (0)]),[]))
 (br (a1_5 != 0)
 (ac V 63 [.agg [.rs (5,0) a1_0,.int .i64 a1_1,.int .i64 a1_2,.int .i64 a1_3,.int .i64 a1_4,.int .i64 a1_5,.int .i64 a1_6,.int .i64 a1_7]] fun x3 l4 =>
 tk3 x3 fun l8 n11 n14 n17 n20 n23 n26 n29 => (unn l4 (some ((.agg [.os (5,0) l8,.int .i64 n11,.int .i64 n14,.int .i64 n17,.int .i64 n20,.int .i64 n23,.int .i64 n26,.int .i64 n29]),[]))))
 (ac V 64 [.agg [.rs (5,0) a0_0,.rs (4,0) a0_1,.rs (3,0) a0_2],(.agg [.rs (5,0) a1_0,.int .i64 a1_1,.int .i64 a1_2,.int .i64 a1_3,.int .i64 a1_4,.int .i64 a1_5,.int .i64 a1_6,.int .i64 a1_7])] fun x30 l31 =>
 tk3 x30 fun l35 n38 n41 n44 n47 n50 n53 n56 => (unn l31 (some ((.agg [.os (5,0) l35,.int .i64 n38,.int .i64 n41,.int .i64 n44,.int .i64 n47,.int .i64 n50,.int .i64 n53,.int .i64 n56]),[])))))) := by
  exact (ay Tryz.func17 rfl _).trans (by kernel_rfl)
theorem kE (p0 : Int) (p1 p2 : List D) : cH p0 p1 p2 =
 br (decide (p0 ≥ 0))
 (grd (decide (0 ≤ p0) && decide (p0 < ni (List.length p1))) (am p1 (Int.toNat p0) fun x4 =>
 tk1 x4 fun n8 _ _ n17 n20 => (grd (decide (0 ≤ p0) && decide (p0 < ni (List.length p2))) (am p2 (Int.toNat p0) fun x21 =>
 asB x21 fun b22 => br (!b22)
 (cH (IntKind.wrap IntKind.i64 (p0 - 1)) p1 p2)
 (br (n8 == 5)
 (grd (decide (0 ≤ n17) && decide (n17 < ni (List.length p2))) (am p2 (Int.toNat n17) fun _ =>
 nam (List.set p2 (Int.toNat n17) (D.bool true)) fun l24 =>
 grd (decide (0 ≤ n20) && decide (n20 < ni (List.length l24))) (am l24 (Int.toNat n20) fun _ =>
 nam (List.set l24 (Int.toNat n20) (D.bool true)) fun l26 =>
 cH (IntKind.wrap IntKind.i64 (p0 - 1)) p1 l26)))
 (br (n8 == 6)
 (br (n8 == 6)
 (grd (decide (0 ≤ n17) && decide (n17 < ni (List.length p2))) (am p2 (Int.toNat n17) fun _ =>
 nam (List.set p2 (Int.toNat n17) (D.bool true)) fun l28 =>
 cH (IntKind.wrap IntKind.i64 (p0 - 1)) p1 l28))
 (cH (IntKind.wrap IntKind.i64 (p0 - 1)) p1 p2))
 (br (n8 == 7)
 (grd (decide (0 ≤ n17) && decide (n17 < ni (List.length p2))) (am p2 (Int.toNat n17) fun _ =>
 nam (List.set p2 (Int.toNat n17) (D.bool true)) fun l30 =>
 cH (IntKind.wrap IntKind.i64 (p0 - 1)) p1 l30))
 (cH (IntKind.wrap IntKind.i64 (p0 - 1)) p1 p2))))))))
 (some ((.os (1,0) p2),[])) := by
  exact (bQ _ _ _).trans (by kernel_rfl)
theorem kF (p0 : List D) (p1 p2 : Int) (p3 p4 p5 : List D) : gF p0 p1 p2 p3 p4 p5 =
 br (decide (p2 < p1))
 (grd (decide (0 ≤ p2) && decide (p2 < ni (List.length p0))) (am p0 (Int.toNat p2) fun x6 =>
 wk x6 fun s10 n13 n16 => (ac V 124 [.str s10] fun x17 l18 =>
 asB x17 fun b19 => unn l18 (br (!b19)
 (some ((.bool false),[]))
 (ac V 125 [.agg [.rs (5,0) p3,.rs (4,0) p4,.rs (3,0) p5],.str s10] fun x20 l21 =>
 asI .i64 x20 fun n22 => unn l21 (br (n22 != p2)
 (some ((.bool false),[]))
 (ac V 58 [.int .i64 n13,.int .i64 (0),(.int .i64 (IntKind.wrap IntKind.i64 (ni (List.length p4) - 1)))] fun x23 l24 =>
 asB x23 fun b25 => unn l24 (br (!b25)
 (some ((.bool false),[]))
 (ac V 58 [.int .i64 n16,.int .i64 (0),.int .i64 (4)] fun x26 l27 =>
 asB x26 fun b28 => unn l27 (br (!b28)
 (some ((.bool false),[]))
 (gF p0 p1 (IntKind.wrap IntKind.i64 (p2 + 1)) p3 p4 p5)))))))))))
 (some ((.bool true),[])) := by
  exact (bQ _ _ _).trans (by kernel_rfl)
theorem uN (a0_ : Int) : V 180 [.int .u8 a0_] =
 br (decide (a0_ ≥ 97))
 (br (decide (a0_ ≤ 122))
 (some ((.bool true),[]))
 (br (a0_ == 43)
 (some ((.bool true),[]))
 (br (a0_ == 45)
 (some ((.bool true),[]))
 (br (a0_ == 42)
 (some ((.bool true),[]))
 (br (a0_ == 60)
 (some ((.bool true),[]))
 (br (a0_ == 61)
 (some ((.bool true),[]))
 (br (a0_ == 63)
 (some ((.bool true),[]))
 (br (a0_ == 33)
 (some ((.bool true),[]))
 (some ((.bool (a0_ == 47)),[]))))))))))
 (br (a0_ == 43)
 (some ((.bool true),[]))
 (br (a0_ == 45)
 (some ((.bool true),[]))
 (br (a0_ == 42)
 (some ((.bool true),[]))
 (br (a0_ == 60)
 (some ((.bool true),[]))
 (br (a0_ == 61)
 (some ((.bool true),[]))
 (br (a0_ == 63)
 (some ((.bool true),[]))
 (br (a0_ == 33)
 (some ((.bool true),[]))
 (some ((.bool (a0_ == 47)),[]))))))))) := by
  exact (ay Tryz.func180 rfl _).trans (by kernel_rfl)
theorem lF (p0 : List D) (p1 : Int) (p2 : List D) : iG p0 p1 p2 =
 br (decide (p1 < ni (List.length p0)))
 (grd (decide (0 ≤ p1) && decide (p1 < ni (List.length p0))) (am p0 (Int.toNat p1) fun x0 =>
 wk x0 fun s4 n7 n10 => (ac V 165 [.agg [.str s4,.int .i64 n7,.int .i64 n10]] fun x11 l12 =>
 wk x11 fun s16 n19 n22 => (unn l12 (grd (decide (0 ≤ p1) && decide (p1 < ni (List.length p2))) (am p2 (Int.toNat p1) fun _ =>
 nam (List.set p2 (Int.toNat p1) (D.agg [D.str s16,D.int IntKind.i64 n19,D.int IntKind.i64 n22])) fun l24 =>
 iG p0 (IntKind.wrap IntKind.i64 (p1 + 1)) l24))))))
 (some ((.os (3,0) p2),[])) := by
  exact (bQ _ _ _).trans (by kernel_rfl)
theorem mb (p0 : Int) (p1 : List D) : iK p0 p1 =
 br (decide (p0 < ni (List.length p1)))
 (grd (decide (0 ≤ p0) && decide (p0 < ni (List.length p1))) (am p1 (Int.toNat p0) fun x0 =>
 tk1 x0 fun n4 n7 s10 n13 n16 => (ac V 130 [.agg [.int .i64 n4,.int .i64 n7,.str s10,.int .i64 n13,.int .i64 n16],.int .i64 p0] fun x17 l18 =>
 asB x17 fun b19 => unn l18 (br (!b19)
 (some ((.bool false),[]))
 (iK (IntKind.wrap IntKind.i64 (p0 + 1)) p1)))))
 (some ((.bool (decide (ni (List.length p1) ≤ 3000))),[])) := by
  exact (bQ _ _ _).trans (by kernel_rfl)
theorem iY (p0 : List D) (p1 p2 : Int) : iP p0 p1 p2 =
 br (decide (p2 < ni (List.length p0)))
 (grd (decide (0 ≤ p2) && decide (p2 < ni (List.length p0))) (am p0 (Int.toNat p2) fun x0 =>
 wk x0 fun s4 n7 n10 => (ac V 161 [.agg [.str s4,.int .i64 n7,.int .i64 n10],.int .i64 p1] fun x11 l12 =>
 asI .i64 x11 fun n13 => unn l12 (br (decide (n13 < 0))
 (some ((.int .i64 (-1)),[]))
 (iP p0 n13 (IntKind.wrap IntKind.i64 (p2 + 1)))))))
 (some ((.int .i64 p1),[])) := by
  exact (bQ _ _ _).trans (by kernel_rfl)
theorem pe (p0 : List D) (p1 p2 : Int) (p3 p4 p5 : List D) : ka p0 p1 p2 p3 p4 p5 =
 br (decide (p2 < p1))
 (grd (decide (0 ≤ p2) && decide (p2 < ni (List.length p0))) (am p0 (Int.toNat p2) fun x9 =>
 asI .i64 x9 fun n10 => grd (decide (0 ≤ n10) && decide (n10 < ni (List.length p3))) (am p3 (Int.toNat n10) fun x11 =>
 asI .i64 x11 fun n12 => grd (decide (ni (List.length (p4 ++ [D.int IntKind.i64 n12])) ≤ LIM)) (nam (p4 ++ [D.int IntKind.i64 n12]) fun l13 =>
 ka p0 p1 (IntKind.wrap IntKind.i64 (p2 + 1)) p3 l13 p5))))
 (some ((.tup [.agg [.os (5,0) p5],.os (1,0) p4]),[])) := by
  exact (bQ _ _ _).trans (by kernel_rfl)
theorem Cq (a0_0 a0_1 a0_2 : List D) : V 36 [.agg [.rs (5,0) a0_0,.rs (4,0) a0_1,.rs (3,0) a0_2]] =
 ac V 102 [.agg [.rs (5,0) a0_0]] fun x0 l1 =>
 asAgg x0 fun l2 => unc l2 fun x3 l4 => aM (5,0) x3 fun l5 => unn l4 (unn l1 (ac V 103 [.rs (4,0) a0_1] fun x6 l7 =>
 aM (4,0) x6 fun l8 => unn l7 (ac V 104 [.rs (3,0) a0_2] fun x9 l10 =>
 aM (3,0) x9 fun l11 => unn l10 (some ((.agg [.os (5,0) l5,.os (4,0) l8,.os (3,0) l11]),[]))))) := by
  exact (ay Tryz.func36 rfl _).trans (by kernel_rfl)
theorem t9 (a0_0 : List D) (a0_1 a0_2 a0_3 a0_4 a0_5 a0_6 a0_7 a1_ : Int) : V 42 [.agg [.rs (5,0) a0_0,.int .i64 a0_1,.int .i64 a0_2,.int .i64 a0_3,.int .i64 a0_4,.int .i64 a0_5,.int .i64 a0_6,.int .i64 a0_7],.int .i64 a1_] =
 ac V 111 [.agg [.rs (5,0) a0_0],.int .i64 a1_] fun x0 l1 =>
 asI .i64 x0 fun n2 => unn l1 (br (decide (n2 < 0))
 (some ((.int .i64 (-1)),[]))
 (some ((.int .i64 n2),[]))) := by
  exact (ay Tryz.func42 rfl _).trans (by kernel_rfl)
theorem wh (p l : List D) : V 222 [.op [.os (5,0) p],.rs (1,0) l] =
 ac V 157 [.op [.os (5,0) p],(.agg [.int .i64 (1),.int .i64 (0),.str ({ data := #[] }),.int .i64 (0),.int .i64 (0)])] fun x0 l1 =>
 asI .i64 x0 fun n2 => unc l1 fun x3 l4 => bz x3 fun l5 => unc l5 fun x6 l7 => aM (5,0) x6 fun l8 => unn l7 (unn l4 (fx l n2 (IntKind.wrap IntKind.i64 (ni (List.length l) - 1)) l8)) := by
  exact (ay Tryz.func222 rfl _).trans (by kernel_rfl)
theorem lR (p0 : ByteArray) (p1 p2 : Int) : fA p0 p1 p2 =
 br (decide (p2 < p1))
 (grd (decide (0 ≤ p2) && decide (p2 < ni (ByteArray.size p0))) (ac V 177 [.int .u8 (bt p0 p2)] fun x3 l4 =>
 asB x3 fun b5 => unn l4 (br (!b5)
 (some ((.bool false),[]))
 (fA p0 p1 (IntKind.wrap IntKind.i64 (p2 + 1))))))
 (some ((.bool true),[])) := by
  exact (bQ _ _ _).trans (by kernel_rfl)
theorem wO (a0_ : Bool) : V 241 [.bool a0_] =
 br a0_
 (some ((.agg [.int .i64 (2),.int .i64 (1),.str ({ data := #[] }),.int .i64 (0),.int .i64 (0)]),[]))
 (some ((.agg [.int .i64 (2),.int .i64 (0),.str ({ data := #[] }),.int .i64 (0),.int .i64 (0)]),[])) := by
  exact (ay Tryz.func241 rfl _).trans (by kernel_rfl)
theorem xI (a0_0 : List D) (a1_ : Int) : V 111 [.agg [.rs (5,0) a0_0],.int .i64 a1_] =
 ac V 170 [.rs (5,0) a0_0,.int .i64 a1_] fun x0 l1 =>
 asI .i64 x0 fun n2 => unn l1 (br (decide (n2 < 0))
 (some ((.int .i64 (-1)),[]))
 (some ((.int .i64 n2),[]))) := by
  exact (ay Tryz.func111 rfl _).trans (by kernel_rfl)
theorem qC (a0_ : List D) (a1_ : Int) : V 99 [.rs (4,0) a0_,.int .i64 a1_] =
 br (decide (IntKind.wrap IntKind.i64 (a1_ - ni (List.length a0_)) < 0))
 (some ((.int .i64 (-1)),[]))
 (gj a0_ (IntKind.wrap IntKind.i64 (a1_ - ni (List.length a0_))) (0)) := by
  exact (ay Tryz.func99 rfl _).trans (by kernel_rfl)
theorem zn (a0_ a1_ : List D) : V 166 [.rs (5,0) a0_,.rs (5,0) a1_] =
 br (ni (List.length a0_) != ni (List.length a1_))
 (some ((.bool false),[]))
 (gH a0_ a1_ (0)) := by
  exact (ay Tryz.func166 rfl _).trans (by kernel_rfl)
theorem IU (a0_ a1_ : Int) : V 116 [.int .i64 a0_,.int .i64 a1_] =
 br (decide (a0_ < a1_))
 (some ((.int .i64 a0_),[]))
 (some ((.int .i64 a1_),[])) := by
  exact (ay Tryz.func116 rfl _).trans (by kernel_rfl)
theorem r9 (l p : List D) : V 188 [.rs (1,0) l,.fn 136 [.bp [.rs (5,0) p]]] =
 d6 l p (ni (List.length l)) (0) := by
  exact (ay Tryz.func188 rfl _).trans (by kernel_rfl)
end Go.Eng
/-! a call and its results,taken in one step -/
namespace Go.Eng
open Go.Proofs
theorem yX {ds v5 : List D} {v8 : Bool} (h : V 228 ds = some (.tup [.os (1,0) v5,.bool v8],[])) (K : List D → Bool → Option Ret) : ac V 228 ds (fun v0 v1 => tk2 v0 fun v5 v8 => (unn v1 ((K v5 v8)))) = K v5 v8 := (ai h _).trans rfl
theorem Mj {ds v5 : List D} {v8 v11 v14 v17 v20 v23 v26 : Int} (h : V 18 ds = some (.agg [.os (5,0) v5,.int .i64 v8,.int .i64 v11,.int .i64 v14,.int .i64 v17,.int .i64 v20,.int .i64 v23,.int .i64 v26],[])) (K : List D → Int → Int → Int → Int → Int → Int → Int → Option Ret) : ac V 18 ds (fun v0 v1 => tk3 v0 fun v5 v8 v11 v14 v17 v20 v23 v26 => (unn v1 ((K v5 v8 v11 v14 v17 v20 v23 v26)))) = K v5 v8 v11 v14 v17 v20 v23 v26 := (ai h _).trans rfl
theorem GH {ds : List D} {v2 : Bool} (h : V 60 ds = some (.bool v2,[])) (K : Bool → Option Ret) : ac V 60 ds (fun v0 v1 => asB v0 fun v2 => unn v1 ((K v2))) = K v2 := (ai h _).trans rfl
theorem JB {ds : List D} {v2 : Bool} (h : V 61 ds = some (.bool v2,[])) (K : Bool → Option Ret) : ac V 61 ds (fun v0 v1 => asB v0 fun v2 => unn v1 ((K v2))) = K v2 := (ai h _).trans rfl
theorem wo {ds : List D} {v2 : Bool} (h : V 180 ds = some (.bool v2,[])) (K : Bool → Option Ret) : ac V 180 ds (fun v0 v1 => asB v0 fun v2 => unn v1 ((K v2))) = K v2 := (ai h _).trans rfl
theorem dH {ds : List D} {v2 : Bool} (h : V 62 ds = some (.bool v2,[])) (K : Bool → Option Ret) : ac V 62 ds (fun v0 v1 => asB v0 fun v2 => unn v1 ((K v2))) = K v2 := (ai h _).trans rfl
theorem lX {ds : List D} {v2 : Int} {v8 : List D} (h : V 210 ds = some (.int .i64 v2,[.op [.os (5,0) v8]])) (K : Int → List D → Option Ret) : ac V 210 ds (fun v0 v1 => asI .i64 v0 fun v2 => unc v1 fun v3 v4 => bz v3 fun v5 => unc v5 fun v6 v7 => aM (5,0) v6 fun v8 => unn v7 (unn v4 ((K v2 v8)))) = K v2 v8 := (ai h _).trans rfl
theorem pQ {ds : List D} {v2 : Bool} (h : V 56 ds = some (.bool v2,[])) (K : Bool → Option Ret) : ac V 56 ds (fun v0 v1 => asB v0 fun v2 => unn v1 ((K v2))) = K v2 := (ai h _).trans rfl
theorem bI {ds : List D} {v2 : Bool} (h : V 58 ds = some (.bool v2,[])) (K : Bool → Option Ret) : ac V 58 ds (fun v0 v1 => asB v0 fun v2 => unn v1 ((K v2))) = K v2 := (ai h _).trans rfl
theorem D5 {ds : List D} {v2 : Bool} (h : V 124 ds = some (.bool v2,[])) (K : Bool → Option Ret) : ac V 124 ds (fun v0 v1 => asB v0 fun v2 => unn v1 ((K v2))) = K v2 := (ai h _).trans rfl
theorem Gk {ds : List D} {v2 : Bool} (h : V 128 ds = some (.bool v2,[])) (K : Bool → Option Ret) : ac V 128 ds (fun v0 v1 => asB v0 fun v2 => unn v1 ((K v2))) = K v2 := (ai h _).trans rfl
theorem dE {ds : List D} {v5 : Int} {v8 : Bool} {v14 : List D} {v17 v20 v23 v26 v29 v32 v35 : Int} (h : V 218 ds = some (.tup [.int .i64 v5,.bool v8],[.op [.os (5,0) v14,.int .i64 v17,.int .i64 v20,.int .i64 v23,.int .i64 v26,.int .i64 v29,.int .i64 v32,.int .i64 v35]])) (K : Int → Bool → List D → Int → Int → Int → Int → Int → Int → Int → Option Ret) : ac V 218 ds (fun v0 v1 => tk4 v0 fun v5 v8 => (unc v1 fun v9 v10 => tk5 v9 fun v14 v17 v20 v23 v26 v29 v32 v35 => (unn v10 ((K v5 v8 v14 v17 v20 v23 v26 v29 v32 v35))))) = K v5 v8 v14 v17 v20 v23 v26 v29 v32 v35 := (ai h _).trans rfl
theorem sU {ds : List D} {v2 : Int} {v8 : List D} {v11 v14 v17 v20 v23 v26 v29 : Int} (h : V 233 ds = some (.int .i64 v2,[.op [.os (5,0) v8,.int .i64 v11,.int .i64 v14,.int .i64 v17,.int .i64 v20,.int .i64 v23,.int .i64 v26,.int .i64 v29]])) (K : Int → List D → Int → Int → Int → Int → Int → Int → Int → Option Ret) : ac V 233 ds (fun v0 v1 => asI .i64 v0 fun v2 => unc v1 fun v3 v4 => tk5 v3 fun v8 v11 v14 v17 v20 v23 v26 v29 => (unn v4 ((K v2 v8 v11 v14 v17 v20 v23 v26 v29)))) = K v2 v8 v11 v14 v17 v20 v23 v26 v29 := (ai h _).trans rfl
theorem dZ {ds : List D} {v5 : Int} {v8 : Bool} {v14 : List D} {v17 v20 v23 v26 v29 v32 v35 : Int} {v38 v41 v44 : List D} (h : V 182 ds = some (.tup [.int .i64 v5,.bool v8],[.op [.os (5,0) v14,.int .i64 v17,.int .i64 v20,.int .i64 v23,.int .i64 v26,.int .i64 v29,.int .i64 v32,.int .i64 v35,.rs (5,0) v38,.rs (4,0) v41,.rs (3,0) v44]])) (K : Int → Bool → List D → Int → Int → Int → Int → Int → Int → Int → List D → List D → List D → Option Ret) : ac V 182 ds (fun v0 v1 => tk4 v0 fun v5 v8 => (unc v1 fun v9 v10 => tk6 v9 fun v14 v17 v20 v23 v26 v29 v32 v35 v38 v41 v44 => (unn v10 ((K v5 v8 v14 v17 v20 v23 v26 v29 v32 v35 v38 v41 v44))))) = K v5 v8 v14 v17 v20 v23 v26 v29 v32 v35 v38 v41 v44 := (ai h _).trans rfl
theorem lt {ds v5 : List D} (h : V 183 ds = some (.tup [],[.os (1,0) v5])) (K : List D → Option Ret) : ac V 183 ds (fun v0 v1 => b6 v0 fun v2 => unn v2 (unc v1 fun v3 v4 => aM (1,0) v3 fun v5 => unn v4 ((K v5)))) = K v5 := (ai h _).trans rfl
theorem gG {ds : List D} {v2 : Int} {v8 : List D} {v11 v14 v17 v20 v23 v26 v29 : Int} {v32 v35 v38 : List D} (h : V 184 ds = some (.int .i64 v2,[.op [.os (5,0) v8,.int .i64 v11,.int .i64 v14,.int .i64 v17,.int .i64 v20,.int .i64 v23,.int .i64 v26,.int .i64 v29,.rs (5,0) v32,.rs (4,0) v35,.rs (3,0) v38]])) (K : Int → List D → Int → Int → Int → Int → Int → Int → Int → List D → List D → List D → Option Ret) : ac V 184 ds (fun v0 v1 => asI .i64 v0 fun v2 => unc v1 fun v3 v4 => tk6 v3 fun v8 v11 v14 v17 v20 v23 v26 v29 v32 v35 v38 => (unn v4 ((K v2 v8 v11 v14 v17 v20 v23 v26 v29 v32 v35 v38)))) = K v2 v8 v11 v14 v17 v20 v23 v26 v29 v32 v35 v38 := (ai h _).trans rfl
theorem d9 {ds : List D} {v5 v8 : Int} {v11 : ByteArray} {v14 v17 : Int} (h : V 241 ds = some (.agg [.int .i64 v5,.int .i64 v8,.str v11,.int .i64 v14,.int .i64 v17],[])) (K : Int → Int → ByteArray → Int → Int → Option Ret) : ac V 241 ds (fun v0 v1 => tk1 v0 fun v5 v8 v11 v14 v17 => (unn v1 ((K v5 v8 v11 v14 v17)))) = K v5 v8 v11 v14 v17 := (ai h _).trans rfl
theorem Mi {ds v5 : List D} {v8 v11 v14 v17 v20 v23 v26 : Int} (h : V 28 ds = some (.agg [.os (5,0) v5,.int .i64 v8,.int .i64 v11,.int .i64 v14,.int .i64 v17,.int .i64 v20,.int .i64 v23,.int .i64 v26],[])) (K : List D → Int → Int → Int → Int → Int → Int → Int → Option Ret) : ac V 28 ds (fun v0 v1 => tk3 v0 fun v5 v8 v11 v14 v17 v20 v23 v26 => (unn v1 ((K v5 v8 v11 v14 v17 v20 v23 v26)))) = K v5 v8 v11 v14 v17 v20 v23 v26 := (ai h _).trans rfl
theorem vy {ds : List D} {v2 : Bool} (h : V 55 ds = some (.bool v2,[])) (K : Bool → Option Ret) : ac V 55 ds (fun v0 v1 => asB v0 fun v2 => unn v1 ((K v2))) = K v2 := (ai h _).trans rfl
theorem kj {ds : List D} {v2 : Int} (h : V 188 ds = some (.int .i64 v2,[])) (K : Int → Option Ret) : ac V 188 ds (fun v0 v1 => asI .i64 v0 fun v2 => unn v1 ((K v2))) = K v2 := (ai h _).trans rfl
theorem Gx {ds : List D} {v2 : Int} (h : V 33 ds = some (.int .i64 v2,[])) (K : Int → Option Ret) : ac V 33 ds (fun v0 v1 => asI .i64 v0 fun v2 => unn v1 ((K v2))) = K v2 := (ai h _).trans rfl
theorem xW {ds : List D} {v2 : Int} (h : V 34 ds = some (.int .i64 v2,[])) (K : Int → Option Ret) : ac V 34 ds (fun v0 v1 => asI .i64 v0 fun v2 => unn v1 ((K v2))) = K v2 := (ai h _).trans rfl
theorem lH {ds v5 v8 v11 : List D} (h : V 36 ds = some (.agg [.os (5,0) v5,.os (4,0) v8,.os (3,0) v11],[])) (K : List D → List D → List D → Option Ret) : ac V 36 ds (fun v0 v1 => tk7 v0 fun v5 v8 v11 => (unn v1 ((K v5 v8 v11)))) = K v5 v8 v11 := (ai h _).trans rfl
theorem iW {ds v5 : List D} {v8 v11 v14 v17 v20 v23 v26 : Int} (h : V 37 ds = some (.agg [.os (5,0) v5,.int .i64 v8,.int .i64 v11,.int .i64 v14,.int .i64 v17,.int .i64 v20,.int .i64 v23,.int .i64 v26],[])) (K : List D → Int → Int → Int → Int → Int → Int → Int → Option Ret) : ac V 37 ds (fun v0 v1 => tk3 v0 fun v5 v8 v11 v14 v17 v20 v23 v26 => (unn v1 ((K v5 v8 v11 v14 v17 v20 v23 v26)))) = K v5 v8 v11 v14 v17 v20 v23 v26 := (ai h _).trans rfl
theorem Ig {ds v8 : List D} {v11 v14 v17 v20 v23 v26 v29 v32 : Int} (h : V 35 ds = some (.tup [.agg [.os (5,0) v8,.int .i64 v11,.int .i64 v14,.int .i64 v17,.int .i64 v20,.int .i64 v23,.int .i64 v26,.int .i64 v29],.int .i64 v32],[])) (K : List D → Int → Int → Int → Int → Int → Int → Int → Int → Option Ret) : ac V 35 ds (fun v0 v1 => b6 v0 fun v2 => unc v2 fun v3 v4 => tk3 v3 fun v8 v11 v14 v17 v20 v23 v26 v29 => (unc v4 fun v30 v31 => asI .i64 v30 fun v32 => unn v31 (unn v1 ((K v8 v11 v14 v17 v20 v23 v26 v29 v32))))) = K v8 v11 v14 v17 v20 v23 v26 v29 v32 := (ai h _).trans rfl
theorem vv {ds v8 : List D} {v11 v14 v17 v20 v23 v26 v29 v32 : Int} (h : V 22 ds = some (.tup [.agg [.os (5,0) v8,.int .i64 v11,.int .i64 v14,.int .i64 v17,.int .i64 v20,.int .i64 v23,.int .i64 v26,.int .i64 v29],.int .i64 v32],[])) (K : List D → Int → Int → Int → Int → Int → Int → Int → Int → Option Ret) : ac V 22 ds (fun v0 v1 => b6 v0 fun v2 => unc v2 fun v3 v4 => tk3 v3 fun v8 v11 v14 v17 v20 v23 v26 v29 => (unc v4 fun v30 v31 => asI .i64 v30 fun v32 => unn v31 (unn v1 ((K v8 v11 v14 v17 v20 v23 v26 v29 v32))))) = K v8 v11 v14 v17 v20 v23 v26 v29 v32 := (ai h _).trans rfl
theorem iy {ds : List D} {v2 : Bool} (h : V 38 ds = some (.bool v2,[])) (K : Bool → Option Ret) : ac V 38 ds (fun v0 v1 => asB v0 fun v2 => unn v1 ((K v2))) = K v2 := (ai h _).trans rfl
theorem Gu {ds : List D} {v2 : Bool} (h : V 39 ds = some (.bool v2,[])) (K : Bool → Option Ret) : ac V 39 ds (fun v0 v1 => asB v0 fun v2 => unn v1 ((K v2))) = K v2 := (ai h _).trans rfl
theorem zo {ds : List D} {v2 : Int} {v8 v11 v14 : List D} (h : V 40 ds = some (.int .i64 v2,[.agg [.os (5,0) v8,.os (4,0) v11,.os (3,0) v14]])) (K : Int → List D → List D → List D → Option Ret) : ac V 40 ds (fun v0 v1 => asI .i64 v0 fun v2 => unc v1 fun v3 v4 => tk7 v3 fun v8 v11 v14 => (unn v4 ((K v2 v8 v11 v14)))) = K v2 v8 v11 v14 := (ai h _).trans rfl
theorem ny {ds : List D} {v2 : Int} {v8 : List D} {v11 v14 v17 v20 v23 v26 v29 : Int} (h : V 41 ds = some (.int .i64 v2,[.agg [.os (5,0) v8,.int .i64 v11,.int .i64 v14,.int .i64 v17,.int .i64 v20,.int .i64 v23,.int .i64 v26,.int .i64 v29]])) (K : Int → List D → Int → Int → Int → Int → Int → Int → Int → Option Ret) : ac V 41 ds (fun v0 v1 => asI .i64 v0 fun v2 => unc v1 fun v3 v4 => tk3 v3 fun v8 v11 v14 v17 v20 v23 v26 v29 => (unn v4 ((K v2 v8 v11 v14 v17 v20 v23 v26 v29)))) = K v2 v8 v11 v14 v17 v20 v23 v26 v29 := (ai h _).trans rfl
theorem mQ {ds : List D} {v2 : Int} (h : V 42 ds = some (.int .i64 v2,[])) (K : Int → Option Ret) : ac V 42 ds (fun v0 v1 => asI .i64 v0 fun v2 => unn v1 ((K v2))) = K v2 := (ai h _).trans rfl
theorem zk {ds : List D} {v8 v11 : Int} {v14 : ByteArray} {v17 v20 v23 : Int} (h : V 250 ds = some (.tup [.agg [.int .i64 v8,.int .i64 v11,.str v14,.int .i64 v17,.int .i64 v20],.int .i64 v23],[])) (K : Int → Int → ByteArray → Int → Int → Int → Option Ret) : ac V 250 ds (fun v0 v1 => b6 v0 fun v2 => unc v2 fun v3 v4 => tk1 v3 fun v8 v11 v14 v17 v20 => (unc v4 fun v21 v22 => asI .i64 v21 fun v23 => unn v22 (unn v1 ((K v8 v11 v14 v17 v20 v23))))) = K v8 v11 v14 v17 v20 v23 := (ai h _).trans rfl
theorem bm {ds : List D} {v2 : Int} {v8 : List D} (h : V 158 ds = some (.int .i64 v2,[.op [.os (5,0) v8]])) (K : Int → List D → Option Ret) : ac V 158 ds (fun v0 v1 => asI .i64 v0 fun v2 => unc v1 fun v3 v4 => bz v3 fun v5 => unc v5 fun v6 v7 => aM (5,0) v6 fun v8 => unn v7 (unn v4 ((K v2 v8)))) = K v2 v8 := (ai h _).trans rfl
theorem gW {ds : List D} {v5 v8 : Int} {v11 : ByteArray} {v14 v17 : Int} (h : V 251 ds = some (.agg [.int .i64 v5,.int .i64 v8,.str v11,.int .i64 v14,.int .i64 v17],[])) (K : Int → Int → ByteArray → Int → Int → Option Ret) : ac V 251 ds (fun v0 v1 => tk1 v0 fun v5 v8 v11 v14 v17 => (unn v1 ((K v5 v8 v11 v14 v17)))) = K v5 v8 v11 v14 v17 := (ai h _).trans rfl
theorem wQ {ds v2 : List D} (h : V 252 ds = some (.os (1,0) v2,[])) (K : List D → Option Ret) : ac V 252 ds (fun v0 v1 => aM (1,0) v0 fun v2 => unn v1 ((K v2))) = K v2 := (ai h _).trans rfl
theorem qJ {ds v5 : List D} {v8 : Bool} {v14 : List D} (h : V 119 ds = some (.tup [.os (1,0) v5,.bool v8],[.op [.os (5,0) v14]])) (K : List D → Bool → List D → Option Ret) : ac V 119 ds (fun v0 v1 => tk2 v0 fun v5 v8 => (unc v1 fun v9 v10 => bz v9 fun v11 => unc v11 fun v12 v13 => aM (5,0) v12 fun v14 => unn v13 (unn v10 ((K v5 v8 v14))))) = K v5 v8 v14 := (ai h _).trans rfl
theorem ck {ds : List D} {v2 : Bool} (h : V 57 ds = some (.bool v2,[])) (K : Bool → Option Ret) : ac V 57 ds (fun v0 v1 => asB v0 fun v2 => unn v1 ((K v2))) = K v2 := (ai h _).trans rfl
theorem dg {ds v8 : List D} {v11 v14 v17 v20 v23 v26 v29 : Int} {v32 v35 v38 : List D} (h : V 185 ds = some (.tup [],[.op [.os (5,0) v8,.int .i64 v11,.int .i64 v14,.int .i64 v17,.int .i64 v20,.int .i64 v23,.int .i64 v26,.int .i64 v29,.rs (5,0) v32,.rs (4,0) v35,.rs (3,0) v38]])) (K : List D → Int → Int → Int → Int → Int → Int → Int → List D → List D → List D → Option Ret) : ac V 185 ds (fun v0 v1 => b6 v0 fun v2 => unn v2 (unc v1 fun v3 v4 => tk6 v3 fun v8 v11 v14 v17 v20 v23 v26 v29 v32 v35 v38 => (unn v4 ((K v8 v11 v14 v17 v20 v23 v26 v29 v32 v35 v38))))) = K v8 v11 v14 v17 v20 v23 v26 v29 v32 v35 v38 := (ai h _).trans rfl
theorem m9 {ds : List D} {v2 : Int} {v8 : List D} {v11 v14 v17 v20 v23 v26 v29 : Int} {v32 v35 v38 : List D} (h : V 204 ds = some (.int .i64 v2,[.op [.os (5,0) v8,.int .i64 v11,.int .i64 v14,.int .i64 v17,.int .i64 v20,.int .i64 v23,.int .i64 v26,.int .i64 v29,.rs (5,0) v32,.rs (4,0) v35,.rs (3,0) v38]])) (K : Int → List D → Int → Int → Int → Int → Int → Int → Int → List D → List D → List D → Option Ret) : ac V 204 ds (fun v0 v1 => asI .i64 v0 fun v2 => unc v1 fun v3 v4 => tk6 v3 fun v8 v11 v14 v17 v20 v23 v26 v29 v32 v35 v38 => (unn v4 ((K v2 v8 v11 v14 v17 v20 v23 v26 v29 v32 v35 v38)))) = K v2 v8 v11 v14 v17 v20 v23 v26 v29 v32 v35 v38 := (ai h _).trans rfl
theorem jy {ds : List D} {v2 : Int} {v8 : List D} {v11 v14 v17 v20 v23 v26 v29 : Int} {v32 v35 v38 : List D} (h : V 205 ds = some (.int .i64 v2,[.op [.os (5,0) v8,.int .i64 v11,.int .i64 v14,.int .i64 v17,.int .i64 v20,.int .i64 v23,.int .i64 v26,.int .i64 v29,.rs (5,0) v32,.rs (4,0) v35,.rs (3,0) v38]])) (K : Int → List D → Int → Int → Int → Int → Int → Int → Int → List D → List D → List D → Option Ret) : ac V 205 ds (fun v0 v1 => asI .i64 v0 fun v2 => unc v1 fun v3 v4 => tk6 v3 fun v8 v11 v14 v17 v20 v23 v26 v29 v32 v35 v38 => (unn v4 ((K v2 v8 v11 v14 v17 v20 v23 v26 v29 v32 v35 v38)))) = K v2 v8 v11 v14 v17 v20 v23 v26 v29 v32 v35 v38 := (ai h _).trans rfl
theorem lT {ds : List D} {v2 : Int} {v8 : List D} {v11 v14 v17 v20 v23 v26 v29 : Int} {v32 v35 v38 : List D} (h : V 206 ds = some (.int .i64 v2,[.op [.os (5,0) v8,.int .i64 v11,.int .i64 v14,.int .i64 v17,.int .i64 v20,.int .i64 v23,.int .i64 v26,.int .i64 v29,.rs (5,0) v32,.rs (4,0) v35,.rs (3,0) v38]])) (K : Int → List D → Int → Int → Int → Int → Int → Int → Int → List D → List D → List D → Option Ret) : ac V 206 ds (fun v0 v1 => asI .i64 v0 fun v2 => unc v1 fun v3 v4 => tk6 v3 fun v8 v11 v14 v17 v20 v23 v26 v29 v32 v35 v38 => (unn v4 ((K v2 v8 v11 v14 v17 v20 v23 v26 v29 v32 v35 v38)))) = K v2 v8 v11 v14 v17 v20 v23 v26 v29 v32 v35 v38 := (ai h _).trans rfl
theorem cj {ds : List D} {v2 : Int} {v8 : List D} (h : V 157 ds = some (.int .i64 v2,[.op [.os (5,0) v8]])) (K : Int → List D → Option Ret) : ac V 157 ds (fun v0 v1 => asI .i64 v0 fun v2 => unc v1 fun v3 v4 => bz v3 fun v5 => unc v5 fun v6 v7 => aM (5,0) v6 fun v8 => unn v7 (unn v4 ((K v2 v8)))) = K v2 v8 := (ai h _).trans rfl
theorem kh {ds : List D} {v2 : Int} {v8 : List D} (h : V 222 ds = some (.int .i64 v2,[.op [.os (5,0) v8]])) (K : Int → List D → Option Ret) : ac V 222 ds (fun v0 v1 => asI .i64 v0 fun v2 => unc v1 fun v3 v4 => bz v3 fun v5 => unc v5 fun v6 v7 => aM (5,0) v6 fun v8 => unn v7 (unn v4 ((K v2 v8)))) = K v2 v8 := (ai h _).trans rfl
theorem j8 {ds : List D} {v2 : Int} {v8 : List D} (h : V 94 ds = some (.int .i64 v2,[.op [.os (5,0) v8]])) (K : Int → List D → Option Ret) : ac V 94 ds (fun v0 v1 => asI .i64 v0 fun v2 => unc v1 fun v3 v4 => bz v3 fun v5 => unc v5 fun v6 v7 => aM (5,0) v6 fun v8 => unn v7 (unn v4 ((K v2 v8)))) = K v2 v8 := (ai h _).trans rfl
theorem xz {ds : List D} {v2 : Int} (h : V 116 ds = some (.int .i64 v2,[])) (K : Int → Option Ret) : ac V 116 ds (fun v0 v1 => asI .i64 v0 fun v2 => unn v1 ((K v2))) = K v2 := (ai h _).trans rfl
theorem qk {ds : List D} {v2 : Bool} (h : V 15 ds = some (.bool v2,[])) (K : Bool → Option Ret) : ac V 15 ds (fun v0 v1 => asB v0 fun v2 => unn v1 ((K v2))) = K v2 := (ai h _).trans rfl
theorem tw {ds v2 : List D} (h : V 149 ds = some (.os (1,0) v2,[])) (K : List D → Option Ret) : ac V 149 ds (fun v0 v1 => aM (1,0) v0 fun v2 => unn v1 ((K v2))) = K v2 := (ai h _).trans rfl
theorem vV {ds v2 v8 : List D} (h : V 148 ds = some (.os (1,0) v2,[.op [.os (5,0) v8]])) (K : List D → List D → Option Ret) : ac V 148 ds (fun v0 v1 => aM (1,0) v0 fun v2 => unc v1 fun v3 v4 => bz v3 fun v5 => unc v5 fun v6 v7 => aM (5,0) v6 fun v8 => unn v7 (unn v4 ((K v2 v8)))) = K v2 v8 := (ai h _).trans rfl
theorem lv {ds : List D} {v2 : Int} (h : V 221 ds = some (.int .i64 v2,[])) (K : Int → Option Ret) : ac V 221 ds (fun v0 v1 => asI .i64 v0 fun v2 => unn v1 ((K v2))) = K v2 := (ai h _).trans rfl
theorem D0 {ds v2 : List D} (h : V 239 ds = some (.os (1,0) v2,[])) (K : List D → Option Ret) : ac V 239 ds (fun v0 v1 => aM (1,0) v0 fun v2 => unn v1 ((K v2))) = K v2 := (ai h _).trans rfl
theorem Jr {ds : List D} {v2 : Int} (h : V 129 ds = some (.int .i64 v2,[])) (K : Int → Option Ret) : ac V 129 ds (fun v0 v1 => asI .i64 v0 fun v2 => unn v1 ((K v2))) = K v2 := (ai h _).trans rfl
theorem mj {ds v5 : List D} {v8 v11 v14 v17 v20 v23 v26 : Int} (h : V 85 ds = some (.agg [.os (5,0) v5,.int .i64 v8,.int .i64 v11,.int .i64 v14,.int .i64 v17,.int .i64 v20,.int .i64 v23,.int .i64 v26],[])) (K : List D → Int → Int → Int → Int → Int → Int → Int → Option Ret) : ac V 85 ds (fun v0 v1 => tk3 v0 fun v5 v8 v11 v14 v17 v20 v23 v26 => (unn v1 ((K v5 v8 v11 v14 v17 v20 v23 v26)))) = K v5 v8 v11 v14 v17 v20 v23 v26 := (ai h _).trans rfl
theorem Fa {ds : List D} {v2 : Int} {v8 : List D} (h : V 96 ds = some (.int .i64 v2,[.op [.os (5,0) v8]])) (K : Int → List D → Option Ret) : ac V 96 ds (fun v0 v1 => asI .i64 v0 fun v2 => unc v1 fun v3 v4 => bz v3 fun v5 => unc v5 fun v6 v7 => aM (5,0) v6 fun v8 => unn v7 (unn v4 ((K v2 v8)))) = K v2 v8 := (ai h _).trans rfl
theorem ed {ds v8 : List D} {v11 v14 v17 v20 v23 v26 v29 : Int} (h : V 95 ds = some (.tup [],[.op [.os (5,0) v8,.int .i64 v11,.int .i64 v14,.int .i64 v17,.int .i64 v20,.int .i64 v23,.int .i64 v26,.int .i64 v29]])) (K : List D → Int → Int → Int → Int → Int → Int → Int → Option Ret) : ac V 95 ds (fun v0 v1 => b6 v0 fun v2 => unn v2 (unc v1 fun v3 v4 => tk5 v3 fun v8 v11 v14 v17 v20 v23 v26 v29 => (unn v4 ((K v8 v11 v14 v17 v20 v23 v26 v29))))) = K v8 v11 v14 v17 v20 v23 v26 v29 := (ai h _).trans rfl
theorem qn {ds v5 : List D} {v8 v11 v14 v17 v20 v23 v26 : Int} (h : V 97 ds = some (.agg [.os (5,0) v5,.int .i64 v8,.int .i64 v11,.int .i64 v14,.int .i64 v17,.int .i64 v20,.int .i64 v23,.int .i64 v26],[])) (K : List D → Int → Int → Int → Int → Int → Int → Int → Option Ret) : ac V 97 ds (fun v0 v1 => tk3 v0 fun v5 v8 v11 v14 v17 v20 v23 v26 => (unn v1 ((K v5 v8 v11 v14 v17 v20 v23 v26)))) = K v5 v8 v11 v14 v17 v20 v23 v26 := (ai h _).trans rfl
theorem MU {ds v5 : List D} {v8 v11 v14 v17 v20 v23 v26 : Int} (h : V 17 ds = some (.agg [.os (5,0) v5,.int .i64 v8,.int .i64 v11,.int .i64 v14,.int .i64 v17,.int .i64 v20,.int .i64 v23,.int .i64 v26],[])) (K : List D → Int → Int → Int → Int → Int → Int → Int → Option Ret) : ac V 17 ds (fun v0 v1 => tk3 v0 fun v5 v8 v11 v14 v17 v20 v23 v26 => (unn v1 ((K v5 v8 v11 v14 v17 v20 v23 v26)))) = K v5 v8 v11 v14 v17 v20 v23 v26 := (ai h _).trans rfl
theorem pE {ds : List D} {v2 : Bool} (h : V 14 ds = some (.bool v2,[])) (K : Bool → Option Ret) : ac V 14 ds (fun v0 v1 => asB v0 fun v2 => unn v1 ((K v2))) = K v2 := (ai h _).trans rfl
theorem ge {ds v5 : List D} {v8 v11 v14 v17 v20 v23 v26 : Int} (h : V 63 ds = some (.agg [.os (5,0) v5,.int .i64 v8,.int .i64 v11,.int .i64 v14,.int .i64 v17,.int .i64 v20,.int .i64 v23,.int .i64 v26],[])) (K : List D → Int → Int → Int → Int → Int → Int → Int → Option Ret) : ac V 63 ds (fun v0 v1 => tk3 v0 fun v5 v8 v11 v14 v17 v20 v23 v26 => (unn v1 ((K v5 v8 v11 v14 v17 v20 v23 v26)))) = K v5 v8 v11 v14 v17 v20 v23 v26 := (ai h _).trans rfl
theorem zQ {ds v5 : List D} {v8 v11 v14 v17 v20 v23 v26 : Int} (h : V 64 ds = some (.agg [.os (5,0) v5,.int .i64 v8,.int .i64 v11,.int .i64 v14,.int .i64 v17,.int .i64 v20,.int .i64 v23,.int .i64 v26],[])) (K : List D → Int → Int → Int → Int → Int → Int → Int → Option Ret) : ac V 64 ds (fun v0 v1 => tk3 v0 fun v5 v8 v11 v14 v17 v20 v23 v26 => (unn v1 ((K v5 v8 v11 v14 v17 v20 v23 v26)))) = K v5 v8 v11 v14 v17 v20 v23 v26 := (ai h _).trans rfl
theorem IR {ds v5 : List D} {v8 v11 v14 v17 v20 v23 v26 : Int} (h : V 73 ds = some (.agg [.os (5,0) v5,.int .i64 v8,.int .i64 v11,.int .i64 v14,.int .i64 v17,.int .i64 v20,.int .i64 v23,.int .i64 v26],[])) (K : List D → Int → Int → Int → Int → Int → Int → Int → Option Ret) : ac V 73 ds (fun v0 v1 => tk3 v0 fun v5 v8 v11 v14 v17 v20 v23 v26 => (unn v1 ((K v5 v8 v11 v14 v17 v20 v23 v26)))) = K v5 v8 v11 v14 v17 v20 v23 v26 := (ai h _).trans rfl
theorem ga {ds : List D} {v5 : Int} {v8 : Bool} {v14 : List D} {v17 v20 v23 v26 v29 v32 v35 : Int} {v38 v41 v44 : List D} (h : V 207 ds = some (.tup [.int .i64 v5,.bool v8],[.op [.os (5,0) v14,.int .i64 v17,.int .i64 v20,.int .i64 v23,.int .i64 v26,.int .i64 v29,.int .i64 v32,.int .i64 v35,.rs (5,0) v38,.rs (4,0) v41,.rs (3,0) v44]])) (K : Int → Bool → List D → Int → Int → Int → Int → Int → Int → Int → List D → List D → List D → Option Ret) : ac V 207 ds (fun v0 v1 => tk4 v0 fun v5 v8 => (unc v1 fun v9 v10 => tk6 v9 fun v14 v17 v20 v23 v26 v29 v32 v35 v38 v41 v44 => (unn v10 ((K v5 v8 v14 v17 v20 v23 v26 v29 v32 v35 v38 v41 v44))))) = K v5 v8 v14 v17 v20 v23 v26 v29 v32 v35 v38 v41 v44 := (ai h _).trans rfl
theorem vt {ds v5 : List D} {v8 v11 v14 v17 v20 v23 v26 : Int} (h : V 153 ds = some (.agg [.os (5,0) v5,.int .i64 v8,.int .i64 v11,.int .i64 v14,.int .i64 v17,.int .i64 v20,.int .i64 v23,.int .i64 v26],[])) (K : List D → Int → Int → Int → Int → Int → Int → Int → Option Ret) : ac V 153 ds (fun v0 v1 => tk3 v0 fun v5 v8 v11 v14 v17 v20 v23 v26 => (unn v1 ((K v5 v8 v11 v14 v17 v20 v23 v26)))) = K v5 v8 v11 v14 v17 v20 v23 v26 := (ai h _).trans rfl
theorem Gw {ds v5 : List D} {v8 v11 v14 v17 v20 v23 v26 : Int} (h : V 162 ds = some (.agg [.os (5,0) v5,.int .i64 v8,.int .i64 v11,.int .i64 v14,.int .i64 v17,.int .i64 v20,.int .i64 v23,.int .i64 v26],[])) (K : List D → Int → Int → Int → Int → Int → Int → Int → Option Ret) : ac V 162 ds (fun v0 v1 => tk3 v0 fun v5 v8 v11 v14 v17 v20 v23 v26 => (unn v1 ((K v5 v8 v11 v14 v17 v20 v23 v26)))) = K v5 v8 v11 v14 v17 v20 v23 v26 := (ai h _).trans rfl
theorem yQ {ds v2 : List D} (h : V 176 ds = some (.os (1,0) v2,[])) (K : List D → Option Ret) : ac V 176 ds (fun v0 v1 => aM (1,0) v0 fun v2 => unn v1 ((K v2))) = K v2 := (ai h _).trans rfl
theorem yi {ds : List D} {v2 : Bool} (h : V 136 ds = some (.bool v2,[])) (K : Bool → Option Ret) : ac V 136 ds (fun v0 v1 => asB v0 fun v2 => unn v1 ((K v2))) = K v2 := (ai h _).trans rfl
theorem jT {ds : List D} {v2 : Int} (h : V 225 ds = some (.int .i64 v2,[])) (K : Int → Option Ret) : ac V 225 ds (fun v0 v1 => asI .i64 v0 fun v2 => unn v1 ((K v2))) = K v2 := (ai h _).trans rfl
theorem G9 {ds : List D} {v2 : Int} {v8 : List D} {v11 v14 v17 v20 v23 v26 v29 : Int} (h : V 240 ds = some (.int .i64 v2,[.op [.os (5,0) v8,.int .i64 v11,.int .i64 v14,.int .i64 v17,.int .i64 v20,.int .i64 v23,.int .i64 v26,.int .i64 v29]])) (K : Int → List D → Int → Int → Int → Int → Int → Int → Int → Option Ret) : ac V 240 ds (fun v0 v1 => asI .i64 v0 fun v2 => unc v1 fun v3 v4 => tk5 v3 fun v8 v11 v14 v17 v20 v23 v26 v29 => (unn v4 ((K v2 v8 v11 v14 v17 v20 v23 v26 v29)))) = K v2 v8 v11 v14 v17 v20 v23 v26 v29 := (ai h _).trans rfl
theorem gi {ds : List D} {v5 : Int} {v8 : List D} {v11 : Bool} (h : V 234 ds = some (.tup [.int .i64 v5,.os (1,0) v8,.bool v11],[])) (K : Int → List D → Bool → Option Ret) : ac V 234 ds (fun v0 v1 => tk8 v0 fun v5 v8 v11 => (unn v1 ((K v5 v8 v11)))) = K v5 v8 v11 := (ai h _).trans rfl
theorem zH {ds : List D} {v2 : Int} (h : V 223 ds = some (.int .i64 v2,[])) (K : Int → Option Ret) : ac V 223 ds (fun v0 v1 => asI .i64 v0 fun v2 => unn v1 ((K v2))) = K v2 := (ai h _).trans rfl
theorem tQ {ds : List D} {v5 v8 : Int} {v14 : List D} (h : V 224 ds = some (.tup [.int .i64 v5,.int .i64 v8],[.op [.os (5,0) v14]])) (K : Int → Int → List D → Option Ret) : ac V 224 ds (fun v0 v1 => tk9 v0 fun v5 v8 => (unc v1 fun v9 v10 => bz v9 fun v11 => unc v11 fun v12 v13 => aM (5,0) v12 fun v14 => unn v13 (unn v10 ((K v5 v8 v14))))) = K v5 v8 v14 := (ai h _).trans rfl
theorem JZ {ds : List D} {v2 : Int} (h : V 125 ds = some (.int .i64 v2,[])) (K : Int → Option Ret) : ac V 125 ds (fun v0 v1 => asI .i64 v0 fun v2 => unn v1 ((K v2))) = K v2 := (ai h _).trans rfl
theorem Fp {ds : List D} {v2 : Int} (h : V 208 ds = some (.int .i64 v2,[])) (K : Int → Option Ret) : ac V 208 ds (fun v0 v1 => asI .i64 v0 fun v2 => unn v1 ((K v2))) = K v2 := (ai h _).trans rfl
theorem Me {ds v5 : List D} {v8 v11 v14 v17 v20 v23 v26 : Int} (h : V 89 ds = some (.agg [.os (5,0) v5,.int .i64 v8,.int .i64 v11,.int .i64 v14,.int .i64 v17,.int .i64 v20,.int .i64 v23,.int .i64 v26],[])) (K : List D → Int → Int → Int → Int → Int → Int → Int → Option Ret) : ac V 89 ds (fun v0 v1 => tk3 v0 fun v5 v8 v11 v14 v17 v20 v23 v26 => (unn v1 ((K v5 v8 v11 v14 v17 v20 v23 v26)))) = K v5 v8 v11 v14 v17 v20 v23 v26 := (ai h _).trans rfl
theorem KB {ds v2 : List D} (h : V 189 ds = some (.os (1,0) v2,[])) (K : List D → Option Ret) : ac V 189 ds (fun v0 v1 => aM (1,0) v0 fun v2 => unn v1 ((K v2))) = K v2 := (ai h _).trans rfl
theorem jf {ds : List D} {v2 : Bool} (h : V 135 ds = some (.bool v2,[])) (K : Bool → Option Ret) : ac V 135 ds (fun v0 v1 => asB v0 fun v2 => unn v1 ((K v2))) = K v2 := (ai h _).trans rfl
theorem kz {ds : List D} {v2 : Int} {v8 : List D} {v11 v14 v17 v20 v23 v26 v29 : Int} {v32 v35 v38 : List D} (h : V 132 ds = some (.int .i64 v2,[.op [.os (5,0) v8,.int .i64 v11,.int .i64 v14,.int .i64 v17,.int .i64 v20,.int .i64 v23,.int .i64 v26,.int .i64 v29,.rs (5,0) v32,.rs (4,0) v35,.rs (3,0) v38]])) (K : Int → List D → Int → Int → Int → Int → Int → Int → Int → List D → List D → List D → Option Ret) : ac V 132 ds (fun v0 v1 => asI .i64 v0 fun v2 => unc v1 fun v3 v4 => tk6 v3 fun v8 v11 v14 v17 v20 v23 v26 v29 v32 v35 v38 => (unn v4 ((K v2 v8 v11 v14 v17 v20 v23 v26 v29 v32 v35 v38)))) = K v2 v8 v11 v14 v17 v20 v23 v26 v29 v32 v35 v38 := (ai h _).trans rfl
theorem gY {ds v5 : List D} {v8 v11 v14 v17 v20 v23 v26 : Int} (h : V 92 ds = some (.agg [.os (5,0) v5,.int .i64 v8,.int .i64 v11,.int .i64 v14,.int .i64 v17,.int .i64 v20,.int .i64 v23,.int .i64 v26],[])) (K : List D → Int → Int → Int → Int → Int → Int → Int → Option Ret) : ac V 92 ds (fun v0 v1 => tk3 v0 fun v5 v8 v11 v14 v17 v20 v23 v26 => (unn v1 ((K v5 v8 v11 v14 v17 v20 v23 v26)))) = K v5 v8 v11 v14 v17 v20 v23 v26 := (ai h _).trans rfl
theorem pb {ds : List D} {v2 : Int} {v8 : List D} {v11 v14 v17 v20 v23 v26 v29 : Int} {v32 v35 v38 : List D} (h : V 133 ds = some (.int .i64 v2,[.op [.os (5,0) v8,.int .i64 v11,.int .i64 v14,.int .i64 v17,.int .i64 v20,.int .i64 v23,.int .i64 v26,.int .i64 v29,.rs (5,0) v32,.rs (4,0) v35,.rs (3,0) v38]])) (K : Int → List D → Int → Int → Int → Int → Int → Int → Int → List D → List D → List D → Option Ret) : ac V 133 ds (fun v0 v1 => asI .i64 v0 fun v2 => unc v1 fun v3 v4 => tk6 v3 fun v8 v11 v14 v17 v20 v23 v26 v29 v32 v35 v38 => (unn v4 ((K v2 v8 v11 v14 v17 v20 v23 v26 v29 v32 v35 v38)))) = K v2 v8 v11 v14 v17 v20 v23 v26 v29 v32 v35 v38 := (ai h _).trans rfl
theorem nh {ds : List D} {v2 : Int} {v8 : List D} {v11 v14 v17 v20 v23 v26 v29 : Int} {v32 v35 v38 : List D} (h : V 134 ds = some (.int .i64 v2,[.op [.os (5,0) v8,.int .i64 v11,.int .i64 v14,.int .i64 v17,.int .i64 v20,.int .i64 v23,.int .i64 v26,.int .i64 v29,.rs (5,0) v32,.rs (4,0) v35,.rs (3,0) v38]])) (K : Int → List D → Int → Int → Int → Int → Int → Int → Int → List D → List D → List D → Option Ret) : ac V 134 ds (fun v0 v1 => asI .i64 v0 fun v2 => unc v1 fun v3 v4 => tk6 v3 fun v8 v11 v14 v17 v20 v23 v26 v29 v32 v35 v38 => (unn v4 ((K v2 v8 v11 v14 v17 v20 v23 v26 v29 v32 v35 v38)))) = K v2 v8 v11 v14 v17 v20 v23 v26 v29 v32 v35 v38 := (ai h _).trans rfl
theorem LV {ds : List D} {v2 : Bool} (h : V 242 ds = some (.bool v2,[])) (K : Bool → Option Ret) : ac V 242 ds (fun v0 v1 => asB v0 fun v2 => unn v1 ((K v2))) = K v2 := (ai h _).trans rfl
theorem BW {ds : List D} {v5 v8 : Int} {v11 : ByteArray} {v14 v17 : Int} (h : V 243 ds = some (.agg [.int .i64 v5,.int .i64 v8,.str v11,.int .i64 v14,.int .i64 v17],[])) (K : Int → Int → ByteArray → Int → Int → Option Ret) : ac V 243 ds (fun v0 v1 => tk1 v0 fun v5 v8 v11 v14 v17 => (unn v1 ((K v5 v8 v11 v14 v17)))) = K v5 v8 v11 v14 v17 := (ai h _).trans rfl
theorem y6 {ds : List D} {v5 v8 : Int} {v11 : ByteArray} {v14 v17 : Int} (h : V 235 ds = some (.agg [.int .i64 v5,.int .i64 v8,.str v11,.int .i64 v14,.int .i64 v17],[])) (K : Int → Int → ByteArray → Int → Int → Option Ret) : ac V 235 ds (fun v0 v1 => tk1 v0 fun v5 v8 v11 v14 v17 => (unn v1 ((K v5 v8 v11 v14 v17)))) = K v5 v8 v11 v14 v17 := (ai h _).trans rfl
theorem Kh {ds v8 : List D} {v11 v14 v17 v20 v23 v26 v29 v32 : Int} (h : V 101 ds = some (.tup [.agg [.os (5,0) v8,.int .i64 v11,.int .i64 v14,.int .i64 v17,.int .i64 v20,.int .i64 v23,.int .i64 v26,.int .i64 v29],.int .i64 v32],[])) (K : List D → Int → Int → Int → Int → Int → Int → Int → Int → Option Ret) : ac V 101 ds (fun v0 v1 => b6 v0 fun v2 => unc v2 fun v3 v4 => tk3 v3 fun v8 v11 v14 v17 v20 v23 v26 v29 => (unc v4 fun v30 v31 => asI .i64 v30 fun v32 => unn v31 (unn v1 ((K v8 v11 v14 v17 v20 v23 v26 v29 v32))))) = K v8 v11 v14 v17 v20 v23 v26 v29 v32 := (ai h _).trans rfl
theorem uQ {ds : List D} {v2 : Int} {v8 : List D} (h : V 93 ds = some (.int .i64 v2,[.op [.os (5,0) v8]])) (K : Int → List D → Option Ret) : ac V 93 ds (fun v0 v1 => asI .i64 v0 fun v2 => unc v1 fun v3 v4 => bz v3 fun v5 => unc v5 fun v6 v7 => aM (5,0) v6 fun v8 => unn v7 (unn v4 ((K v2 v8)))) = K v2 v8 := (ai h _).trans rfl
theorem j6 {ds : List D} {v2 : Int} {v8 : List D} {v11 v14 v17 v20 v23 v26 v29 : Int} {v32 v35 v38 : List D} (h : V 186 ds = some (.int .i64 v2,[.op [.os (5,0) v8,.int .i64 v11,.int .i64 v14,.int .i64 v17,.int .i64 v20,.int .i64 v23,.int .i64 v26,.int .i64 v29,.rs (5,0) v32,.rs (4,0) v35,.rs (3,0) v38]])) (K : Int → List D → Int → Int → Int → Int → Int → Int → Int → List D → List D → List D → Option Ret) : ac V 186 ds (fun v0 v1 => asI .i64 v0 fun v2 => unc v1 fun v3 v4 => tk6 v3 fun v8 v11 v14 v17 v20 v23 v26 v29 v32 v35 v38 => (unn v4 ((K v2 v8 v11 v14 v17 v20 v23 v26 v29 v32 v35 v38)))) = K v2 v8 v11 v14 v17 v20 v23 v26 v29 v32 v35 v38 := (ai h _).trans rfl
theorem lU {ds : List D} {v2 : Int} {v8 : List D} {v11 v14 v17 v20 v23 v26 v29 : Int} {v32 v35 v38 : List D} (h : V 187 ds = some (.int .i64 v2,[.op [.os (5,0) v8,.int .i64 v11,.int .i64 v14,.int .i64 v17,.int .i64 v20,.int .i64 v23,.int .i64 v26,.int .i64 v29,.rs (5,0) v32,.rs (4,0) v35,.rs (3,0) v38]])) (K : Int → List D → Int → Int → Int → Int → Int → Int → Int → List D → List D → List D → Option Ret) : ac V 187 ds (fun v0 v1 => asI .i64 v0 fun v2 => unc v1 fun v3 v4 => tk6 v3 fun v8 v11 v14 v17 v20 v23 v26 v29 v32 v35 v38 => (unn v4 ((K v2 v8 v11 v14 v17 v20 v23 v26 v29 v32 v35 v38)))) = K v2 v8 v11 v14 v17 v20 v23 v26 v29 v32 v35 v38 := (ai h _).trans rfl
theorem un {ds : List D} {v2 : Int} {v8 : List D} {v11 v14 v17 v20 v23 v26 v29 : Int} (h : V 196 ds = some (.int .i64 v2,[.op [.os (5,0) v8,.int .i64 v11,.int .i64 v14,.int .i64 v17,.int .i64 v20,.int .i64 v23,.int .i64 v26,.int .i64 v29]])) (K : Int → List D → Int → Int → Int → Int → Int → Int → Int → Option Ret) : ac V 196 ds (fun v0 v1 => asI .i64 v0 fun v2 => unc v1 fun v3 v4 => tk5 v3 fun v8 v11 v14 v17 v20 v23 v26 v29 => (unn v4 ((K v2 v8 v11 v14 v17 v20 v23 v26 v29)))) = K v2 v8 v11 v14 v17 v20 v23 v26 v29 := (ai h _).trans rfl
theorem Cx {ds v2 : List D} (h : V 247 ds = some (.os (1,0) v2,[])) (K : List D → Option Ret) : ac V 247 ds (fun v0 v1 => aM (1,0) v0 fun v2 => unn v1 ((K v2))) = K v2 := (ai h _).trans rfl
theorem Fk {ds : List D} {v2 : Bool} (h : V 126 ds = some (.bool v2,[])) (K : Bool → Option Ret) : ac V 126 ds (fun v0 v1 => asB v0 fun v2 => unn v1 ((K v2))) = K v2 := (ai h _).trans rfl
theorem jW {ds : List D} {v2 : Bool} (h : V 203 ds = some (.bool v2,[])) (K : Bool → Option Ret) : ac V 203 ds (fun v0 v1 => asB v0 fun v2 => unn v1 ((K v2))) = K v2 := (ai h _).trans rfl
theorem pH {ds v2 v8 : List D} (h : V 137 ds = some (.os (1,0) v2,[.op [.os (5,0) v8]])) (K : List D → List D → Option Ret) : ac V 137 ds (fun v0 v1 => aM (1,0) v0 fun v2 => unc v1 fun v3 v4 => bz v3 fun v5 => unc v5 fun v6 v7 => aM (5,0) v6 fun v8 => unn v7 (unn v4 ((K v2 v8)))) = K v2 v8 := (ai h _).trans rfl
theorem nY {ds : List D} {v5 : Int} {v8 : Bool} (h : V 216 ds = some (.tup [.int .i64 v5,.bool v8],[])) (K : Int → Bool → Option Ret) : ac V 216 ds (fun v0 v1 => tk4 v0 fun v5 v8 => (unn v1 ((K v5 v8)))) = K v5 v8 := (ai h _).trans rfl
theorem rv {ds : List D} {v2 : Int} {v8 : List D} {v11 v14 v17 v20 v23 v26 v29 : Int} (h : V 217 ds = some (.int .i64 v2,[.op [.os (5,0) v8,.int .i64 v11,.int .i64 v14,.int .i64 v17,.int .i64 v20,.int .i64 v23,.int .i64 v26,.int .i64 v29]])) (K : Int → List D → Int → Int → Int → Int → Int → Int → Int → Option Ret) : ac V 217 ds (fun v0 v1 => asI .i64 v0 fun v2 => unc v1 fun v3 v4 => tk5 v3 fun v8 v11 v14 v17 v20 v23 v26 v29 => (unn v4 ((K v2 v8 v11 v14 v17 v20 v23 v26 v29)))) = K v2 v8 v11 v14 v17 v20 v23 v26 v29 := (ai h _).trans rfl
theorem Ee {ds : List D} {v2 : Int} {v8 : List D} {v11 v14 v17 v20 v23 v26 v29 : Int} (h : V 219 ds = some (.int .i64 v2,[.op [.os (5,0) v8,.int .i64 v11,.int .i64 v14,.int .i64 v17,.int .i64 v20,.int .i64 v23,.int .i64 v26,.int .i64 v29]])) (K : Int → List D → Int → Int → Int → Int → Int → Int → Int → Option Ret) : ac V 219 ds (fun v0 v1 => asI .i64 v0 fun v2 => unc v1 fun v3 v4 => tk5 v3 fun v8 v11 v14 v17 v20 v23 v26 v29 => (unn v4 ((K v2 v8 v11 v14 v17 v20 v23 v26 v29)))) = K v2 v8 v11 v14 v17 v20 v23 v26 v29 := (ai h _).trans rfl
theorem Iz {ds : List D} {v2 : Int} {v8 : List D} {v11 v14 v17 v20 v23 v26 v29 : Int} (h : V 220 ds = some (.int .i64 v2,[.op [.os (5,0) v8,.int .i64 v11,.int .i64 v14,.int .i64 v17,.int .i64 v20,.int .i64 v23,.int .i64 v26,.int .i64 v29]])) (K : Int → List D → Int → Int → Int → Int → Int → Int → Int → Option Ret) : ac V 220 ds (fun v0 v1 => asI .i64 v0 fun v2 => unc v1 fun v3 v4 => tk5 v3 fun v8 v11 v14 v17 v20 v23 v26 v29 => (unn v4 ((K v2 v8 v11 v14 v17 v20 v23 v26 v29)))) = K v2 v8 v11 v14 v17 v20 v23 v26 v29 := (ai h _).trans rfl
theorem zJ {ds : List D} {v2 : Int} (h : V 245 ds = some (.int .i64 v2,[])) (K : Int → Option Ret) : ac V 245 ds (fun v0 v1 => asI .i64 v0 fun v2 => unn v1 ((K v2))) = K v2 := (ai h _).trans rfl
theorem Aa {ds : List D} {v5 v8 : Int} {v14 : List D} (h : V 246 ds = some (.tup [.int .i64 v5,.int .i64 v8],[.op [.os (5,0) v14]])) (K : Int → Int → List D → Option Ret) : ac V 246 ds (fun v0 v1 => tk9 v0 fun v5 v8 => (unc v1 fun v9 v10 => bz v9 fun v11 => unc v11 fun v12 v13 => aM (5,0) v12 fun v14 => unn v13 (unn v10 ((K v5 v8 v14))))) = K v5 v8 v14 := (ai h _).trans rfl
theorem GJ {ds : List D} {v2 : Int} (h : V 232 ds = some (.int .i64 v2,[])) (K : Int → Option Ret) : ac V 232 ds (fun v0 v1 => asI .i64 v0 fun v2 => unn v1 ((K v2))) = K v2 := (ai h _).trans rfl
theorem IB {ds : List D} {v2 : Bool} (h : V 130 ds = some (.bool v2,[])) (K : Bool → Option Ret) : ac V 130 ds (fun v0 v1 => asB v0 fun v2 => unn v1 ((K v2))) = K v2 := (ai h _).trans rfl
theorem wq {ds : List D} {v2 : Bool} (h : V 177 ds = some (.bool v2,[])) (K : Bool → Option Ret) : ac V 177 ds (fun v0 v1 => asB v0 fun v2 => unn v1 ((K v2))) = K v2 := (ai h _).trans rfl
end Go.Eng
/-! nodes and pools: when they are right,on both sides -/
namespace Go.Eng
open Go.Proofs Go.Proofs.Tryz

theorem bA (b c : Bool) (l : List D) : br b (some (D.bool c,l)) (some (D.bool false,l)) = some (D.bool (b && c),l) := by cases b <;> rfl
theorem QN (b c : Bool) (l : List D) : br b (some (D.bool true,l)) (some (D.bool c,l)) = some (D.bool (b || c),l) := by cases b <;> rfl
theorem qW (b c : Bool) (l : List D) : br b (some (D.bool false,l)) (some (D.bool c,l)) = some (D.bool (!b && c),l) := by cases b <;> rfl

structure Nd where
  kind : Int
  n : Int
  s : ByteArray
  a : Int
  b : Int
noncomputable abbrev eN (x : Nd) : D := .agg [.int .i64 x.kind,.int .i64 x.n,.str x.s,.int .i64 x.a,.int .i64 x.b]
section
variable {R : Type}
theorem o5 (x : Nd) (K : Int → Int → ByteArray → Int → Int → Option R) : tk1 (eN x) (fun n4 n7 s10 n13 n16 => (K n4 n7 s10 n13 n16)) = K x.kind x.n x.s x.a x.b := rfl
theorem Rq (x : Nd) (K : Int → Option R) : asAgg (eN x) (fun l => am l 0 fun y => asI .i64 y fun n => K n) = K x.kind := rfl
theorem Rj (x : Nd) (K : Int → Option R) : asAgg (eN x) (fun l => am l 1 fun y => asI .i64 y fun n => K n) = K x.n := rfl
theorem Rc (x : Nd) (K : Int → Option R) : asAgg (eN x) (fun l => am l 3 fun y => asI .i64 y fun n => K n) = K x.a := rfl
theorem Rl (x : Nd) (K : Int → Option R) : asAgg (eN x) (fun l => am l 4 fun y => asI .i64 y fun n => K n) = K x.b := rfl
end

theorem bH (n lo hi : Int) : V 58 [.int .i64 n,.int .i64 lo,.int .i64 hi] = some (.bool (wi n lo hi),[]) := (Dn n lo hi).trans Ae
theorem d7 (n lo hi : Int) : V 62 [.int .i64 n,.int .i64 lo,.int .i64 hi] = some (.bool (wi n lo hi),[]) := (Kc n lo hi).trans Ae
theorem K8 (a b : Int) : V 116 [.int .i64 a,.int .i64 b] = some (.int .i64 (mnI a b),[]) := by
  rw [IU]
  unfold mnI
  by_cases h : a < b
  · rw [ap (decide_eq_true h),if_neg (by omega)]
  · rw [ah (decide_eq_false h)]
    by_cases h2 : b < a
    · rw [if_pos h2]
    · rw [if_neg h2,show b = a by omega]

noncomputable def nmB (c : Int) : Bool := (decide (c ≥ 97) && decide (c ≤ 122)) || [43,45,42,60,61,63,33,47].any fun x => c == x
theorem yk {l : List Int} (hl : l.length < 4611686018427387904) (c : Int) : ∀ (k i : Nat),i + k = l.length → cY (l.map (D.int .u8)) c (ni (l.map (D.int .u8)).length) (i : Int) = some (.int .i64 (fa (fun x => c == x) l i),[])
  | 0,i,hi => by
    rw [fc,ah (by rw [List.length_map]; exact fJ (by omega)),gU (by omega)]
  | k + 1,i,hi => by
    obtain ⟨x,hx⟩ := aA (l := l) (i := i) (by omega)
    have ih := yk hl c k (i + 1) (by omega)
    rw [fc,ap (by rw [List.length_map]; exact ez (by omega)),av (by rw [List.length_map]; exact bG (by omega)),Int.toNat_natCast,al hx,ax]
    cases h : c == x with
    | true => rw [ar,gV hx h]
    | false => rw [ae,dG (by omega),ih,gd hx h]
theorem Pf {l : List Int} {c : Int} : decide (ut (fun x => c == x) l ≥ 0) = l.any fun x => c == x := by
  unfold ut
  cases h : l.findIdx? fun x => c == x with
  | none =>
    have := List.findIdx?_eq_none_iff.1 h
    symm
    simpa [List.any_eq_false] using this
  | some k =>
    have h2 : (l.any fun x => c == x) = true := by
      rw [List.findIdx?_eq_some_iff_getElem] at h
      obtain ⟨hk,h3,_⟩ := h
      exact List.any_eq_true.2 ⟨l[k],List.getElem_mem hk,h3⟩
    rw [h2]
    simp
theorem KF {l : List Int} (hl : l.length < 4611686018427387904) (c : Int) : V 203 [.rs (1,0) (l.map (D.int .u8)),.int .u8 c] = some (.bool (l.any fun x => c == x),[]) := by
  have h : V 221 [.rs (1,0) (l.map (D.int .u8)),.int .u8 c] = some (.int .i64 (ut (fun x => c == x) l),[]) := by
    rw [mG,← gh]
    exact yk hl c l.length 0 (Nat.zero_add _)
  rw [lg,lv h,Pf]
theorem CH (c : Int) : V 177 [.int .u8 c] = some (.bool (nmB c),[]) := by
  have h := KF (l := [43,45,42,60,61,63,33,47]) (by simp) c
  simp only [List.map_cons,List.map_nil] at h
  rw [uL,av (by decide),jW h]
  unfold nmB
  cases decide (c ≥ 97) <;> cases decide (c ≤ 122) <;> rfl
theorem CJ (c : Int) : V 180 [.int .u8 c] = some (.bool (nmB c),[]) := by
  rw [uN]
  simp only [QN,nmB,List.any_cons,List.any_nil,Bool.or_false]
  cases decide (c ≥ 97) <;> cases decide (c ≤ 122) <;> rfl

noncomputable def BC (s : ByteArray) : Nat → Nat → Bool
  | _,0 => true
  | i,k + 1 => nmB (bt s i) && BC s (i + 1) k
noncomputable def vZ (s : ByteArray) : Bool := wi s.size 1 12 && BC s 0 s.size
theorem qD {s : ByteArray} (hl : s.size < 4611686018427387904) : ∀ (k i : Nat),i + k = s.size → fA s (ni s.size) (i : Int) = some (.bool (BC s i k),[])
  | 0,i,hi => by rw [lR,ah (fJ (by omega))]; rfl
  | k + 1,i,hi => by
    rw [lR,ap (ez (by omega)),av (bG (by omega)),wq (CH _),dG (by omega),qD hl k (i + 1) (by omega),qW,Bool.not_not]
    rfl
theorem qa {s : ByteArray} (hl : s.size < 4611686018427387904) : ∀ (k i : Nat),i + k = s.size → fT s (i : Int) = some (.bool (BC s i k && wi s.size 1 12),[])
  | 0,i,hi => by rw [mo,ah (fJ (by omega)),dH (d7 _ _ _)]; rfl
  | k + 1,i,hi => by
    rw [mo,ap (ez (by omega)),av (bG (by omega)),wo (CJ _),dG (by omega),qa hl k (i + 1) (by omega),qW,Bool.not_not,← Bool.and_assoc]
    rfl
theorem mC {s : ByteArray} (hl : s.size < 4611686018427387904) : V 124 [.str s] = some (.bool (vZ s),[]) := by
  have h : fA s (ni s.size) 0 = _ := qD hl s.size 0 (Nat.zero_add _)
  rw [DT,bI (bH _ _ _),h,qW,Bool.not_not]
  rfl
theorem mD {s : ByteArray} (hl : s.size < 4611686018427387904) : V 128 [.str s] = some (.bool (vZ s),[]) := by
  have h : fT s 0 = _ := qa hl s.size 0 (Nat.zero_add _)
  rw [Bw,h,Bool.and_comm]
  rfl

noncomputable def nz (s : ByteArray) : Bool := aQ s ⟨#[]⟩
noncomputable def okN (x : Nd) (h : Int) : Bool :=
  if x.kind = 1 then wi x.n 0 0 && (nz x.s && (x.a == 0 && x.b == 0))
  else if x.kind = 2 then wi x.n 0 1 && (nz x.s && (x.a == 0 && x.b == 0))
  else if x.kind = 3 then wi x.n (-1000000000) 1000000000 && (nz x.s && (x.a == 0 && x.b == 0))
  else if x.kind = 4 then wi x.n 0 0 && (vZ x.s && (x.a == 0 && x.b == 0))
  else if x.kind = 5 then wi x.n 0 0 && (nz x.s && (wi x.a 0 (h - 1) && wi x.b 0 (h - 1)))
  else if x.kind = 6 then wi x.n 0 1000000000 && (nz x.s && (wi x.a 0 (h - 1) && x.b == 0))
  else if x.kind = 7 then wi x.n 0 0 && (nz x.s && (wi x.a 0 (h - 1) && x.b == 0))
  else if x.kind = 8 then wi x.n 0 99 && (nz x.s && (x.a == 0 && x.b == 0))
  else if x.kind = 9 then wi x.n 0 1000000000 && (nz x.s && (x.a == 0 && x.b == 0))
  else false
theorem PT (n : Int) : wi n 0 0 = (n == 0) := by
  unfold wi
  by_cases h : n = 0
  · subst h; rfl
  · have : (n == 0) = false := by simp [h]
    rw [this]
    simp; omega

theorem y1 {x : Nd} (hs : x.s.size < 4611686018427387904) {h : Int} (h0 : -4611686018427387904 < h) (h1 : h < 4611686018427387904) : V 126 [eN x,.int .i64 h] = some (.bool (okN x h),[]) := by
  rw [Dd,w64 (n := h - 1) (by omega) (by omega)]
  unfold okN
  by_cases e1 : x.kind = 1
  · rw [ap (by simp [e1]),if_pos e1,bI (bH _ _ _)]; simp only [bA]; rfl
  rw [ah (by simp [e1]),if_neg e1]
  by_cases e2 : x.kind = 2
  · rw [ap (by simp [e2]),if_pos e2,bI (bH _ _ _)]; simp only [bA]; rfl
  rw [ah (by simp [e2]),if_neg e2]
  by_cases e3 : x.kind = 3
  · rw [ap (by simp [e3]),if_pos e3,bI (bH _ _ _)]; simp only [bA]; rfl
  rw [ah (by simp [e3]),if_neg e3]
  by_cases e4 : x.kind = 4
  · rw [ap (by simp [e4]),if_pos e4,D5 (mC hs),bI (bH _ _ _)]; simp only [bA]
  rw [ah (by simp [e4]),if_neg e4]
  by_cases e5 : x.kind = 5
  · rw [ap (by simp [e5]),if_pos e5,bI (bH _ _ _),bI (bH _ _ _),bI (bH _ _ _)]; simp only [bA]; rfl
  rw [ah (by simp [e5]),if_neg e5]
  by_cases e6 : x.kind = 6
  · rw [ap (by simp [e6]),if_pos e6,bI (bH _ _ _),bI (bH _ _ _)]; simp only [bA]; rfl
  rw [ah (by simp [e6]),if_neg e6]
  by_cases e7 : x.kind = 7
  · rw [ap (by simp [e7]),if_pos e7,bI (bH _ _ _),bI (bH _ _ _)]; simp only [bA]; rfl
  rw [ah (by simp [e7]),if_neg e7]
  by_cases e8 : x.kind = 8
  · rw [ap (by simp [e8]),if_pos e8,bI (bH _ _ _)]; simp only [bA]; rfl
  rw [ah (by simp [e8]),if_neg e8]
  by_cases e9 : x.kind = 9
  · rw [ap (by simp [e9]),if_pos e9,bI (bH _ _ _)]; simp only [bA]; rfl
  rw [ah (by simp [e9]),if_neg e9]

theorem NU {x : Nd} (hs : x.s.size < 4611686018427387904) {h : Int} (h0 : -4611686018427387904 < h) (h1 : h < 4611686018427387904) : V 130 [eN x,.int .i64 h] = some (.bool (okN x h),[]) := by
  rw [DC,w64 (n := h - 1) (by omega) (by omega),dH (d7 _ _ _),dH (d7 _ _ _)]
  unfold okN
  have hss : aQ x.s x.s = true := by rw [ep]; simp
  by_cases e1 : x.kind = 1
  · rw [ap (by simp [e1]),if_pos e1,e1,PT]; simp [nz]
  rw [ah (by simp [e1]),if_neg e1]
  by_cases e2 : x.kind = 2
  · rw [ap (by simp [e2]),if_pos e2,e2,dH (d7 _ _ _)]; simp only [bA]; simp [nz]
  rw [ah (by simp [e2]),if_neg e2]
  by_cases e3 : x.kind = 3
  · rw [ap (by simp [e3]),if_pos e3,e3,dH (d7 _ _ _)]; simp only [bA]; simp [nz]
  rw [ah (by simp [e3]),if_neg e3]
  by_cases e4 : x.kind = 4
  · rw [ap (by simp [e4]),if_pos e4,e4,Gk (mD hs),PT,hss]; simp only [bA]
    cases vZ x.s <;> cases x.n == 0 <;> simp
  rw [ah (by simp [e4]),if_neg e4]
  by_cases e5 : x.kind = 5
  · rw [ap (by simp [e5]),if_pos e5,PT]; simp only [bA]
    show some (D.bool (_ && (_ && (_ && nz x.s))),_) = _
    cases wi x.a 0 (h - 1) <;> cases wi x.b 0 (h - 1) <;> cases x.n == 0 <;> cases nz x.s <;> rfl
  rw [ah (by simp [e5]),if_neg e5]
  by_cases e6 : x.kind = 6
  · rw [ap (by simp [e6]),if_pos e6,dH (d7 _ _ _)]; simp only [bA]
    show some (D.bool (_ && (_ && (_ && nz x.s))),_) = _
    cases wi x.a 0 (h - 1) <;> cases wi x.n 0 1000000000 <;> cases x.b == 0 <;> cases nz x.s <;> rfl
  rw [ah (by simp [e6]),if_neg e6]
  by_cases e7 : x.kind = 7
  · rw [ap (by simp [e7]),if_pos e7,PT]; simp only [bA]
    show some (D.bool (_ && (_ && (_ && nz x.s))),_) = _
    cases wi x.a 0 (h - 1) <;> cases x.n == 0 <;> cases x.b == 0 <;> cases nz x.s <;> rfl
  rw [ah (by simp [e7]),if_neg e7]
  by_cases e8 : x.kind = 8
  · rw [ap (by simp [e8]),if_pos e8,e8,dH (d7 _ _ _)]; simp only [bA]; simp [nz]
  rw [ah (by simp [e8]),if_neg e8]
  by_cases e9 : x.kind = 9
  · rw [ap (by simp [e9]),if_pos e9,e9,dH (d7 _ _ _)]; simp only [bA]; simp [nz]
  rw [ah (by simp [e9]),if_neg e9]

noncomputable abbrev eP (p : List Nd) : D := .agg [.rs (5,0) (p.map eN)]
noncomputable abbrev oP (p : List Nd) : D := .agg [.os (5,0) (p.map eN)]
noncomputable abbrev rP (p : List Nd) : D := .op [.os (5,0) (p.map eN)]
noncomputable def lu (p : List Nd) : Prop := ∀ x ∈ p,x.s.size < 4611686018427387904
noncomputable def mB (p : List Nd) : Nat → Nat → Bool
  | _,0 => true
  | i,k + 1 => (match p[i]? with | some x => okN x i | none => true) && mB p (i + 1) k
noncomputable def aW (p : List Nd) : Bool := mB p 0 p.length && decide ((p.length : Int) ≤ 3000)
theorem qp {p : List Nd} (hf : lu p) (hl : p.length < 4611686018427387904) : ∀ (k i : Nat),i + k = p.length → iw (p.map eN) (ni (p.map eN).length) (i : Int) (p.map eN) = some (.bool (mB p i k && decide ((p.length : Int) ≤ 3000)),[])
  | 0,i,hi => by
    rw [lY,ah (by rw [List.length_map]; exact fJ (by omega)),List.length_map]; rfl
  | k + 1,i,hi => by
    obtain ⟨x,hx⟩ := aA (l := p) (i := i) (by omega)
    rw [lY,ap (by rw [List.length_map]; exact ez (by omega)),av (by rw [List.length_map]; exact bG (by omega)),Int.toNat_natCast,al hx,o5,Fk (y1 (hf x (List.mem_of_getElem? hx)) (by omega) (by omega)),dG (by omega),qp hf hl k (i + 1) (by omega),qW,Bool.not_not,← Bool.and_assoc]
    simp only [mB,hx]
theorem pU {p : List Nd} (hf : lu p) (hl : p.length < 4611686018427387904) : ∀ (k i : Nat),i + k = p.length → iK (i : Int) (p.map eN) = some (.bool (mB p i k && decide ((p.length : Int) ≤ 3000)),[])
  | 0,i,hi => by
    rw [mb,ah (by rw [List.length_map]; exact fJ (by omega)),List.length_map]; rfl
  | k + 1,i,hi => by
    obtain ⟨x,hx⟩ := aA (l := p) (i := i) (by omega)
    rw [mb,ap (by rw [List.length_map]; exact ez (by omega)),av (by rw [List.length_map]; exact bG (by omega)),Int.toNat_natCast,al hx,o5,IB (NU (hf x (List.mem_of_getElem? hx)) (by omega) (by omega)),dG (by omega),pU hf hl k (i + 1) (by omega),qW,Bool.not_not,← Bool.and_assoc]
    simp only [mB,hx]
theorem jq {p : List Nd} (hf : lu p) (hl : p.length < 4611686018427387904) : V 55 [eP p] = some (.bool (aW p),[]) := by
  rw [BM]; exact qp hf hl p.length 0 (Nat.zero_add _)
theorem mF {p : List Nd} (hf : lu p) (hl : p.length < 4611686018427387904) : V 60 [eP p] = some (.bool (aW p),[]) := by
  rw [DN]; exact pU hf hl p.length 0 (Nat.zero_add _)
end Go.Eng
