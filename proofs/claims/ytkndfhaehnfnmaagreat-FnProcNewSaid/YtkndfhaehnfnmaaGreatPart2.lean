/- the program and the reference on plain data, part 2 -/
import Derived.Test.YtkndfhaehnfnmaaGreatPart1
/-! the functions as the interpreter has them -/
namespace Go.Eng
open Go.Proofs Go.Proofs.Tryz
set_option maxRecDepth 100000
theorem lm (p0:Int) (p1 p2:List D):aY p0 p1 p2 =
 br (decide (p0 < ni p1.length))
 (
 grd (decide (0 <= p0) && decide (p0 < ni p1.length)) (az p1 p0.toNat fun x3=>
 tk1 x3 fun n7 n10 s13 n16 n19=>(ac V 69 [.int .i64 n7] fun x20 l21=>
 aI (1,0) x20 fun l22=>unn l21 (grd (decide (ni (List.length (p2++l22)) <= LIM)) (nam (p2++l22) fun l23=>
 br (n7 == 2)
 (
 br (n7 == 2)
 (
 ac V 69 [.int .i64 n10] fun x24 l25=>
 aI (1,0) x24 fun l26=>unn l25 (grd (decide (ni (List.length (l23++l26)) <= LIM)) (nam (l23++l26) fun l27=>
 aY (IntKind.wrap IntKind.i64 (p0 + 1)) p1 l27)))
 (
 br (n7 == 3)
 (
 ac V 69 [(.int .i64 (IntKind.wrap IntKind.i64 (n10 + 1000000000)))] fun x28 l29=>
 aI (1,0) x28 fun l30=>unn l29 (grd (decide (ni (List.length (l23++l30)) <= LIM)) (nam (l23++l30) fun l31=>
 aY (IntKind.wrap IntKind.i64 (p0 + 1)) p1 l31)))
 (
 br (n7 == 4)
 (
 ac V 139 [.str s13] fun x32 l33=>
 aI (1,0) x32 fun l34=>unn l33 (grd (decide (ni (List.length (l23++l34)) <= LIM)) (nam (l23++l34) fun l35=>
 aY (IntKind.wrap IntKind.i64 (p0 + 1)) p1 l35)))
 (
 br (n7 == 5)
 (
 ac V 69 [.int .i64 n16] fun x36 l37=>
 aI (1,0) x36 fun l38=>unn l37 (grd (decide (ni (List.length (l23++l38)) <= LIM)) (nam (l23++l38) fun l39=>
 ac V 69 [.int .i64 n19] fun x40 l41=>
 aI (1,0) x40 fun l42=>unn l41 (grd (decide (ni (List.length (l39++l42)) <= LIM)) (nam (l39++l42) fun l43=>
 aY (IntKind.wrap IntKind.i64 (p0 + 1)) p1 l43)))))
 (
 br (n7 == 6)
 (
 ac V 69 [.int .i64 n10] fun x44 l45=>
 aI (1,0) x44 fun l46=>unn l45 (grd (decide (ni (List.length (l23++l46)) <= LIM)) (nam (l23++l46) fun l47=>
 ac V 69 [.int .i64 n16] fun x48 l49=>
 aI (1,0) x48 fun l50=>unn l49 (grd (decide (ni (List.length (l47++l50)) <= LIM)) (nam (l47++l50) fun l51=>
 aY (IntKind.wrap IntKind.i64 (p0 + 1)) p1 l51)))))
 (
 br (n7 == 7)
 (
 ac V 69 [.int .i64 n16] fun x52 l53=>
 aI (1,0) x52 fun l54=>unn l53 (grd (decide (ni (List.length (l23++l54)) <= LIM)) (nam (l23++l54) fun l55=>
 aY (IntKind.wrap IntKind.i64 (p0 + 1)) p1 l55)))
 (aY (IntKind.wrap IntKind.i64 (p0 + 1)) p1 l23)))))))
 (
 br (n7 == 8)
 (
 br (n7 == 8)
 (
 ac V 69 [.int .i64 n10] fun x56 l57=>
 aI (1,0) x56 fun l58=>unn l57 (grd (decide (ni (List.length (l23++l58)) <= LIM)) (nam (l23++l58) fun l59=>
 aY (IntKind.wrap IntKind.i64 (p0 + 1)) p1 l59)))
 (
 br (n7 == 3)
 (
 ac V 69 [(.int .i64 (IntKind.wrap IntKind.i64 (n10 + 1000000000)))] fun x60 l61=>
 aI (1,0) x60 fun l62=>unn l61 (grd (decide (ni (List.length (l23++l62)) <= LIM)) (nam (l23++l62) fun l63=>
 aY (IntKind.wrap IntKind.i64 (p0 + 1)) p1 l63)))
 (
 br (n7 == 4)
 (
 ac V 139 [.str s13] fun x64 l65=>
 aI (1,0) x64 fun l66=>unn l65 (grd (decide (ni (List.length (l23++l66)) <= LIM)) (nam (l23++l66) fun l67=>
 aY (IntKind.wrap IntKind.i64 (p0 + 1)) p1 l67)))
 (
 br (n7 == 5)
 (
 ac V 69 [.int .i64 n16] fun x68 l69=>
 aI (1,0) x68 fun l70=>unn l69 (grd (decide (ni (List.length (l23++l70)) <= LIM)) (nam (l23++l70) fun l71=>
 ac V 69 [.int .i64 n19] fun x72 l73=>
 aI (1,0) x72 fun l74=>unn l73 (grd (decide (ni (List.length (l71++l74)) <= LIM)) (nam (l71++l74) fun l75=>
 aY (IntKind.wrap IntKind.i64 (p0 + 1)) p1 l75)))))
 (
 br (n7 == 6)
 (
 ac V 69 [.int .i64 n10] fun x76 l77=>
 aI (1,0) x76 fun l78=>unn l77 (grd (decide (ni (List.length (l23++l78)) <= LIM)) (nam (l23++l78) fun l79=>
 ac V 69 [.int .i64 n16] fun x80 l81=>
 aI (1,0) x80 fun l82=>unn l81 (grd (decide (ni (List.length (l79++l82)) <= LIM)) (nam (l79++l82) fun l83=>
 aY (IntKind.wrap IntKind.i64 (p0 + 1)) p1 l83)))))
 (
 br (n7 == 7)
 (
 ac V 69 [.int .i64 n16] fun x84 l85=>
 aI (1,0) x84 fun l86=>unn l85 (grd (decide (ni (List.length (l23++l86)) <= LIM)) (nam (l23++l86) fun l87=>
 aY (IntKind.wrap IntKind.i64 (p0 + 1)) p1 l87)))
 (aY (IntKind.wrap IntKind.i64 (p0 + 1)) p1 l23)))))))
 (
 br (n7 == 9)
 (
 ac V 69 [.int .i64 n10] fun x88 l89=>
 aI (1,0) x88 fun l90=>unn l89 (grd (decide (ni (List.length (l23++l90)) <= LIM)) (nam (l23++l90) fun l91=>
 aY (IntKind.wrap IntKind.i64 (p0 + 1)) p1 l91)))
 (
 br (n7 == 3)
 (
 ac V 69 [(.int .i64 (IntKind.wrap IntKind.i64 (n10 + 1000000000)))] fun x92 l93=>
 aI (1,0) x92 fun l94=>unn l93 (grd (decide (ni (List.length (l23++l94)) <= LIM)) (nam (l23++l94) fun l95=>
 aY (IntKind.wrap IntKind.i64 (p0 + 1)) p1 l95)))
 (
 br (n7 == 4)
 (
 ac V 139 [.str s13] fun x96 l97=>
 aI (1,0) x96 fun l98=>unn l97 (grd (decide (ni (List.length (l23++l98)) <= LIM)) (nam (l23++l98) fun l99=>
 aY (IntKind.wrap IntKind.i64 (p0 + 1)) p1 l99)))
 (
 br (n7 == 5)
 (
 ac V 69 [.int .i64 n16] fun x100 l101=>
 aI (1,0) x100 fun l102=>unn l101 (grd (decide (ni (List.length (l23++l102)) <= LIM)) (nam (l23++l102) fun l103=>
 ac V 69 [.int .i64 n19] fun x104 l105=>
 aI (1,0) x104 fun l106=>unn l105 (grd (decide (ni (List.length (l103++l106)) <= LIM)) (nam (l103++l106) fun l107=>
 aY (IntKind.wrap IntKind.i64 (p0 + 1)) p1 l107)))))
 (
 br (n7 == 6)
 (
 ac V 69 [.int .i64 n10] fun x108 l109=>
 aI (1,0) x108 fun l110=>unn l109 (grd (decide (ni (List.length (l23++l110)) <= LIM)) (nam (l23++l110) fun l111=>
 ac V 69 [.int .i64 n16] fun x112 l113=>
 aI (1,0) x112 fun l114=>unn l113 (grd (decide (ni (List.length (l111++l114)) <= LIM)) (nam (l111++l114) fun l115=>
 aY (IntKind.wrap IntKind.i64 (p0 + 1)) p1 l115)))))
 (
 br (n7 == 7)
 (
 ac V 69 [.int .i64 n16] fun x116 l117=>
 aI (1,0) x116 fun l118=>unn l117 (grd (decide (ni (List.length (l23++l118)) <= LIM)) (nam (l23++l118) fun l119=>
 aY (IntKind.wrap IntKind.i64 (p0 + 1)) p1 l119)))
 (aY (IntKind.wrap IntKind.i64 (p0 + 1)) p1 l23)))))))))))))
 (some ((.os (1,0) p2),[])):=by
 exact (cd _ _ _).trans (by kernel_rfl)
theorem uX (p0:ByteArray) (p1 p2 p3:Int) (p4 p5 p6 p7:List D):eW p0 p1 p2 p3 p4 p5 p6 p7 =
 br (decide (p1 < ni (ByteArray.size p0)))
 (
 grd (decide (0 <= p1) && decide (p1 < ni (ByteArray.size p0))) (ac V 211 [.int .u8 (bt p0 p1)] fun x143 l144=>
 asB x143 fun b145=>unn l144 (br b145
 (eW p0 (IntKind.wrap IntKind.i64 (p1 + 1)) p2 p3 p4 p5 p6 p7)
 (
 grd (bi (ByteArray.size p0) (some p3) (some p1)) (ac V 212 [(.str (ByteArray.extract p0 p3.toNat p1.toNat))] fun x146 l147=>
 aP x146 fun l148=>unc l148 fun x149 l150=>tk1 x149 fun n154 n157 s160 n163 n166=>(unc l150 fun x167 l168=>asB x167 fun b169=>unn l168 (unn l147 (br (!b169)
 (
 ac V 147 [.agg [.rs (5,0) p4]] fun x170 l171=>
 asAgg x170 fun l172=>unc l172 fun x173 l174=>aI (5,0) x173 fun l175=>unn l174 (unn l171 (some ((.tup [.agg [.os (5,0) l175],.os (1,0) p5,.int .i64 (3),.int .i64 p3]),[]))))
 (
 grd (decide (0 <= p2) && decide (p2 < ni p6.length)) (az p6 p2.toNat fun x176=>
 asAgg x176 fun l177=>az l177 1 fun x178=>
 aI (1,0) x178 fun l179=>asAgg x176 fun l180=>ac V 158 [.op [.os (5,0) p7],.agg [.int .i64 n154,.int .i64 n157,.str s160,.int .i64 n163,.int .i64 n166]] fun x181 l182=>
 asI .i64 x181 fun n183=>unc l182 fun x184 l185=>bH x184 fun l186=>unc l186 fun x187 l188=>aI (5,0) x187 fun l189=>unn l188 (unn l185 (grd (decide (ni (List.length (l179++[D.int IntKind.i64 n183])) <= LIM)) (nam (l179++[D.int IntKind.i64 n183]) fun l190=>
 grd (decide (0 <= p2) && decide (p2 < ni (List.length (List.set p6 p2.toNat (D.agg (List.take 1 l180++[D.dead]++List.drop 2 l180)))))) (az (List.set p6 p2.toNat (D.agg (List.take 1 l180++[D.dead]++List.drop 2 l180))) p2.toNat fun x191=>
 asAgg x191 fun l192=>nam (List.set (List.set p6 p2.toNat (D.agg (List.take 1 l180++[D.dead]++List.drop 2 l180))) p2.toNat
 (D.agg
 (List.take 1 l192 ++
 [D.os
 (TypeInfo.size (Tables.types (Program.toTables Tryz.prog))[3],
 match m6 Tryz.prog (3) with
 | true=>0
 | false=>1)
 l190] ++
 List.drop 2 l192))) fun l193=>
 cg p0 p1 p4 p5 l193 l189))))))))))))))
 (
 grd (bi (ByteArray.size p0) (some p3) (some p1)) (ac V 212 [(.str (ByteArray.extract p0 p3.toNat p1.toNat))] fun x194 l195=>
 aP x194 fun l196=>unc l196 fun x197 l198=>tk1 x197 fun n202 n205 s208 n211 n214=>(unc l198 fun x215 l216=>asB x215 fun b217=>unn l216 (unn l195 (br (!b217)
 (
 ac V 147 [.agg [.rs (5,0) p4]] fun x218 l219=>
 asAgg x218 fun l220=>unc l220 fun x221 l222=>aI (5,0) x221 fun l223=>unn l222 (unn l219 (some ((.tup [.agg [.os (5,0) l223],.os (1,0) p5,.int .i64 (3),.int .i64 p3]),[]))))
 (
 grd (decide (0 <= p2) && decide (p2 < ni p6.length)) (az p6 p2.toNat fun x224=>
 asAgg x224 fun l225=>az l225 1 fun x226=>
 aI (1,0) x226 fun l227=>asAgg x224 fun l228=>ac V 158 [.op [.os (5,0) p7],.agg [.int .i64 n202,.int .i64 n205,.str s208,.int .i64 n211,.int .i64 n214]] fun x229 l230=>
 asI .i64 x229 fun n231=>unc l230 fun x232 l233=>bH x232 fun l234=>unc l234 fun x235 l236=>aI (5,0) x235 fun l237=>unn l236 (unn l233 (grd (decide (ni (List.length (l227++[D.int IntKind.i64 n231])) <= LIM)) (nam (l227++[D.int IntKind.i64 n231]) fun l238=>
 grd (decide (0 <= p2) && decide (p2 < ni (List.length (List.set p6 p2.toNat (D.agg (List.take 1 l228++[D.dead]++List.drop 2 l228)))))) (az (List.set p6 p2.toNat (D.agg (List.take 1 l228++[D.dead]++List.drop 2 l228))) p2.toNat fun x239=>
 asAgg x239 fun l240=>nam (List.set (List.set p6 p2.toNat (D.agg (List.take 1 l228++[D.dead]++List.drop 2 l228))) p2.toNat
 (D.agg
 (List.take 1 l240 ++
 [D.os
 (TypeInfo.size (Tables.types (Program.toTables Tryz.prog))[3],
 match m6 Tryz.prog (3) with
 | true=>0
 | false=>1)
 l238] ++
 List.drop 2 l240))) fun l241=>
 cg p0 p1 p4 p5 l241 l237))))))))))):=by
 exact (cd _ _ _).trans (by kernel_rfl)
theorem ui (a0_0:List D) (a0_1 a0_2 a1_:Int):V 197 [.op [.rs (1,0) a0_0,.int .i64 a0_1,.int .i64 a0_2],.int .i64 a1_] =
 br (a1_ == 0)
 (
 ac V 201 [.op [.rs (1,0) a0_0,.int .i64 a0_1,.int .i64 a0_2]] fun x0 l1=>
 asAgg x0 fun l2=>unc l2 fun x3 l4=>asI .i64 x3 fun n5=>unc l4 fun x6 l7=>asI .i64 x6 fun n8=>unc l7 fun x9 l10=>asS x9 fun s11=>unc l10 fun x12 l13=>asI .i64 x12 fun n14=>unc l13 fun x15 l16=>asI .i64 x15 fun n17=>unn l16 (unc l1 fun x18 l19=>bH x18 fun l20=>unc l20 fun x21 l22=>cu (1,0) x21 fun l23=>unc l22 fun x24 l25=>asI .i64 x24 fun n26=>unc l25 fun x27 l28=>asI .i64 x27 fun n29=>unn l28 (unn l19 (some ((.agg [.int .i64 n5,.int .i64 n8,.str s11,.int .i64 n14,.int .i64 n17]),[.op [.rs (1,0) l23,.int .i64 n26,.int .i64 n29]])))))
 (
 ac V 155 [.op [.rs (1,0) a0_0,.int .i64 a0_1,.int .i64 a0_2],.int .i64 (2)] fun x30 l31=>
 asB x30 fun b32=>unc l31 fun x33 l34=>bH x33 fun l35=>unc l35 fun x36 l37=>cu (1,0) x36 fun l38=>unc l37 fun x39 l40=>asI .i64 x39 fun n41=>unc l40 fun x42 l43=>asI .i64 x42 fun n44=>unn l43 (unn l34 (br b32
 (
 ac V 201 [.op [.rs (1,0) l38,.int .i64 n41,.int .i64 n44]] fun x45 l46=>
 asAgg x45 fun l47=>unc l47 fun x48 l49=>asI .i64 x48 fun n50=>unc l49 fun x51 l52=>asI .i64 x51 fun n53=>unc l52 fun x54 l55=>asS x54 fun s56=>unc l55 fun x57 l58=>asI .i64 x57 fun n59=>unc l58 fun x60 l61=>asI .i64 x60 fun n62=>unn l61 (unc l46 fun x63 l64=>bH x63 fun l65=>unc l65 fun x66 l67=>cu (1,0) x66 fun l68=>unc l67 fun x69 l70=>asI .i64 x69 fun n71=>unc l70 fun x72 l73=>asI .i64 x72 fun n74=>unn l73 (unn l64 (some ((.agg [.int .i64 n50,.int .i64 n53,.str s56,.int .i64 n59,.int .i64 n62]),[.op [.rs (1,0) l68,.int .i64 n71,.int .i64 n74]])))))
 (
 ac V 116 [.int .i64 a1_,.int .i64 (5)] fun x75 l76=>
 asI .i64 x75 fun n77=>unn l76 (ac V 76 [.op [.rs (1,0) l38,.int .i64 n41,.int .i64 n44],.int .i64 n77] fun x78 l79=>
 asI .i64 x78 fun n80=>unc l79 fun x81 l82=>bH x81 fun l83=>unc l83 fun x84 l85=>cu (1,0) x84 fun l86=>unc l85 fun x87 l88=>asI .i64 x87 fun n89=>unc l88 fun x90 l91=>asI .i64 x90 fun n92=>unn l91 (unn l82 (ac V 76 [.op [.rs (1,0) l86,.int .i64 n89,.int .i64 n92],.int .i64 (8)] fun x93 l94=>
 asI .i64 x93 fun n95=>unc l94 fun x96 l97=>bH x96 fun l98=>unc l98 fun x99 l100=>cu (1,0) x99 fun l101=>unc l100 fun x102 l103=>asI .i64 x102 fun n104=>unc l103 fun x105 l106=>asI .i64 x105 fun n107=>unn l106 (unn l97 (br (n95 == 0)
 (
 ac V 76 [.op [.rs (1,0) l101,.int .i64 n104,.int .i64 n107],.int .i64 (9)] fun x108 l109=>
 asI .i64 x108 fun n110=>unc l109 fun x111 l112=>bH x111 fun l113=>unc l113 fun x114 l115=>cu (1,0) x114 fun l116=>unc l115 fun x117 l118=>asI .i64 x117 fun n119=>unc l118 fun x120 l121=>asI .i64 x120 fun n122=>unn l121 (unn l112 (some ((.agg [.int .i64 (6),.int .i64 n110,.str ({ data:=#[] }),(.int .i64 (IntKind.wrap IntKind.i64 (IntKind.wrap IntKind.i64 (a1_ - 1) - n80))),.int .i64 (0)]),[.op [.rs (1,0) l116,.int .i64 n119,.int .i64 n122]]))))
 (
 br (n95 == 1)
 (some ((.agg [.int .i64 (7),.int .i64 (0),.str ({ data:=#[] }),(.int .i64 (IntKind.wrap IntKind.i64 (IntKind.wrap IntKind.i64 (a1_ - 1) - n80))),.int .i64 (0)]),[.op [.rs (1,0) l101,.int .i64 n104,.int .i64 n107]]))
 (
 ac V 116 [.int .i64 a1_,.int .i64 (4)] fun x123 l124=>
 asI .i64 x123 fun n125=>unn l124 (ac V 76 [.op [.rs (1,0) l101,.int .i64 n104,.int .i64 n107],.int .i64 n125] fun x126 l127=>
 asI .i64 x126 fun n128=>unc l127 fun x129 l130=>bH x129 fun l131=>unc l131 fun x132 l133=>cu (1,0) x132 fun l134=>unc l133 fun x135 l136=>asI .i64 x135 fun n137=>unc l136 fun x138 l139=>asI .i64 x138 fun n140=>unn l139 (unn l130 (some ((.agg [.int .i64 (5),.int .i64 (0),.str ({ data:=#[] }),(.int .i64 (IntKind.wrap IntKind.i64 (IntKind.wrap IntKind.i64 (a1_ - 1) - n80))),(.int .i64 (IntKind.wrap IntKind.i64 (IntKind.wrap IntKind.i64 (a1_ - 1) - n128)))]),[.op [.rs (1,0) l134,.int .i64 n137,.int .i64 n140]]))))))))))))))):=by
 exact (aX Tryz.func197 rfl _).trans (by kernel_rfl)
theorem DC (a0_0 a0_1:Int) (a0_2:ByteArray) (a0_3 a0_4 a1_:Int):V 130 [.agg [.int .i64 a0_0,.int .i64 a0_1,.str a0_2,.int .i64 a0_3,.int .i64 a0_4],.int .i64 a1_] =
 ac V 62 [.int .i64 a0_3,.int .i64 (0),(.int .i64 (IntKind.wrap IntKind.i64 (a1_ - 1)))] fun x0 l1=>
 asB x0 fun b2=>unn l1 (ac V 62 [.int .i64 a0_4,.int .i64 (0),(.int .i64 (IntKind.wrap IntKind.i64 (a1_ - 1)))] fun x3 l4=>
 asB x3 fun b5=>unn l4 (br (a0_0 == 1)
 (some ((.bool (a0_0 == 1 && (a0_1 == 0 && (ax a0_2 { data:=#[] } && (a0_3 == 0 && (a0_4 == 0 && true)))))),[]))
 (
 br (a0_0 == 2)
 (
 ac V 62 [.int .i64 a0_1,.int .i64 (0),.int .i64 (1)] fun x6 l7=>
 asB x6 fun b8=>unn l7 (br b8
 (some ((.bool (a0_0 == 2 && (a0_1 == a0_1 && (ax a0_2 { data:=#[] } && (a0_3 == 0 && (a0_4 == 0 && true)))))),[]))
 (some ((.bool false),[]))))
 (
 br (a0_0 == 3)
 (
 ac V 62 [.int .i64 a0_1,.int .i64 (-1000000000),.int .i64 (1000000000)] fun x9 l10=>
 asB x9 fun b11=>unn l10 (br b11
 (some ((.bool (a0_0 == 3 && (a0_1 == a0_1 && (ax a0_2 { data:=#[] } && (a0_3 == 0 && (a0_4 == 0 && true)))))),[]))
 (some ((.bool false),[]))))
 (
 br (a0_0 == 4)
 (
 ac V 128 [.str a0_2] fun x12 l13=>
 asB x12 fun b14=>unn l13 (br b14
 (some ((.bool (a0_0 == 4 && (a0_1 == 0 && (ax a0_2 a0_2 && (a0_3 == 0 && (a0_4 == 0 && true)))))),[]))
 (some ((.bool false),[]))))
 (
 br (a0_0 == 5)
 (
 br b2
 (
 br b5
 (
 br (a0_1 == 0)
 (some ((.bool (ax a0_2 { data:=#[] })),[]))
 (some ((.bool false),[])))
 (some ((.bool false),[])))
 (some ((.bool false),[])))
 (
 br (a0_0 == 6)
 (
 br b2
 (
 ac V 62 [.int .i64 a0_1,.int .i64 (0),.int .i64 (1000000000)] fun x15 l16=>
 asB x15 fun b17=>unn l16 (br b17
 (
 br (a0_4 == 0)
 (some ((.bool (ax a0_2 { data:=#[] })),[]))
 (some ((.bool false),[])))
 (some ((.bool false),[]))))
 (some ((.bool false),[])))
 (
 br (a0_0 == 7)
 (
 br b2
 (
 br (a0_1 == 0)
 (
 br (a0_4 == 0)
 (some ((.bool (ax a0_2 { data:=#[] })),[]))
 (some ((.bool false),[])))
 (some ((.bool false),[])))
 (some ((.bool false),[])))
 (
 br (a0_0 == 8)
 (
 ac V 62 [.int .i64 a0_1,.int .i64 (0),.int .i64 (99)] fun x18 l19=>
 asB x18 fun b20=>unn l19 (br b20
 (some ((.bool (a0_0 == 8 && (a0_1 == a0_1 && (ax a0_2 { data:=#[] } && (a0_3 == 0 && (a0_4 == 0 && true)))))),[]))
 (some ((.bool false),[]))))
 (
 br (a0_0 == 9)
 (
 ac V 62 [.int .i64 a0_1,.int .i64 (0),.int .i64 (1000000000)] fun x21 l22=>
 asB x21 fun b23=>unn l22 (br b23
 (some ((.bool (a0_0 == 9 && (a0_1 == a0_1 && (ax a0_2 { data:=#[] } && (a0_3 == 0 && (a0_4 == 0 && true)))))),[]))
 (some ((.bool false),[]))))
 (some ((.bool false),[])))))))))))):=by
 exact (aX Tryz.func130 rfl _).trans (by kernel_rfl)
theorem ww (a0_0 a0_1 a0_2 a1_0:List D) (a1_1 a1_2 a1_3 a1_4 a1_5 a1_6 a1_7:Int):V 14 [.agg [.rs (5,0) a0_0,.rs (4,0) a0_1,.rs (3,0) a0_2],.agg [.rs (5,0) a1_0,.int .i64 a1_1,.int .i64 a1_2,.int .i64 a1_3,.int .i64 a1_4,.int .i64 a1_5,.int .i64 a1_6,.int .i64 a1_7]] =
 ac V 54 [.agg [.rs (5,0) a0_0,.rs (4,0) a0_1,.rs (3,0) a0_2]] fun x0 l1=>
 asB x0 fun b2=>unn l1 (br (!b2)
 (some ((.bool false),[]))
 (
 ac V 55 [.agg [.rs (5,0) a1_0]] fun x3 l4=>
 asB x3 fun b5=>unn l4 (br (!b5)
 (some ((.bool false),[]))
 (
 ac V 56 [.agg [.rs (5,0) a1_0],.int .i64 a1_2] fun x6 l7=>
 asB x6 fun b8=>unn l7 (br (!b8)
 (some ((.bool false),[]))
 (
 ac V 56 [.agg [.rs (5,0) a1_0],.int .i64 a1_3] fun x9 l10=>
 asB x9 fun b11=>unn l10 (br (!b11)
 (some ((.bool false),[]))
 (
 ac V 56 [.agg [.rs (5,0) a1_0],.int .i64 a1_4] fun x12 l13=>
 asB x12 fun b14=>unn l13 (br (!b14)
 (some ((.bool false),[]))
 (
 br (a1_5 == 0)
 (
 ac V 57 [.agg [.rs (5,0) a0_0,.rs (4,0) a0_1,.rs (3,0) a0_2],.int .i64 a1_1] fun x15 l16=>
 asB x15 fun b17=>unn l16 (br b17
 (
 br (a1_6 == 0)
 (some ((.bool (a1_7 == 0)),[]))
 (some ((.bool false),[])))
 (some ((.bool false),[]))))
 (
 br (a1_5 == 1)
 (
 ac V 57 [.agg [.rs (5,0) a0_0,.rs (4,0) a0_1,.rs (3,0) a0_2],.int .i64 a1_1] fun x18 l19=>
 asB x18 fun b20=>unn l19 (br b20
 (
 ac V 58 [.int .i64 a1_6,.int .i64 (13),.int .i64 (19)] fun x21 l22=>
 asB x21 fun b23=>unn l22 (br b23
 (
 br (a1_6 != 18)
 (
 ac V 56 [.agg [.rs (5,0) a1_0],.int .i64 a1_7] fun x24 l25=>
 asB x24 fun b26=>unn l25 (some ((.bool b26),[])))
 (some ((.bool false),[])))
 (some ((.bool false),[]))))
 (some ((.bool false),[]))))
 (
 br (a1_5 == 2)
 (
 br (a1_1 == 0)
 (
 br (a1_6 == 0)
 (
 ac V 56 [.agg [.rs (5,0) a1_0],.int .i64 a1_7] fun x27 l28=>
 asB x27 fun b29=>unn l28 (some ((.bool b29),[])))
 (some ((.bool false),[])))
 (some ((.bool false),[])))
 (
 br (a1_5 == 3)
 (
 br (a1_1 == 0)
 (
 ac V 58 [.int .i64 a1_6,.int .i64 (1),.int .i64 (7)] fun x30 l31=>
 asB x30 fun b32=>unn l31 (br b32
 (some ((.bool (a1_7 == 0)),[]))
 (some ((.bool false),[]))))
 (some ((.bool false),[])))
 (some ((.bool false),[]))))))))))))))):=by
 exact (aX Tryz.func14 rfl _).trans (by kernel_rfl)
theorem m8 (p0 p1:ByteArray) (p2 p3:Int):d7 p0 p1 p2 p3 =
 br (decide (p3 < ni (ByteArray.size p1)))
 (
 grd (decide (0 <= p3) && decide (p3 < ni (ByteArray.size p1))) (ac V 226 [.int .u8 (bt p1 p3)] fun x0 l1=>
 asB x0 fun b2=>unn l1 (br (!b2)
 (some ((.tup [.int .i64 (0),.bool false]),[]))
 (grd (decide (0 <= p3) && decide (p3 < ni (ByteArray.size p1))) (d7 p0 p1 (IntKind.wrap IntKind.i64 (IntKind.wrap IntKind.i64 (IntKind.wrap IntKind.i64 (10 * p2) + IntKind.wrap IntKind.i64 (bt p1 p3)) - 48)) (IntKind.wrap IntKind.i64 (p3 + 1)))))))
 (
 br (ni (ByteArray.size p1) != ni (ByteArray.size p0))
 (
 ac V 202 [(.int .i64 (IntKind.wrap IntKind.i64 (0 - p2)))] fun x3 l4=>
 asS x3 fun s5=>unn l4 (br (ax s5 p0)
 (
 ac V 62 [(.int .i64 (IntKind.wrap IntKind.i64 (0 - p2))),.int .i64 (-1000000000),.int .i64 (1000000000)] fun x6 l7=>
 asB x6 fun b8=>unn l7 (some ((.tup [(.int .i64 (IntKind.wrap IntKind.i64 (0 - p2))),.bool b8]),[])))
 (some ((.tup [(.int .i64 (IntKind.wrap IntKind.i64 (0 - p2))),.bool false]),[]))))
 (
 ac V 202 [.int .i64 p2] fun x9 l10=>
 asS x9 fun s11=>unn l10 (br (ax s11 p0)
 (
 ac V 62 [.int .i64 p2,.int .i64 (-1000000000),.int .i64 (1000000000)] fun x12 l13=>
 asB x12 fun b14=>unn l13 (some ((.tup [.int .i64 p2,.bool b14]),[])))
 (some ((.tup [.int .i64 p2,.bool false]),[]))))):=by
 exact (cd _ _ _).trans (by kernel_rfl)
theorem wH (a0_:ByteArray):V 146 [.str a0_] =
 ac V 72 [.op [.os (1,0) (gB a0_),.int .i64 (0),.bool true]] fun x0 l1=>
 asAgg x0 fun l2=>unc l2 fun x3 l4=>aI (5,0) x3 fun l5=>unn l4 (unc l1 fun x6 l7=>cr x6 fun _ _ b17=>(unn l7 (ac V 195 [.agg [.rs (5,0) l5],(.int .i64 (IntKind.wrap IntKind.i64 (ni l5.length - 1)))] fun x18 l19=>
 tk5 x18 fun s23 b26=>(unn l19 (br (!b17)
 (some ((.tup [.agg [.os (5,0) []],.int .i64 (0),.bool false]),[]))
 (
 br (!b26)
 (some ((.tup [.agg [.os (5,0) []],.int .i64 (0),.bool false]),[]))
 (
 br (!ax s23 a0_)
 (some ((.tup [.agg [.os (5,0) []],.int .i64 (0),.bool false]),[]))
 (some ((.tup [.agg [.os (5,0) l5],(.int .i64 (IntKind.wrap IntKind.i64 (ni l5.length - 1))),.bool true]),[]))))))))):=by
 exact (aX Tryz.func146 rfl _).trans (by kernel_rfl)
theorem qO (p0:Int) (p1 p2:List D):gp p0 p1 p2 =
 grd (decide (0 <= p0) && decide (p0 < ni p1.length)) (az p1 p0.toNat fun x0=>
 asAgg x0 fun l1=>az l1 0 fun x2=>
 asI .i64 x2 fun n3=>br (n3 == 5)
 (
 grd (decide (0 <= p0) && decide (p0 < ni p1.length)) (az p1 p0.toNat fun x4=>
 asAgg x4 fun l5=>az l5 3 fun x6=>
 asI .i64 x6 fun n7=>grd (decide (ni (List.length (p2++[D.int IntKind.i64 n7])) <= LIM)) (nam (p2++[D.int IntKind.i64 n7]) fun l8=>
 grd (decide (0 <= p0) && decide (p0 < ni p1.length)) (az p1 p0.toNat fun x9=>
 asAgg x9 fun l10=>az l10 4 fun x11=>
 asI .i64 x11 fun n12=>gp n12 p1 l8))))
 (
 grd (decide (0 <= p0) && decide (p0 < ni p1.length)) (az p1 p0.toNat fun x13=>
 asAgg x13 fun l14=>az l14 0 fun x15=>
 asI .i64 x15 fun n16=>br (n16 != 1)
 (some ((.tup [.os (1,0) [],.bool false]),[]))
 (some ((.tup [.os (1,0) p2,.bool true]),[]))))):=by
 exact (cd _ _ _).trans (by kernel_rfl)
theorem yZ (a0_:List D) (a1_:Int):V 209 [.rs (1,0) a0_,.int .i64 a1_] =
 ac V 140 [.rs (1,0) a0_,.int .i64 a1_] fun x0 l1=>
 Mu x0 fun n5 n8 b11=>(unn l1 (br (!b11)
 (some ((.tup [.str ({ data:=#[] }),.int .i64 (0),.bool false]),[]))
 (
 br (decide (n5 > IntKind.wrap IntKind.i64 (ni a0_.length - n8)))
 (some ((.tup [.str ({ data:=#[] }),.int .i64 (0),.bool false]),[]))
 (grd (bi a0_.length (some n8) (some (IntKind.wrap IntKind.i64 (n8 + n5)))) (f9 (dk (jP a0_ (IntKind.wrap IntKind.i64 (n8 + n5))) n8) fun s12=>some ((.tup [.str s12,(.int .i64 (IntKind.wrap IntKind.i64 (n8 + n5))),.bool true]),[])))))):=by
 exact (aX Tryz.func209 rfl _).trans (by kernel_rfl)
theorem nC (p0:List D) (p1:ByteArray) (p2 p3:Int):jn p0 p1 p2 p3 =
 grd (decide (0 <= p2) && decide (p2 < ni p0.length)) (az p0 p2.toNat fun x0=>
 cu (1,0) x0 fun l1=>br (decide (p3 < ni l1.length))
 (
 grd (decide (0 <= p2) && decide (p2 < ni p0.length)) (az p0 p2.toNat fun x2=>
 cu (1,0) x2 fun l3=>grd (decide (0 <= p3) && decide (p3 < ni l3.length)) (az l3 p3.toNat fun x4=>
 asS x4 fun s5=>br (ax s5 p1)
 (some ((.tup [.int .i64 p2,.int .i64 p3]),[]))
 (jn p0 p1 p2 (IntKind.wrap IntKind.i64 (p3 + 1))))))
 (gC p0 p1 (IntKind.wrap IntKind.i64 (p2 + 1)))):=by
 exact (cd _ _ _).trans (by kernel_rfl)
theorem t6 (p0:Int) (p1:List D):iG p0 p1 =
 br (decide (p0 > 127))
 (
 grd (!decide (128 = 0)) (grd (decide (ni (List.length (p1++[D.int IntKind.u8 (IntKind.wrap IntKind.u8 (IntKind.wrap IntKind.i64 (Int.tmod p0 (128) + 128)))])) <= LIM)) (nam (p1++[D.int IntKind.u8 (IntKind.wrap IntKind.u8 (IntKind.wrap IntKind.i64 (Int.tmod p0 (128) + 128)))]) fun l0=>
 grd (!decide (128 = 0)) (iG (IntKind.wrap IntKind.i64 (Int.tdiv p0 (128))) l0))))
 (
 grd (decide (ni (List.length (p1++[D.int IntKind.u8 (IntKind.wrap IntKind.u8 p0)])) <= LIM)) (nam (p1++[D.int IntKind.u8 (IntKind.wrap IntKind.u8 p0)]) fun l1=>
 some ((.os (1,0) l1),[]))):=by
 exact (cd _ _ _).trans (by kernel_rfl)
theorem lB (p0:List D) (p1 p2:Int) (p3:List D):iY p0 p1 p2 p3 =
 br (decide (p2 >= 0))
 (
 grd (decide (0 <= p2) && decide (p2 < ni p0.length)) (az p0 p2.toNat fun x9=>
 asI .i64 x9 fun n10=>ac V 158 [.op [.os (5,0) p3],(.agg [.int .i64 (5),.int .i64 (0),.str ({ data:=#[] }),.int .i64 n10,.int .i64 p1])] fun x11 l12=>
 asI .i64 x11 fun n13=>unc l12 fun x14 l15=>bH x14 fun l16=>unc l16 fun x17 l18=>aI (5,0) x17 fun l19=>unn l18 (unn l15 (iY p0 n13 (IntKind.wrap IntKind.i64 (p2 - 1)) l19))))
 (some ((.int .i64 p1),[.op [.os (5,0) p3]])):=by
 exact (cd _ _ _).trans (by kernel_rfl)
theorem yL (p:List D) (k n:Int) (s:ByteArray) (a b:Int):V 157 [.op [.os (5,0) p],.agg [.int .i64 k,.int .i64 n,.str s,.int .i64 a,.int .i64 b]] =
 grd (decide (ni (List.length (p++[D.agg [D.int IntKind.i64 k,D.int IntKind.i64 n,D.str s,D.int IntKind.i64 a,D.int IntKind.i64 b]])) <= LIM)) (nam (p++[D.agg [D.int IntKind.i64 k,D.int IntKind.i64 n,D.str s,D.int IntKind.i64 a,D.int IntKind.i64 b]]) fun l0=>
 some ((.int .i64 (IntKind.wrap IntKind.i64 (ni l0.length - 1))),[.op [.os (5,0) l0]])):=by
 exact (aX Tryz.func157 rfl _).trans (by kernel_rfl)
theorem uw (b:List D) (i:Int) (k:Bool) :V 71 [.op [.os (1,0) b,.int .i64 i,.bool k]] =
 ac V 140 [.rs (1,0) b,.int .i64 i] fun x0 l1=>
 Mu x0 fun n5 n8 b11=>(unn l1 (br (!b11)
 (some ((.int .i64 (0)),[.op [.os (1,0) b,.int .i64 i,.bool false]]))
 (some ((.int .i64 n5),[.op [.os (1,0) b,.int .i64 n8,.bool k]])))):=by
 exact (aX Tryz.func71 rfl _).trans (by kernel_rfl)
theorem sF (a0_0:List D) (a0_1 a0_2:Int):V 154 [.op [.rs (1,0) a0_0,.int .i64 a0_1,.int .i64 a0_2]] =
 ac V 76 [.op [.rs (1,0) a0_0,.int .i64 a0_1,.int .i64 a0_2],.int .i64 (16)] fun x0 l1=>
 asI .i64 x0 fun n2=>unc l1 fun x3 l4=>bH x3 fun l5=>unc l5 fun x6 l7=>cu (1,0) x6 fun l8=>unc l7 fun x9 l10=>asI .i64 x9 fun n11=>unc l10 fun x12 l13=>asI .i64 x12 fun n14=>unn l13 (unn l4 (j0 n2 (0) l8 n11 n14)):=by
 exact (aX Tryz.func154 rfl _).trans (by kernel_rfl)
theorem DP (a0_0 a0_1 a0_2:List D):V 59 [.agg [.rs (5,0) a0_0,.rs (4,0) a0_1,.rs (3,0) a0_2]] =
 ac V 60 [.agg [.rs (5,0) a0_0]] fun x0 l1=>
 asB x0 fun b2=>unn l1 (br (!b2)
 (some ((.bool false),[]))
 (
 br (decide (ni a0_1.length > 400))
 (some ((.bool false),[]))
 (
 br (decide (ni a0_2.length > 20))
 (some ((.bool false),[]))
 (i0 (0) a0_0 a0_1 a0_2)))):=by
 exact (aX Tryz.func59 rfl _).trans (by kernel_rfl)
theorem fI (p0:List D) (p1 p2 p3:Int):dr p0 p1 p2 p3 =
 br (decide (p3 < p2))
 (
 grd (decide (0 <= p3) && decide (p3 < ni p0.length)) (az p0 p3.toNat fun x0=>
 asI .u8 x0 fun n1=>br (p1 == n1)
 (some ((.int .i64 p3),[]))
 (dr p0 p1 p2 (IntKind.wrap IntKind.i64 (p3 + 1)))))
 (some ((.int .i64 (-1)),[])):=by
 exact (cd _ _ _).trans (by kernel_rfl)
theorem Cz (p q t:List D):V 148 [.op [.os (5,0) p],.agg [.rs (5,0) q],.rs (1,0) t] =
 grd (decide (0 <= ni q.length) && decide (ni q.length <= LIM)) (dg t (0) q (List.replicate (Int.toNat (ni q.length)) (D.int IntKind.i64 (0))) p):=by
 exact (aX Tryz.func148 rfl _).trans (by kernel_rfl)
theorem yV (a0_:ByteArray):V 138 [.str a0_] =
 ac V 67 [(.int .i64 (ni (ByteArray.size a0_)))] fun x0 l1=>
 aI (1,0) x0 fun l2=>unn l1 (grd (decide (ni (List.length (l2++gB a0_)) <= LIM)) (nam (l2++gB a0_) fun l3=>
 some ((.os (1,0) l3),[]))):=by
 exact (aX Tryz.func138 rfl _).trans (by kernel_rfl)
theorem BH (a0_ a1_ a2_:Int):V 58 [.int .i64 a0_,.int .i64 a1_,.int .i64 a2_] =
 br (decide (a0_ >= a1_))
 (some ((.bool (decide (a0_ <= a2_))),[]))
 (some ((.bool false),[])):=by
 exact (aX Tryz.func58 rfl _).trans (by kernel_rfl)
theorem zg (a0_:Int):V 226 [.int .u8 a0_] =
 br (decide (a0_ >= 48))
 (some ((.bool (decide (a0_ <= 57))),[]))
 (some ((.bool false),[])):=by
 exact (aX Tryz.func226 rfl _).trans (by kernel_rfl)
end Go.Eng
/-! the functions as the interpreter has them -/
namespace Go.Eng
open Go.Proofs Go.Proofs.Tryz
set_option maxRecDepth 100000
theorem lT (p0 p1 p2:Int) (p3:Bool) (p4:List D):fi p0 p1 p2 p3 p4 =
 br (decide (p1 < p0))
 (
 br p3
 (
 ac V 114 [.op [.os (1,0) p4,.int .i64 p2,.bool p3]] fun x15 l16=>
 asI .i64 x15 fun n17=>unc l16 fun x18 l19=>cr x18 fun l23 n26 b29=>(unn l19 (br (n17 == 2)
 (
 br (n17 == 2)
 (
 ac V 114 [.op [.os (1,0) l23,.int .i64 n26,.bool b29]] fun x30 l31=>
 asI .i64 x30 fun n32=>unc l31 fun x33 l34=>cr x33 fun l38 n41 b44=>(unn l34 (grd (decide (ni 1 <= LIM)) (ar p0 (IntKind.wrap IntKind.i64 (p1 + 1)) n41 b44 l38 ([D.agg [D.int IntKind.i64 n17,D.int IntKind.i64 n32,D.str { data:=#[] },D.int IntKind.i64 (0),D.int IntKind.i64 (0)]])))))
 (
 br (n17 == 3)
 (
 ac V 114 [.op [.os (1,0) l23,.int .i64 n26,.bool b29]] fun x45 l46=>
 asI .i64 x45 fun n47=>unc l46 fun x48 l49=>cr x48 fun l53 n56 b59=>(unn l49 (grd (decide (ni 1 <= LIM)) (ar p0 (IntKind.wrap IntKind.i64 (p1 + 1)) n56 b59 l53 ([D.agg [D.int IntKind.i64 n17,D.int IntKind.i64 (IntKind.wrap IntKind.i64 (n47 - 1000000000)),D.str { data:=#[] },D.int IntKind.i64 (0),D.int IntKind.i64 (0)]])))))
 (
 br (n17 == 4)
 (
 ac V 174 [.rs (1,0) l23,.int .i64 n26] fun x60 l61=>
 CH x60 fun s65 n68 b71=>(unn l61 (br b29
 (grd (decide (ni 1 <= LIM)) (ar p0 (IntKind.wrap IntKind.i64 (p1 + 1)) n68 b71 l23 ([D.agg [D.int IntKind.i64 n17,D.int IntKind.i64 (0),D.str s65,D.int IntKind.i64 (0),D.int IntKind.i64 (0)]])))
 (grd (decide (ni 1 <= LIM)) (ar p0 (IntKind.wrap IntKind.i64 (p1 + 1)) n68 false l23 ([D.agg [D.int IntKind.i64 n17,D.int IntKind.i64 (0),D.str s65,D.int IntKind.i64 (0),D.int IntKind.i64 (0)]]))))))
 (
 br (n17 == 5)
 (
 ac V 114 [.op [.os (1,0) l23,.int .i64 n26,.bool b29]] fun x72 l73=>
 asI .i64 x72 fun n74=>unc l73 fun x75 l76=>cr x75 fun l80 n83 b86=>(unn l76 (ac V 114 [.op [.os (1,0) l80,.int .i64 n83,.bool b86]] fun x87 l88=>
 asI .i64 x87 fun n89=>unc l88 fun x90 l91=>cr x90 fun l95 n98 b101=>(unn l91 (grd (decide (ni 1 <= LIM)) (ar p0 (IntKind.wrap IntKind.i64 (p1 + 1)) n98 b101 l95 ([D.agg [D.int IntKind.i64 n17,D.int IntKind.i64 (0),D.str { data:=#[] },D.int IntKind.i64 n74,D.int IntKind.i64 n89]])))))))
 (
 br (n17 == 6)
 (
 ac V 114 [.op [.os (1,0) l23,.int .i64 n26,.bool b29]] fun x102 l103=>
 asI .i64 x102 fun n104=>unc l103 fun x105 l106=>cr x105 fun l110 n113 b116=>(unn l106 (ac V 114 [.op [.os (1,0) l110,.int .i64 n113,.bool b116]] fun x117 l118=>
 asI .i64 x117 fun n119=>unc l118 fun x120 l121=>cr x120 fun l125 n128 b131=>(unn l121 (grd (decide (ni 1 <= LIM)) (ar p0 (IntKind.wrap IntKind.i64 (p1 + 1)) n128 b131 l125 ([D.agg [D.int IntKind.i64 n17,D.int IntKind.i64 n104,D.str { data:=#[] },D.int IntKind.i64 n119,D.int IntKind.i64 (0)]])))))))
 (
 br (n17 == 7)
 (
 ac V 114 [.op [.os (1,0) l23,.int .i64 n26,.bool b29]] fun x132 l133=>
 asI .i64 x132 fun n134=>unc l133 fun x135 l136=>cr x135 fun l140 n143 b146=>(unn l136 (grd (decide (ni 1 <= LIM)) (ar p0 (IntKind.wrap IntKind.i64 (p1 + 1)) n143 b146 l140 ([D.agg [D.int IntKind.i64 n17,D.int IntKind.i64 (0),D.str { data:=#[] },D.int IntKind.i64 n134,D.int IntKind.i64 (0)]])))))
 (grd (decide (ni 1 <= LIM)) (ar p0 (IntKind.wrap IntKind.i64 (p1 + 1)) n26 b29 l23 ([D.agg [D.int IntKind.i64 n17,D.int IntKind.i64 (0),D.str { data:=#[] },D.int IntKind.i64 (0),D.int IntKind.i64 (0)]])))))))))
 (
 br (n17 == 8)
 (
 br (n17 == 8)
 (
 ac V 114 [.op [.os (1,0) l23,.int .i64 n26,.bool b29]] fun x147 l148=>
 asI .i64 x147 fun n149=>unc l148 fun x150 l151=>cr x150 fun l155 n158 b161=>(unn l151 (grd (decide (ni 1 <= LIM)) (ar p0 (IntKind.wrap IntKind.i64 (p1 + 1)) n158 b161 l155 ([D.agg [D.int IntKind.i64 n17,D.int IntKind.i64 n149,D.str { data:=#[] },D.int IntKind.i64 (0),D.int IntKind.i64 (0)]])))))
 (
 br (n17 == 3)
 (
 ac V 114 [.op [.os (1,0) l23,.int .i64 n26,.bool b29]] fun x162 l163=>
 asI .i64 x162 fun n164=>unc l163 fun x165 l166=>cr x165 fun l170 n173 b176=>(unn l166 (grd (decide (ni 1 <= LIM)) (ar p0 (IntKind.wrap IntKind.i64 (p1 + 1)) n173 b176 l170 ([D.agg [D.int IntKind.i64 n17,D.int IntKind.i64 (IntKind.wrap IntKind.i64 (n164 - 1000000000)),D.str { data:=#[] },D.int IntKind.i64 (0),D.int IntKind.i64 (0)]])))))
 (
 br (n17 == 4)
 (
 ac V 174 [.rs (1,0) l23,.int .i64 n26] fun x177 l178=>
 CH x177 fun s182 n185 b188=>(unn l178 (br b29
 (grd (decide (ni 1 <= LIM)) (ar p0 (IntKind.wrap IntKind.i64 (p1 + 1)) n185 b188 l23 ([D.agg [D.int IntKind.i64 n17,D.int IntKind.i64 (0),D.str s182,D.int IntKind.i64 (0),D.int IntKind.i64 (0)]])))
 (grd (decide (ni 1 <= LIM)) (ar p0 (IntKind.wrap IntKind.i64 (p1 + 1)) n185 false l23 ([D.agg [D.int IntKind.i64 n17,D.int IntKind.i64 (0),D.str s182,D.int IntKind.i64 (0),D.int IntKind.i64 (0)]]))))))
 (
 br (n17 == 5)
 (
 ac V 114 [.op [.os (1,0) l23,.int .i64 n26,.bool b29]] fun x189 l190=>
 asI .i64 x189 fun n191=>unc l190 fun x192 l193=>cr x192 fun l197 n200 b203=>(unn l193 (ac V 114 [.op [.os (1,0) l197,.int .i64 n200,.bool b203]] fun x204 l205=>
 asI .i64 x204 fun n206=>unc l205 fun x207 l208=>cr x207 fun l212 n215 b218=>(unn l208 (grd (decide (ni 1 <= LIM)) (ar p0 (IntKind.wrap IntKind.i64 (p1 + 1)) n215 b218 l212 ([D.agg [D.int IntKind.i64 n17,D.int IntKind.i64 (0),D.str { data:=#[] },D.int IntKind.i64 n191,D.int IntKind.i64 n206]])))))))
 (
 br (n17 == 6)
 (
 ac V 114 [.op [.os (1,0) l23,.int .i64 n26,.bool b29]] fun x219 l220=>
 asI .i64 x219 fun n221=>unc l220 fun x222 l223=>cr x222 fun l227 n230 b233=>(unn l223 (ac V 114 [.op [.os (1,0) l227,.int .i64 n230,.bool b233]] fun x234 l235=>
 asI .i64 x234 fun n236=>unc l235 fun x237 l238=>cr x237 fun l242 n245 b248=>(unn l238 (grd (decide (ni 1 <= LIM)) (ar p0 (IntKind.wrap IntKind.i64 (p1 + 1)) n245 b248 l242 ([D.agg [D.int IntKind.i64 n17,D.int IntKind.i64 n221,D.str { data:=#[] },D.int IntKind.i64 n236,D.int IntKind.i64 (0)]])))))))
 (
 br (n17 == 7)
 (
 ac V 114 [.op [.os (1,0) l23,.int .i64 n26,.bool b29]] fun x249 l250=>
 asI .i64 x249 fun n251=>unc l250 fun x252 l253=>cr x252 fun l257 n260 b263=>(unn l253 (grd (decide (ni 1 <= LIM)) (ar p0 (IntKind.wrap IntKind.i64 (p1 + 1)) n260 b263 l257 ([D.agg [D.int IntKind.i64 n17,D.int IntKind.i64 (0),D.str { data:=#[] },D.int IntKind.i64 n251,D.int IntKind.i64 (0)]])))))
 (grd (decide (ni 1 <= LIM)) (ar p0 (IntKind.wrap IntKind.i64 (p1 + 1)) n26 b29 l23 ([D.agg [D.int IntKind.i64 n17,D.int IntKind.i64 (0),D.str { data:=#[] },D.int IntKind.i64 (0),D.int IntKind.i64 (0)]])))))))))
 (
 br (n17 == 9)
 (
 ac V 114 [.op [.os (1,0) l23,.int .i64 n26,.bool b29]] fun x264 l265=>
 asI .i64 x264 fun n266=>unc l265 fun x267 l268=>cr x267 fun l272 n275 b278=>(unn l268 (grd (decide (ni 1 <= LIM)) (ar p0 (IntKind.wrap IntKind.i64 (p1 + 1)) n275 b278 l272 ([D.agg [D.int IntKind.i64 n17,D.int IntKind.i64 n266,D.str { data:=#[] },D.int IntKind.i64 (0),D.int IntKind.i64 (0)]])))))
 (
 br (n17 == 3)
 (
 ac V 114 [.op [.os (1,0) l23,.int .i64 n26,.bool b29]] fun x279 l280=>
 asI .i64 x279 fun n281=>unc l280 fun x282 l283=>cr x282 fun l287 n290 b293=>(unn l283 (grd (decide (ni 1 <= LIM)) (ar p0 (IntKind.wrap IntKind.i64 (p1 + 1)) n290 b293 l287 ([D.agg [D.int IntKind.i64 n17,D.int IntKind.i64 (IntKind.wrap IntKind.i64 (n281 - 1000000000)),D.str { data:=#[] },D.int IntKind.i64 (0),D.int IntKind.i64 (0)]])))))
 (
 br (n17 == 4)
 (
 ac V 174 [.rs (1,0) l23,.int .i64 n26] fun x294 l295=>
 CH x294 fun s299 n302 b305=>(unn l295 (br b29
 (grd (decide (ni 1 <= LIM)) (ar p0 (IntKind.wrap IntKind.i64 (p1 + 1)) n302 b305 l23 ([D.agg [D.int IntKind.i64 n17,D.int IntKind.i64 (0),D.str s299,D.int IntKind.i64 (0),D.int IntKind.i64 (0)]])))
 (grd (decide (ni 1 <= LIM)) (ar p0 (IntKind.wrap IntKind.i64 (p1 + 1)) n302 false l23 ([D.agg [D.int IntKind.i64 n17,D.int IntKind.i64 (0),D.str s299,D.int IntKind.i64 (0),D.int IntKind.i64 (0)]]))))))
 (
 br (n17 == 5)
 (
 ac V 114 [.op [.os (1,0) l23,.int .i64 n26,.bool b29]] fun x306 l307=>
 asI .i64 x306 fun n308=>unc l307 fun x309 l310=>cr x309 fun l314 n317 b320=>(unn l310 (ac V 114 [.op [.os (1,0) l314,.int .i64 n317,.bool b320]] fun x321 l322=>
 asI .i64 x321 fun n323=>unc l322 fun x324 l325=>cr x324 fun l329 n332 b335=>(unn l325 (grd (decide (ni 1 <= LIM)) (ar p0 (IntKind.wrap IntKind.i64 (p1 + 1)) n332 b335 l329 ([D.agg [D.int IntKind.i64 n17,D.int IntKind.i64 (0),D.str { data:=#[] },D.int IntKind.i64 n308,D.int IntKind.i64 n323]])))))))
 (
 br (n17 == 6)
 (
 ac V 114 [.op [.os (1,0) l23,.int .i64 n26,.bool b29]] fun x336 l337=>
 asI .i64 x336 fun n338=>unc l337 fun x339 l340=>cr x339 fun l344 n347 b350=>(unn l340 (ac V 114 [.op [.os (1,0) l344,.int .i64 n347,.bool b350]] fun x351 l352=>
 asI .i64 x351 fun n353=>unc l352 fun x354 l355=>cr x354 fun l359 n362 b365=>(unn l355 (grd (decide (ni 1 <= LIM)) (ar p0 (IntKind.wrap IntKind.i64 (p1 + 1)) n362 b365 l359 ([D.agg [D.int IntKind.i64 n17,D.int IntKind.i64 n338,D.str { data:=#[] },D.int IntKind.i64 n353,D.int IntKind.i64 (0)]])))))))
 (
 br (n17 == 7)
 (
 ac V 114 [.op [.os (1,0) l23,.int .i64 n26,.bool b29]] fun x366 l367=>
 asI .i64 x366 fun n368=>unc l367 fun x369 l370=>cr x369 fun l374 n377 b380=>(unn l370 (grd (decide (ni 1 <= LIM)) (ar p0 (IntKind.wrap IntKind.i64 (p1 + 1)) n377 b380 l374 ([D.agg [D.int IntKind.i64 n17,D.int IntKind.i64 (0),D.str { data:=#[] },D.int IntKind.i64 n368,D.int IntKind.i64 (0)]])))))
 (grd (decide (ni 1 <= LIM)) (ar p0 (IntKind.wrap IntKind.i64 (p1 + 1)) n26 b29 l23 ([D.agg [D.int IntKind.i64 n17,D.int IntKind.i64 (0),D.str { data:=#[] },D.int IntKind.i64 (0),D.int IntKind.i64 (0)]])))))))))))))
 (
 br p3
 (
 br (p2 == ni p4.length)
 (
 ac V 60 [.agg [.rs (5,0) []]] fun x381 l382=>
 asB x381 fun b383=>unn l382 (some ((.agg [.os (5,0) []]),[.op [.os (1,0) p4,.int .i64 p2,.bool b383]])))
 (some ((.agg [.os (5,0) []]),[.op [.os (1,0) p4,.int .i64 p2,.bool false]])))
 (some ((.agg [.os (5,0) []]),[.op [.os (1,0) p4,.int .i64 p2,.bool false]]))))
 (
 br p3
 (
 br (p2 == ni p4.length)
 (
 ac V 60 [.agg [.rs (5,0) []]] fun x384 l385=>
 asB x384 fun b386=>unn l385 (some ((.agg [.os (5,0) []]),[.op [.os (1,0) p4,.int .i64 p2,.bool b386]])))
 (some ((.agg [.os (5,0) []]),[.op [.os (1,0) p4,.int .i64 p2,.bool false]])))
 (some ((.agg [.os (5,0) []]),[.op [.os (1,0) p4,.int .i64 p2,.bool false]]))):=by
 exact (cd _ _ _).trans (by kernel_rfl)
theorem jM (p0:List D) (p1 p2:Int) (p3:List D):aM p0 p1 p2 p3 =
 br (decide (p2 < p1))
 (
 grd (decide (0 <= p2) && decide (p2 < ni p0.length)) (az p0 p2.toNat fun x3=>
 tk1 x3 fun n7 n10 s13 n16 n19=>(ac V 67 [.int .i64 n7] fun x20 l21=>
 aI (1,0) x20 fun l22=>unn l21 (grd (decide (ni (List.length (p3++l22)) <= LIM)) (nam (p3++l22) fun l23=>
 br (n7 == 2)
 (
 br (n7 == 2)
 (
 ac V 67 [.int .i64 n10] fun x24 l25=>
 aI (1,0) x24 fun l26=>unn l25 (grd (decide (ni (List.length (l23++l26)) <= LIM)) (nam (l23++l26) fun l27=>
 aM p0 p1 (IntKind.wrap IntKind.i64 (p2 + 1)) l27)))
 (
 br (n7 == 3)
 (
 ac V 67 [(.int .i64 (IntKind.wrap IntKind.i64 (n10 + 1000000000)))] fun x28 l29=>
 aI (1,0) x28 fun l30=>unn l29 (grd (decide (ni (List.length (l23++l30)) <= LIM)) (nam (l23++l30) fun l31=>
 aM p0 p1 (IntKind.wrap IntKind.i64 (p2 + 1)) l31)))
 (
 br (n7 == 4)
 (
 ac V 138 [.str s13] fun x32 l33=>
 aI (1,0) x32 fun l34=>unn l33 (grd (decide (ni (List.length (l23++l34)) <= LIM)) (nam (l23++l34) fun l35=>
 aM p0 p1 (IntKind.wrap IntKind.i64 (p2 + 1)) l35)))
 (
 br (n7 == 5)
 (
 ac V 67 [.int .i64 n16] fun x36 l37=>
 aI (1,0) x36 fun l38=>unn l37 (grd (decide (ni (List.length (l23++l38)) <= LIM)) (nam (l23++l38) fun l39=>
 ac V 67 [.int .i64 n19] fun x40 l41=>
 aI (1,0) x40 fun l42=>unn l41 (grd (decide (ni (List.length (l39++l42)) <= LIM)) (nam (l39++l42) fun l43=>
 aM p0 p1 (IntKind.wrap IntKind.i64 (p2 + 1)) l43)))))
 (
 br (n7 == 6)
 (
 ac V 67 [.int .i64 n10] fun x44 l45=>
 aI (1,0) x44 fun l46=>unn l45 (grd (decide (ni (List.length (l23++l46)) <= LIM)) (nam (l23++l46) fun l47=>
 ac V 67 [.int .i64 n16] fun x48 l49=>
 aI (1,0) x48 fun l50=>unn l49 (grd (decide (ni (List.length (l47++l50)) <= LIM)) (nam (l47++l50) fun l51=>
 aM p0 p1 (IntKind.wrap IntKind.i64 (p2 + 1)) l51)))))
 (
 br (n7 == 7)
 (
 ac V 67 [.int .i64 n16] fun x52 l53=>
 aI (1,0) x52 fun l54=>unn l53 (grd (decide (ni (List.length (l23++l54)) <= LIM)) (nam (l23++l54) fun l55=>
 aM p0 p1 (IntKind.wrap IntKind.i64 (p2 + 1)) l55)))
 (aM p0 p1 (IntKind.wrap IntKind.i64 (p2 + 1)) l23)))))))
 (
 br (n7 == 8)
 (
 br (n7 == 8)
 (
 ac V 67 [.int .i64 n10] fun x56 l57=>
 aI (1,0) x56 fun l58=>unn l57 (grd (decide (ni (List.length (l23++l58)) <= LIM)) (nam (l23++l58) fun l59=>
 aM p0 p1 (IntKind.wrap IntKind.i64 (p2 + 1)) l59)))
 (
 br (n7 == 3)
 (
 ac V 67 [(.int .i64 (IntKind.wrap IntKind.i64 (n10 + 1000000000)))] fun x60 l61=>
 aI (1,0) x60 fun l62=>unn l61 (grd (decide (ni (List.length (l23++l62)) <= LIM)) (nam (l23++l62) fun l63=>
 aM p0 p1 (IntKind.wrap IntKind.i64 (p2 + 1)) l63)))
 (
 br (n7 == 4)
 (
 ac V 138 [.str s13] fun x64 l65=>
 aI (1,0) x64 fun l66=>unn l65 (grd (decide (ni (List.length (l23++l66)) <= LIM)) (nam (l23++l66) fun l67=>
 aM p0 p1 (IntKind.wrap IntKind.i64 (p2 + 1)) l67)))
 (
 br (n7 == 5)
 (
 ac V 67 [.int .i64 n16] fun x68 l69=>
 aI (1,0) x68 fun l70=>unn l69 (grd (decide (ni (List.length (l23++l70)) <= LIM)) (nam (l23++l70) fun l71=>
 ac V 67 [.int .i64 n19] fun x72 l73=>
 aI (1,0) x72 fun l74=>unn l73 (grd (decide (ni (List.length (l71++l74)) <= LIM)) (nam (l71++l74) fun l75=>
 aM p0 p1 (IntKind.wrap IntKind.i64 (p2 + 1)) l75)))))
 (
 br (n7 == 6)
 (
 ac V 67 [.int .i64 n10] fun x76 l77=>
 aI (1,0) x76 fun l78=>unn l77 (grd (decide (ni (List.length (l23++l78)) <= LIM)) (nam (l23++l78) fun l79=>
 ac V 67 [.int .i64 n16] fun x80 l81=>
 aI (1,0) x80 fun l82=>unn l81 (grd (decide (ni (List.length (l79++l82)) <= LIM)) (nam (l79++l82) fun l83=>
 aM p0 p1 (IntKind.wrap IntKind.i64 (p2 + 1)) l83)))))
 (
 br (n7 == 7)
 (
 ac V 67 [.int .i64 n16] fun x84 l85=>
 aI (1,0) x84 fun l86=>unn l85 (grd (decide (ni (List.length (l23++l86)) <= LIM)) (nam (l23++l86) fun l87=>
 aM p0 p1 (IntKind.wrap IntKind.i64 (p2 + 1)) l87)))
 (aM p0 p1 (IntKind.wrap IntKind.i64 (p2 + 1)) l23)))))))
 (
 br (n7 == 9)
 (
 ac V 67 [.int .i64 n10] fun x88 l89=>
 aI (1,0) x88 fun l90=>unn l89 (grd (decide (ni (List.length (l23++l90)) <= LIM)) (nam (l23++l90) fun l91=>
 aM p0 p1 (IntKind.wrap IntKind.i64 (p2 + 1)) l91)))
 (
 br (n7 == 3)
 (
 ac V 67 [(.int .i64 (IntKind.wrap IntKind.i64 (n10 + 1000000000)))] fun x92 l93=>
 aI (1,0) x92 fun l94=>unn l93 (grd (decide (ni (List.length (l23++l94)) <= LIM)) (nam (l23++l94) fun l95=>
 aM p0 p1 (IntKind.wrap IntKind.i64 (p2 + 1)) l95)))
 (
 br (n7 == 4)
 (
 ac V 138 [.str s13] fun x96 l97=>
 aI (1,0) x96 fun l98=>unn l97 (grd (decide (ni (List.length (l23++l98)) <= LIM)) (nam (l23++l98) fun l99=>
 aM p0 p1 (IntKind.wrap IntKind.i64 (p2 + 1)) l99)))
 (
 br (n7 == 5)
 (
 ac V 67 [.int .i64 n16] fun x100 l101=>
 aI (1,0) x100 fun l102=>unn l101 (grd (decide (ni (List.length (l23++l102)) <= LIM)) (nam (l23++l102) fun l103=>
 ac V 67 [.int .i64 n19] fun x104 l105=>
 aI (1,0) x104 fun l106=>unn l105 (grd (decide (ni (List.length (l103++l106)) <= LIM)) (nam (l103++l106) fun l107=>
 aM p0 p1 (IntKind.wrap IntKind.i64 (p2 + 1)) l107)))))
 (
 br (n7 == 6)
 (
 ac V 67 [.int .i64 n10] fun x108 l109=>
 aI (1,0) x108 fun l110=>unn l109 (grd (decide (ni (List.length (l23++l110)) <= LIM)) (nam (l23++l110) fun l111=>
 ac V 67 [.int .i64 n16] fun x112 l113=>
 aI (1,0) x112 fun l114=>unn l113 (grd (decide (ni (List.length (l111++l114)) <= LIM)) (nam (l111++l114) fun l115=>
 aM p0 p1 (IntKind.wrap IntKind.i64 (p2 + 1)) l115)))))
 (
 br (n7 == 7)
 (
 ac V 67 [.int .i64 n16] fun x116 l117=>
 aI (1,0) x116 fun l118=>unn l117 (grd (decide (ni (List.length (l23++l118)) <= LIM)) (nam (l23++l118) fun l119=>
 aM p0 p1 (IntKind.wrap IntKind.i64 (p2 + 1)) l119)))
 (aM p0 p1 (IntKind.wrap IntKind.i64 (p2 + 1)) l23)))))))))))))
 (some ((.os (1,0) p3),[])):=by
 exact (cd _ _ _).trans (by kernel_rfl)
theorem Eo (p l d:List D) (h x:Int):V 215 [.op [.os (5,0) p,.os (4,0) l,.os (3,0) d,.int .i64 h],.int .i64 x] =
 grd (decide (0 <= x) && decide (x < ni p.length)) (az p x.toNat fun x0=>
 asAgg x0 fun l1=>az l1 0 fun x2=>
 asI .i64 x2 fun n3=>br (n3 == 5)
 (
 ac V 228 [.agg [.rs (5,0) p],.int .i64 x] fun x4 l5=>
 tk3 x4 fun l9 b12=>(unn l5 (br (!b12)
 (
 ac V 229 [.op [.os (5,0) p,.os (4,0) l,.os (3,0) d,.int .i64 h],.str ({ data:=#[109,97,105,110] }),.rs (1,0) [],.rs (1,0) [.int .i64 x]] fun x13 l14=>
 aP x13 fun l15=>unn l15 (unc l14 fun x16 l17=>tk2 x16 fun l21 l24 l27 n30=>(unn l17 (some ((.tup []),[.op [.os (5,0) l21,.os (4,0) l24,.os (3,0) l27,.int .i64 n30]])))))
 (
 grd (decide (0 <= 0) && decide (0 < ni l9.length)) (az l9 0 fun x31=>
 asI .i64 x31 fun n32=>grd (decide (0 <= n32) && decide (n32 < ni p.length)) (az p n32.toNat fun x33=>
 asAgg x33 fun l34=>az l34 0 fun x35=>
 asI .i64 x35 fun n36=>br (n36 != 4)
 (
 ac V 229 [.op [.os (5,0) p,.os (4,0) l,.os (3,0) d,.int .i64 h],.str ({ data:=#[109,97,105,110] }),.rs (1,0) [],.rs (1,0) [.int .i64 x]] fun x37 l38=>
 aP x37 fun l39=>unn l39 (unc l38 fun x40 l41=>tk2 x40 fun l45 l48 l51 n54=>(unn l41 (some ((.tup []),[.op [.os (5,0) l45,.os (4,0) l48,.os (3,0) l51,.int .i64 n54]])))))
 (
 grd (decide (0 <= 0) && decide (0 < ni l9.length)) (az l9 0 fun x55=>
 asI .i64 x55 fun n56=>grd (decide (0 <= n56) && decide (n56 < ni p.length)) (az p n56.toNat fun x57=>
 asAgg x57 fun l58=>az l58 2 fun x59=>
 asS x59 fun s60=>br (!ax s60 { data:=#[100,101,102,105,110,101] })
 (
 ac V 229 [.op [.os (5,0) p,.os (4,0) l,.os (3,0) d,.int .i64 h],.str ({ data:=#[109,97,105,110] }),.rs (1,0) [],.rs (1,0) [.int .i64 x]] fun x61 l62=>
 aP x61 fun l63=>unn l63 (unc l62 fun x64 l65=>tk2 x64 fun l69 l72 l75 n78=>(unn l65 (some ((.tup []),[.op [.os (5,0) l69,.os (4,0) l72,.os (3,0) l75,.int .i64 n78]])))))
 (
 br (decide (ni l9.length < 3))
 (some ((.tup []),[.op [.os (5,0) p,.os (4,0) l,.os (3,0) d,.int .i64 (1)]]))
 (
 grd (decide (0 <= 1) && decide (1 < ni l9.length)) (az l9 1 fun x79=>
 asI .i64 x79 fun n80=>grd (decide (0 <= n80) && decide (n80 < ni p.length)) (az p n80.toNat fun x81=>
 asAgg x81 fun l82=>az l82 0 fun x83=>
 asI .i64 x83 fun n84=>br (n84 != 5)
 (some ((.tup []),[.op [.os (5,0) p,.os (4,0) l,.os (3,0) d,.int .i64 (1)]]))
 (
 grd (decide (0 <= 1) && decide (1 < ni l9.length)) (az l9 1 fun x85=>
 asI .i64 x85 fun n86=>ac V 228 [.agg [.rs (5,0) p],.int .i64 n86] fun x87 l88=>
 tk3 x87 fun l92 b95=>(unn l88 (br (!b95)
 (some ((.tup []),[.op [.os (5,0) p,.os (4,0) l,.os (3,0) d,.int .i64 (1)]]))
 (
 grd (decide (0 <= 0) && decide (0 < ni l92.length)) (az l92 0 fun x96=>
 asI .i64 x96 fun n97=>ac V 230 [.op [.os (5,0) p,.os (4,0) l,.os (3,0) d,.int .i64 h],.int .i64 n97] fun x98 l99=>
 tk5 x98 fun s103 b106=>(unc l99 fun x107 l108=>tk2 x107 fun l112 l115 l118 n121=>(unn l108 (br (!b106)
 (some ((.tup []),[.op [.os (5,0) l112,.os (4,0) l115,.os (3,0) l118,.int .i64 (1)]]))
 (
 grd (bi l92.length (some (1)) none) (ac V 231 [.op [.os (5,0) l112,.os (4,0) l115,.os (3,0) l118,.int .i64 n121],(.rs (1,0) (part l92 (some (Int.toNat (1),List.length l92 - Int.toNat (1)))))] fun x122 l123=>
 aI (1,0) x122 fun l124=>unc l123 fun x125 l126=>tk2 x125 fun l130 l133 l136 n139=>(unn l126 (grd (bi l9.length (some (2)) none) (ac V 229 [.op [.os (5,0) l130,.os (4,0) l133,.os (3,0) l136,.int .i64 n139],.str s103,.rs (1,0) l124,(.rs (1,0) (part l9 (some (Int.toNat (2),List.length l9 - Int.toNat (2)))))] fun x140 l141=>
 aP x140 fun l142=>unn l142 (unc l141 fun x143 l144=>tk2 x143 fun l148 l151 l154 n157=>(unn l144 (some ((.tup []),[.op [.os (5,0) l148,.os (4,0) l151,.os (3,0) l154,.int .i64 n157]])))))))))))))))))))))))))))))))
 (
 ac V 229 [.op [.os (5,0) p,.os (4,0) l,.os (3,0) d,.int .i64 h],.str ({ data:=#[109,97,105,110] }),.rs (1,0) [],.rs (1,0) [.int .i64 x]] fun x158 l159=>
 aP x158 fun l160=>unn l160 (unc l159 fun x161 l162=>tk2 x161 fun l166 l169 l172 n175=>(unn l162 (some ((.tup []),[.op [.os (5,0) l166,.os (4,0) l169,.os (3,0) l172,.int .i64 n175]])))))):=by
 exact (aX Tryz.func215 rfl _).trans (by kernel_rfl)
theorem wE (a0_:List D):V 5 [.rs (1,0) a0_] =
 ac V 12 [.rs (1,0) a0_] fun x0 l1=>
 asB x0 fun b2=>unn l1 (br b2
 (some ((.bool true),[]))
 (
 ac V 23 [.rs (1,0) a0_] fun x3 l4=>
 aP x3 fun l5=>unc l5 fun x6 l7=>asAgg x6 fun l8=>unc l8 fun x9 l10=>uk (5,0) x9 fun l11=>unc l10 fun x12 l13=>uk (4,0) x12 fun l14=>unc l13 fun x15 l16=>uk (3,0) x15 fun l17=>unn l16 (unc l7 fun x18 l19=>asS x18 fun s20=>unc l19 fun x21 l22=>asI .i64 x21 fun n23=>unn l22 (unn l4 (ac V 24 [.agg [.rs (5,0) l11,.rs (4,0) l14,.rs (3,0) l17],.str s20,.int .i64 n23] fun x24 l25=>
 aP x24 fun l26=>unc l26 fun x27 l28=>asAgg x27 fun l29=>unc l29 fun x30 l31=>asI .i64 x30 fun n32=>unc l31 fun x33 l34=>aI (5,0) x33 fun l35=>unc l34 fun x36 l37=>asI .i64 x36 fun n38=>unc l37 fun x39 l40=>asI .i64 x39 fun n41=>unc l40 fun x42 l43=>asI .i64 x42 fun n44=>unc l43 fun x45 l46=>asI .i64 x45 fun n47=>unc l46 fun x48 l49=>asI .i64 x48 fun n50=>unc l49 fun x51 l52=>asI .i64 x51 fun n53=>unc l52 fun x54 l55=>asI .i64 x54 fun n56=>unc l55 fun x57 l58=>aI (1,0) x57 fun l59=>unc l58 fun x60 l61=>aI (1,0) x60 fun l62=>unn l61 (unc l28 fun x63 l64=>asB x63 fun b65=>unn l64 (unn l25 (ac V 25 [.agg [.rs (5,0) l11,.rs (4,0) l14,.rs (3,0) l17],.str s20,.int .i64 n23] fun x66 l67=>
 aP x66 fun l68=>unc l68 fun x69 l70=>asAgg x69 fun l71=>unc l71 fun x72 l73=>asI .i64 x72 fun _=>unc l73 fun x75 l76=>aI (5,0) x75 fun _=>unc l76 fun x78 l79=>asI .i64 x78 fun _=>unc l79 fun x81 l82=>asI .i64 x81 fun _=>unc l82 fun x84 l85=>asI .i64 x84 fun _=>unc l85 fun x87 l88=>asI .i64 x87 fun _=>unc l88 fun x90 l91=>asI .i64 x90 fun _=>unc l91 fun x93 l94=>asI .i64 x93 fun _=>unc l94 fun x96 l97=>asI .i64 x96 fun _=>unc l97 fun x99 l100=>aI (1,0) x99 fun _=>unc l100 fun x102 l103=>aI (1,0) x102 fun _=>unn l103 (unc l70 fun x105 l106=>asB x105 fun b107=>unn l106 (unn l67 (br (!b65 == b107)
 (some ((.bool false),[]))
 (
 br (!b65)
 (
 br (n32 == 0)
 (some ((.bool true),[]))
 (
 br b65
 (
 br (n32 == n23)
 (
 br (IntKind.wrap IntKind.i64 (ni l59.length + ni l62.length) == 0)
 (
 ac V 26 [.agg [.rs (5,0) l11,.rs (4,0) l14,.rs (3,0) l17],.agg [.int .i64 n32,.rs (5,0) l35,.int .i64 n38,.int .i64 n41,.int .i64 n44,.int .i64 n47,.int .i64 n50,.int .i64 n53,.int .i64 n56,.rs (1,0) l59,.rs (1,0) l62]] fun x108 l109=>
 asB x108 fun b110=>unn l109 (br b110
 (some ((.bool (n50 == 0)),[]))
 (some ((.bool false),[]))))
 (some ((.bool false),[])))
 (some ((.bool false),[])))
 (some ((.bool false),[]))))
 (
 br b65
 (
 br (n32 == n23)
 (
 br (IntKind.wrap IntKind.i64 (ni l59.length + ni l62.length) == 0)
 (
 ac V 26 [.agg [.rs (5,0) l11,.rs (4,0) l14,.rs (3,0) l17],.agg [.int .i64 n32,.rs (5,0) l35,.int .i64 n38,.int .i64 n41,.int .i64 n44,.int .i64 n47,.int .i64 n50,.int .i64 n53,.int .i64 n56,.rs (1,0) l59,.rs (1,0) l62]] fun x111 l112=>
 asB x111 fun b113=>unn l112 (br b113
 (some ((.bool (n50 == 0)),[]))
 (some ((.bool false),[]))))
 (some ((.bool false),[])))
 (some ((.bool false),[])))
 (some ((.bool false),[]))))))))))))))):=by
 exact (aX Tryz.func5 rfl _).trans (by kernel_rfl)
theorem uW (a0_0:List D) (a0_1 a0_2:Int):V 201 [.op [.rs (1,0) a0_0,.int .i64 a0_1,.int .i64 a0_2]] =
 ac V 76 [.op [.rs (1,0) a0_0,.int .i64 a0_1,.int .i64 a0_2],.int .i64 (8)] fun x0 l1=>
 asI .i64 x0 fun n2=>unc l1 fun x3 l4=>bH x3 fun l5=>unc l5 fun x6 l7=>cu (1,0) x6 fun l8=>unc l7 fun x9 l10=>asI .i64 x9 fun n11=>unc l10 fun x12 l13=>asI .i64 x12 fun n14=>unn l13 (unn l4 (br (n2 == 0)
 (some ((.agg [.int .i64 (1),.int .i64 (0),.str ({ data:=#[] }),.int .i64 (0),.int .i64 (0)]),[.op [.rs (1,0) l8,.int .i64 n11,.int .i64 n14]]))
 (
 br (n2 == 1)
 (
 ac V 76 [.op [.rs (1,0) l8,.int .i64 n11,.int .i64 n14],.int .i64 (2)] fun x15 l16=>
 asI .i64 x15 fun n17=>unc l16 fun x18 l19=>bH x18 fun l20=>unc l20 fun x21 l22=>cu (1,0) x21 fun l23=>unc l22 fun x24 l25=>asI .i64 x24 fun n26=>unc l25 fun x27 l28=>asI .i64 x27 fun n29=>unn l28 (unn l19 (some ((.agg [.int .i64 (2),.int .i64 n17,.str ({ data:=#[] }),.int .i64 (0),.int .i64 (0)]),[.op [.rs (1,0) l23,.int .i64 n26,.int .i64 n29]]))))
 (
 br (n2 == 2)
 (
 ac V 75 [.op [.rs (1,0) l8,.int .i64 n11,.int .i64 n14],(.rs (1,0) [.str ({ data:=#[97] }),.str ({ data:=#[98,99] }),.str ({ data:=#[120] }),.str ({ data:=#[102] }),.str ({ data:=#[43] }),.str ({ data:=#[108,105,115,116] })])] fun x30 l31=>
 asS x30 fun s32=>unc l31 fun x33 l34=>bH x33 fun l35=>unc l35 fun x36 l37=>cu (1,0) x36 fun l38=>unc l37 fun x39 l40=>asI .i64 x39 fun n41=>unc l40 fun x42 l43=>asI .i64 x42 fun n44=>unn l43 (unn l34 (some ((.agg [.int .i64 (4),.int .i64 (0),.str s32,.int .i64 (0),.int .i64 (0)]),[.op [.rs (1,0) l38,.int .i64 n41,.int .i64 n44]]))))
 (
 br (n2 == 3)
 (
 ac V 76 [.op [.rs (1,0) l8,.int .i64 n11,.int .i64 n14],.int .i64 (5)] fun x45 l46=>
 asI .i64 x45 fun n47=>unc l46 fun x48 l49=>bH x48 fun l50=>unc l50 fun x51 l52=>cu (1,0) x51 fun l53=>unc l52 fun x54 l55=>asI .i64 x54 fun n56=>unc l55 fun x57 l58=>asI .i64 x57 fun n59=>unn l58 (unn l49 (some ((.agg [.int .i64 (9),.int .i64 n47,.str ({ data:=#[] }),.int .i64 (0),.int .i64 (0)]),[.op [.rs (1,0) l53,.int .i64 n56,.int .i64 n59]]))))
 (
 br (n2 == 4)
 (
 ac V 76 [.op [.rs (1,0) l8,.int .i64 n11,.int .i64 n14],.int .i64 (5)] fun x60 l61=>
 asI .i64 x60 fun n62=>unc l61 fun x63 l64=>bH x63 fun l65=>unc l65 fun x66 l67=>cu (1,0) x66 fun l68=>unc l67 fun x69 l70=>asI .i64 x69 fun n71=>unc l70 fun x72 l73=>asI .i64 x72 fun n74=>unn l73 (unn l64 (some ((.agg [.int .i64 (8),.int .i64 n62,.str ({ data:=#[] }),.int .i64 (0),.int .i64 (0)]),[.op [.rs (1,0) l68,.int .i64 n71,.int .i64 n74]]))))
 (
 ac V 76 [.op [.rs (1,0) l8,.int .i64 n11,.int .i64 n14],.int .i64 (12)] fun x75 l76=>
 asI .i64 x75 fun n77=>unc l76 fun x78 l79=>bH x78 fun l80=>unc l80 fun x81 l82=>cu (1,0) x81 fun l83=>unc l82 fun x84 l85=>asI .i64 x84 fun n86=>unc l85 fun x87 l88=>asI .i64 x87 fun n89=>unn l88 (unn l79 (some ((.agg [.int .i64 (3),(.int .i64 (IntKind.wrap IntKind.i64 (n77 - 3))),.str ({ data:=#[] }),.int .i64 (0),.int .i64 (0)]),[.op [.rs (1,0) l83,.int .i64 n86,.int .i64 n89]])))))))))):=by
 exact (aX Tryz.func201 rfl _).trans (by kernel_rfl)
theorem wK (a0_0 a0_1 a0_2 a1_0:List D) (a1_1 a1_2 a1_3 a1_4 a1_5 a1_6 a1_7:Int):V 15 [.agg [.rs (5,0) a0_0,.rs (4,0) a0_1,.rs (3,0) a0_2],.agg [.rs (5,0) a1_0,.int .i64 a1_1,.int .i64 a1_2,.int .i64 a1_3,.int .i64 a1_4,.int .i64 a1_5,.int .i64 a1_6,.int .i64 a1_7]] =
 ac V 59 [.agg [.rs (5,0) a0_0,.rs (4,0) a0_1,.rs (3,0) a0_2]] fun x0 l1=>
 asB x0 fun b2=>unn l1 (br (!b2)
 (some ((.bool false),[]))
 (
 ac V 60 [.agg [.rs (5,0) a1_0]] fun x3 l4=>
 asB x3 fun b5=>unn l4 (br (!b5)
 (some ((.bool false),[]))
 (
 ac V 61 [.agg [.rs (5,0) a1_0],.int .i64 a1_2] fun x6 l7=>
 asB x6 fun b8=>unn l7 (br (!b8)
 (some ((.bool false),[]))
 (
 ac V 61 [.agg [.rs (5,0) a1_0],.int .i64 a1_3] fun x9 l10=>
 asB x9 fun b11=>unn l10 (br (!b11)
 (some ((.bool false),[]))
 (
 ac V 61 [.agg [.rs (5,0) a1_0],.int .i64 a1_4] fun x12 l13=>
 asB x12 fun b14=>unn l13 (br (!b14)
 (some ((.bool false),[]))
 (
 ac V 62 [.int .i64 a1_1,.int .i64 (0),(.int .i64 (IntKind.wrap IntKind.i64 (ni a0_1.length - 1)))] fun x15 l16=>
 asB x15 fun b17=>unn l16 (br (a1_5 == 0)
 (
 br b17
 (
 br (a1_6 == 0)
 (some ((.bool (a1_7 == 0)),[]))
 (some ((.bool false),[])))
 (some ((.bool false),[])))
 (
 br (a1_5 == 1)
 (
 br b17
 (
 ac V 62 [.int .i64 a1_6,.int .i64 (13),.int .i64 (19)] fun x18 l19=>
 asB x18 fun b20=>unn l19 (br b20
 (
 br (a1_6 != 18)
 (
 ac V 61 [.agg [.rs (5,0) a1_0],.int .i64 a1_7] fun x21 l22=>
 asB x21 fun b23=>unn l22 (some ((.bool b23),[])))
 (some ((.bool false),[])))
 (some ((.bool false),[]))))
 (some ((.bool false),[])))
 (
 br (a1_5 == 2)
 (
 br (a1_1 == 0)
 (
 br (a1_6 == 0)
 (
 ac V 61 [.agg [.rs (5,0) a1_0],.int .i64 a1_7] fun x24 l25=>
 asB x24 fun b26=>unn l25 (some ((.bool b26),[])))
 (some ((.bool false),[])))
 (some ((.bool false),[])))
 (
 br (a1_5 == 3)
 (
 br (a1_1 == 0)
 (
 ac V 62 [.int .i64 a1_6,.int .i64 (1),.int .i64 (7)] fun x27 l28=>
 asB x27 fun b29=>unn l28 (br b29
 (some ((.bool (a1_7 == 0)),[]))
 (some ((.bool false),[]))))
 (some ((.bool false),[])))
 (some ((.bool false),[])))))))))))))))):=by
 exact (aX Tryz.func15 rfl _).trans (by kernel_rfl)
theorem ub (a0_:List D):V 23 [.rs (1,0) a0_] =
 ac V 51 [.rs (1,0) a0_] fun x0 l1=>
 bH x0 fun l2=>unc l2 fun x3 l4=>cu (1,0) x3 fun l5=>unc l4 fun x6 l7=>asI .i64 x6 fun n8=>unc l7 fun x9 l10=>asI .i64 x9 fun n11=>unn l10 (unn l1 (ac V 74 [.op [.rs (1,0) l5,.int .i64 n8,.int .i64 n11]] fun x12 l13=>
 asAgg x12 fun l14=>unc l14 fun x15 l16=>aI (5,0) x15 fun l17=>unc l16 fun x18 l19=>aI (4,0) x18 fun l20=>unc l19 fun x21 l22=>aI (3,0) x21 fun l23=>unn l22 (unc l13 fun x24 l25=>bH x24 fun l26=>unc l26 fun x27 l28=>cu (1,0) x27 fun l29=>unc l28 fun x30 l31=>asI .i64 x30 fun n32=>unc l31 fun x33 l34=>asI .i64 x33 fun n35=>unn l34 (unn l25 (ac V 75 [.op [.rs (1,0) l29,.int .i64 n32,.int .i64 n35],(.rs (1,0) [.str ({ data:=#[109,97,105,110] }),.str ({ data:=#[109,97,105,110] }),.str ({ data:=#[102] }),.str ({ data:=#[122,122] })])] fun x36 l37=>
 asS x36 fun s38=>unc l37 fun x39 l40=>bH x39 fun l41=>unc l41 fun x42 l43=>cu (1,0) x42 fun l44=>unc l43 fun x45 l46=>asI .i64 x45 fun n47=>unc l46 fun x48 l49=>asI .i64 x48 fun n50=>unn l49 (unn l40 (ac V 76 [.op [.rs (1,0) l44,.int .i64 n47,.int .i64 n50],.int .i64 (5)] fun x51 l52=>
 asI .i64 x51 fun n53=>unc l52 fun x54 l55=>bH x54 fun l56=>unc l56 fun x57 l58=>cu (1,0) x57 fun _=>unc l58 fun x60 l61=>asI .i64 x60 fun _=>unc l61 fun x63 l64=>asI .i64 x63 fun _=>unn l64 (unn l55 (some ((.tup [.agg [.os (5,0) l17,.os (4,0) l20,.os (3,0) l23],.str s38,.int .i64 n53]),[])))))))))):=by
 exact (aX Tryz.func23 rfl _).trans (by kernel_rfl)
theorem qN (p0:List D) (p1 p2:Int) (p3:List D):jg p0 p1 p2 p3 =
 br (decide (p1 < ni p0.length))
 (
 grd (decide (0 <= p1) && decide (p1 < ni p0.length)) (az p0 p1.toNat fun x14=>
 asI .i64 x14 fun n15=>ac V 215 [.op [.os (5,0) p3,.os (4,0) [],.os (3,0) [],.int .i64 p2],.int .i64 n15] fun x16 l17=>
 aP x16 fun l18=>unn l18 (unc l17 fun x19 l20=>tk2 x19 fun l24 l27 l30 n33=>(unn l20 (br (n33 == 3)
 (some ((.tup [.agg [.os (5,0) [],.os (4,0) [],.os (3,0) []],.int .i64 (3),.int .i64 (0)]),[]))
 (
 br (n33 != 0)
 (some ((.tup [.agg [.os (5,0) [],.os (4,0) [],.os (3,0) []],.int .i64 n33,.int .i64 p1]),[]))
 (fC p0 (IntKind.wrap IntKind.i64 (p1 + 1)) n33 l24 l27 l30)))))))
 (
 ac V 59 [.agg [.rs (5,0) p3,.rs (4,0) [],.rs (3,0) []]] fun x34 l35=>
 asB x34 fun b36=>unn l35 (br (!b36)
 (some ((.tup [.agg [.os (5,0) [],.os (4,0) [],.os (3,0) []],.int .i64 (3),.int .i64 (0)]),[]))
 (some ((.tup [.agg [.os (5,0) p3,.os (4,0) [],.os (3,0) []],.int .i64 (0),(.int .i64 (ni p0.length))]),[])))):=by
 exact (cd _ _ _).trans (by kernel_rfl)
theorem wD (a0_0:List D) (a1_:Int):V 195 [.agg [.rs (5,0) a0_0],.int .i64 a1_] =
 ac V 55 [.agg [.rs (5,0) a0_0]] fun x0 l1=>
 asB x0 fun b2=>unn l1 (br (!b2)
 (some ((.tup [.str ({ data:=#[] }),.bool false]),[]))
 (
 ac V 56 [.agg [.rs (5,0) a0_0],.int .i64 a1_] fun x3 l4=>
 asB x3 fun b5=>unn l4 (br (!b5)
 (some ((.tup [.str ({ data:=#[] }),.bool false]),[]))
 (
 ac V 66 [.agg [.rs (5,0) a0_0],.rs (1,0) [.int .i64 a1_]] fun x6 l7=>
 aP x6 fun l8=>unc l8 fun x9 l10=>asAgg x9 fun l11=>unc l11 fun x12 l13=>aI (5,0) x12 fun l14=>unn l13 (unc l10 fun x15 l16=>aI (1,0) x15 fun _=>unn l16 (unn l7 (ac V 68 [.agg [.rs (5,0) l14]] fun x18 l19=>
 aI (1,0) x18 fun l20=>unn l19 (f9 l20 fun s21=>some ((.tup [.str s21,.bool true]),[]))))))))):=by
 exact (aX Tryz.func195 rfl _).trans (by kernel_rfl)
theorem zu (a0_:List D) (a1_:Int):V 174 [.rs (1,0) a0_,.int .i64 a1_] =
 ac V 173 [.rs (1,0) a0_,.int .i64 a1_] fun x0 l1=>
 Mu x0 fun n5 n8 b11=>(unn l1 (br (!b11)
 (some ((.tup [.str ({ data:=#[] }),.int .i64 (0),.bool false]),[]))
 (
 br (decide (n5 > IntKind.wrap IntKind.i64 (ni a0_.length - n8)))
 (some ((.tup [.str ({ data:=#[] }),.int .i64 (0),.bool false]),[]))
 (grd (bi a0_.length (some n8) (some (IntKind.wrap IntKind.i64 (n8 + n5)))) (f9 (dk (jP a0_ (IntKind.wrap IntKind.i64 (n8 + n5))) n8) fun s12=>some ((.tup [.str s12,(.int .i64 (IntKind.wrap IntKind.i64 (n8 + n5))),.bool true]),[])))))):=by
 exact (aX Tryz.func174 rfl _).trans (by kernel_rfl)
theorem kJ (p0:List D) (p1:Int) (p2:List D):gK p0 p1 p2 =
 br (decide (p1 < ni p0.length))
 (
 grd (decide (0 <= p1) && decide (p1 < ni p0.length)) (az p0 p1.toNat fun x3=>
 asI .i64 x3 fun n4=>ac V 61 [.agg [.rs (5,0) p2],.int .i64 n4] fun x5 l6=>
 asB x5 fun b7=>unn l6 (br (!b7)
 (some ((.tup [.agg [.os (5,0) [],.os (4,0) [],.os (3,0) []],.int .i64 (3),.int .i64 (0)]),[]))
 (gK p0 (IntKind.wrap IntKind.i64 (p1 + 1)) p2))))
 (
 ac V 147 [.agg [.rs (5,0) p2]] fun x8 l9=>
 asAgg x8 fun l10=>unc l10 fun x11 l12=>aI (5,0) x11 fun l13=>unn l12 (unn l9 (jg p0 (0) (0) l13))):=by
 exact (cd _ _ _).trans (by kernel_rfl)
theorem Dr (a0_0:List D) (a0_1 a0_2 a1_:Int):V 155 [.op [.rs (1,0) a0_0,.int .i64 a0_1,.int .i64 a0_2],.int .i64 a1_] =
 ac V 76 [.op [.rs (1,0) a0_0,.int .i64 a0_1,.int .i64 a0_2],.int .i64 a1_] fun x0 l1=>
 asI .i64 x0 fun n2=>unc l1 fun x3 l4=>bH x3 fun l5=>unc l5 fun x6 l7=>cu (1,0) x6 fun l8=>unc l7 fun x9 l10=>asI .i64 x9 fun n11=>unc l10 fun x12 l13=>asI .i64 x12 fun n14=>unn l13 (unn l4 (some ((.bool (n2 == 0)),[.op [.rs (1,0) l8,.int .i64 n11,.int .i64 n14]]))):=by
 exact (aX Tryz.func155 rfl _).trans (by kernel_rfl)
theorem jY (p0 p1:Int) (p2 p3 p4 p5:List D):dz p0 p1 p2 p3 p4 p5 =
 br (decide (p0 < ni p2.length))
 (
 br (p1 == 0)
 (fm p0 (0) p1 p2 p3 p4 p5)
 (some ((.os (1,0) p2),[.op [.os (5,0) p3,.os (4,0) p4,.os (3,0) p5,.int .i64 p1]])))
 (some ((.os (1,0) p2),[.op [.os (5,0) p3,.os (4,0) p4,.os (3,0) p5,.int .i64 p1]])):=by
 exact (cd _ _ _).trans (by kernel_rfl)
theorem FF (a0_0 a1_:List D):V 189 [.agg [.rs (5,0) a0_0],.rs (1,0) a1_] =
 grd (decide (0 <= ni a0_0.length) && decide (ni a0_0.length <= LIM)) (gG a1_ (ni a1_.length) (0) a0_0 (List.replicate (Int.toNat (ni a0_0.length)) (D.bool false))):=by
 exact (aX Tryz.func189 rfl _).trans (by kernel_rfl)
theorem Dt (p l d:List D) (h:Int) (x e:List D):V 236 [.op [.os (5,0) p,.os (4,0) l,.os (3,0) d,.int .i64 h],.rs (1,0) x,.rs (1,1) e] =
 ga x e (0) h p l d:=by
 exact (aX Tryz.func236 rfl _).trans (by kernel_rfl)
theorem GN (a0_0 a0_1 a0_2:List D) (a1_:ByteArray):V 129 [.agg [.rs (5,0) a0_0,.rs (4,0) a0_1,.rs (3,0) a0_2],.str a1_] =
 jo a1_ (0) a0_0 a0_1 a0_2:=by
 exact (aX Tryz.func129 rfl _).trans (by kernel_rfl)
theorem vh (l:List D) (s:ByteArray):V 178 [.rs (3,0) l,.fn 179 [.bp [.str s]]] =
 fG l s (ni l.length) (0):=by
 exact (aX Tryz.func178 rfl _).trans (by kernel_rfl)
theorem rV (l:List D):V 145 [.rs (1,0) l,.fn 83 []] =
 eF l (ni l.length) (0):=by
 exact (aX Tryz.func145 rfl _).trans (by kernel_rfl)
theorem Gt (a0_:List D) (a1_:ByteArray):V 248 [.rs (1,1) a0_,.str a1_] =
 gC a0_ a1_ (0):=by
 exact (aX Tryz.func248 rfl _).trans (by kernel_rfl)

end Go.Eng
/-! the functions as the interpreter has them -/
namespace Go.Eng
open Go.Proofs Go.Proofs.Tryz
set_option maxRecDepth 100000
theorem Cg (p l d:List D) (h x:Int) (e:List D):V 244 [.op [.os (5,0) p,.os (4,0) l,.os (3,0) d,.int .i64 h],.int .i64 x,.rs (1,1) e] =
 br (h != 0)
 (some ((.tup []),[.op [.os (5,0) p,.os (4,0) l,.os (3,0) d,.int .i64 h]]))
 (
 grd (decide (0 <= x) && decide (x < ni p.length)) (az p x.toNat fun x0=>
 tk1 x0 fun n4 _ s10 _ _=>(br (n4 == 1)
 (
 br (n4 == 1)
 (
 ac V 237 [.op [.os (5,0) p,.os (4,0) l,.os (3,0) d,.int .i64 h],(.agg [.int .i64 (1),.int .i64 x,.int .i64 (0),.str ({ data:=#[] })])] fun x17 l18=>
 asI .i64 x17 fun _=>unc l18 fun x20 l21=>tk2 x20 fun l25 l28 l31 n34=>(unn l21 (some ((.tup []),[.op [.os (5,0) l25,.os (4,0) l28,.os (3,0) l31,.int .i64 n34]]))))
 (
 br (n4 == 4)
 (
 ac V 238 [.str s10] fun x35 l36=>
 asB x35 fun b37=>unn l36 (br b37
 (some ((.tup []),[.op [.os (5,0) p,.os (4,0) l,.os (3,0) d,.int .i64 (1)]]))
 (
 ac V 248 [.rs (1,1) e,.str s10] fun x38 l39=>
 tk8 x38 fun n43 n46=>(unn l39 (br (decide (n43 >= 0))
 (
 ac V 237 [.op [.os (5,0) p,.os (4,0) l,.os (3,0) d,.int .i64 h],(.agg [.int .i64 (2),.int .i64 n43,.int .i64 n46,.str ({ data:=#[] })])] fun x47 l48=>
 asI .i64 x47 fun _=>unc l48 fun x50 l51=>tk2 x50 fun l55 l58 l61 n64=>(unn l51 (some ((.tup []),[.op [.os (5,0) l55,.os (4,0) l58,.os (3,0) l61,.int .i64 n64]]))))
 (
 ac V 237 [.op [.os (5,0) p,.os (4,0) l,.os (3,0) d,.int .i64 h],(.agg [.int .i64 (3),.int .i64 (0),.int .i64 (0),.str s10])] fun x65 l66=>
 asI .i64 x65 fun _=>unc l66 fun x68 l69=>tk2 x68 fun l73 l76 l79 n82=>(unn l69 (some ((.tup []),[.op [.os (5,0) l73,.os (4,0) l76,.os (3,0) l79,.int .i64 n82]])))))))))
 (
 br (n4 != 5)
 (some ((.tup []),[.op [.os (5,0) p,.os (4,0) l,.os (3,0) d,.int .i64 (1)]]))
 (
 ac V 228 [.agg [.rs (5,0) p],.int .i64 x] fun x83 l84=>
 tk3 x83 fun l88 b91=>(unn l84 (br (!b91)
 (some ((.tup []),[.op [.os (5,0) p,.os (4,0) l,.os (3,0) d,.int .i64 (1)]]))
 (
 grd (decide (0 <= 0) && decide (0 < ni l88.length)) (az l88 0 fun x92=>
 asI .i64 x92 fun n93=>grd (decide (0 <= n93) && decide (n93 < ni p.length)) (az p n93.toNat fun x94=>
 tk1 x94 fun n98 _ s104 _ _=>(br (n98 == 4)
 (
 ac V 238 [.str s104] fun x111 l112=>
 asB x111 fun b113=>unn l112 (br b113
 (
 ac V 249 [.op [.os (5,0) p,.os (4,0) l,.os (3,0) d,.int .i64 h],.str s104,.rs (1,0) l88,.rs (1,1) e] fun x114 l115=>
 aP x114 fun l116=>unn l116 (unc l115 fun x117 l118=>tk2 x117 fun l122 l125 l128 n131=>(unn l118 (some ((.tup []),[.op [.os (5,0) l122,.os (4,0) l125,.os (3,0) l128,.int .i64 n131]])))))
 (
 br (decide (ni l88.length > 5))
 (some ((.tup []),[.op [.os (5,0) p,.os (4,0) l,.os (3,0) d,.int .i64 (1)]]))
 (cN e (0) h l88 p l d))))
 (
 br (decide (ni l88.length > 5))
 (some ((.tup []),[.op [.os (5,0) p,.os (4,0) l,.os (3,0) d,.int .i64 (1)]]))
 (cN e (0) h l88 p l d))))))))))))
 (
 br (n4 == 2)
 (
 br (n4 == 2)
 (
 ac V 237 [.op [.os (5,0) p,.os (4,0) l,.os (3,0) d,.int .i64 h],(.agg [.int .i64 (1),.int .i64 x,.int .i64 (0),.str ({ data:=#[] })])] fun x132 l133=>
 asI .i64 x132 fun _=>unc l133 fun x135 l136=>tk2 x135 fun l140 l143 l146 n149=>(unn l136 (some ((.tup []),[.op [.os (5,0) l140,.os (4,0) l143,.os (3,0) l146,.int .i64 n149]]))))
 (
 br (n4 == 4)
 (
 ac V 238 [.str s10] fun x150 l151=>
 asB x150 fun b152=>unn l151 (br b152
 (some ((.tup []),[.op [.os (5,0) p,.os (4,0) l,.os (3,0) d,.int .i64 (1)]]))
 (
 ac V 248 [.rs (1,1) e,.str s10] fun x153 l154=>
 tk8 x153 fun n158 n161=>(unn l154 (br (decide (n158 >= 0))
 (
 ac V 237 [.op [.os (5,0) p,.os (4,0) l,.os (3,0) d,.int .i64 h],(.agg [.int .i64 (2),.int .i64 n158,.int .i64 n161,.str ({ data:=#[] })])] fun x162 l163=>
 asI .i64 x162 fun _=>unc l163 fun x165 l166=>tk2 x165 fun l170 l173 l176 n179=>(unn l166 (some ((.tup []),[.op [.os (5,0) l170,.os (4,0) l173,.os (3,0) l176,.int .i64 n179]]))))
 (
 ac V 237 [.op [.os (5,0) p,.os (4,0) l,.os (3,0) d,.int .i64 h],(.agg [.int .i64 (3),.int .i64 (0),.int .i64 (0),.str s10])] fun x180 l181=>
 asI .i64 x180 fun _=>unc l181 fun x183 l184=>tk2 x183 fun l188 l191 l194 n197=>(unn l184 (some ((.tup []),[.op [.os (5,0) l188,.os (4,0) l191,.os (3,0) l194,.int .i64 n197]])))))))))
 (
 br (n4 != 5)
 (some ((.tup []),[.op [.os (5,0) p,.os (4,0) l,.os (3,0) d,.int .i64 (1)]]))
 (
 ac V 228 [.agg [.rs (5,0) p],.int .i64 x] fun x198 l199=>
 tk3 x198 fun l203 b206=>(unn l199 (br (!b206)
 (some ((.tup []),[.op [.os (5,0) p,.os (4,0) l,.os (3,0) d,.int .i64 (1)]]))
 (
 grd (decide (0 <= 0) && decide (0 < ni l203.length)) (az l203 0 fun x207=>
 asI .i64 x207 fun n208=>grd (decide (0 <= n208) && decide (n208 < ni p.length)) (az p n208.toNat fun x209=>
 tk1 x209 fun n213 _ s219 _ _=>(br (n213 == 4)
 (
 ac V 238 [.str s219] fun x226 l227=>
 asB x226 fun b228=>unn l227 (br b228
 (
 ac V 249 [.op [.os (5,0) p,.os (4,0) l,.os (3,0) d,.int .i64 h],.str s219,.rs (1,0) l203,.rs (1,1) e] fun x229 l230=>
 aP x229 fun l231=>unn l231 (unc l230 fun x232 l233=>tk2 x232 fun l237 l240 l243 n246=>(unn l233 (some ((.tup []),[.op [.os (5,0) l237,.os (4,0) l240,.os (3,0) l243,.int .i64 n246]])))))
 (
 br (decide (ni l203.length > 5))
 (some ((.tup []),[.op [.os (5,0) p,.os (4,0) l,.os (3,0) d,.int .i64 (1)]]))
 (cN e (0) h l203 p l d))))
 (
 br (decide (ni l203.length > 5))
 (some ((.tup []),[.op [.os (5,0) p,.os (4,0) l,.os (3,0) d,.int .i64 (1)]]))
 (cN e (0) h l203 p l d))))))))))))
 (
 br (n4 == 3)
 (
 ac V 237 [.op [.os (5,0) p,.os (4,0) l,.os (3,0) d,.int .i64 h],(.agg [.int .i64 (1),.int .i64 x,.int .i64 (0),.str ({ data:=#[] })])] fun x247 l248=>
 asI .i64 x247 fun _=>unc l248 fun x250 l251=>tk2 x250 fun l255 l258 l261 n264=>(unn l251 (some ((.tup []),[.op [.os (5,0) l255,.os (4,0) l258,.os (3,0) l261,.int .i64 n264]]))))
 (
 br (n4 == 4)
 (
 ac V 238 [.str s10] fun x265 l266=>
 asB x265 fun b267=>unn l266 (br b267
 (some ((.tup []),[.op [.os (5,0) p,.os (4,0) l,.os (3,0) d,.int .i64 (1)]]))
 (
 ac V 248 [.rs (1,1) e,.str s10] fun x268 l269=>
 tk8 x268 fun n273 n276=>(unn l269 (br (decide (n273 >= 0))
 (
 ac V 237 [.op [.os (5,0) p,.os (4,0) l,.os (3,0) d,.int .i64 h],(.agg [.int .i64 (2),.int .i64 n273,.int .i64 n276,.str ({ data:=#[] })])] fun x277 l278=>
 asI .i64 x277 fun _=>unc l278 fun x280 l281=>tk2 x280 fun l285 l288 l291 n294=>(unn l281 (some ((.tup []),[.op [.os (5,0) l285,.os (4,0) l288,.os (3,0) l291,.int .i64 n294]]))))
 (
 ac V 237 [.op [.os (5,0) p,.os (4,0) l,.os (3,0) d,.int .i64 h],(.agg [.int .i64 (3),.int .i64 (0),.int .i64 (0),.str s10])] fun x295 l296=>
 asI .i64 x295 fun _=>unc l296 fun x298 l299=>tk2 x298 fun l303 l306 l309 n312=>(unn l299 (some ((.tup []),[.op [.os (5,0) l303,.os (4,0) l306,.os (3,0) l309,.int .i64 n312]])))))))))
 (
 br (n4 != 5)
 (some ((.tup []),[.op [.os (5,0) p,.os (4,0) l,.os (3,0) d,.int .i64 (1)]]))
 (
 ac V 228 [.agg [.rs (5,0) p],.int .i64 x] fun x313 l314=>
 tk3 x313 fun l318 b321=>(unn l314 (br (!b321)
 (some ((.tup []),[.op [.os (5,0) p,.os (4,0) l,.os (3,0) d,.int .i64 (1)]]))
 (
 grd (decide (0 <= 0) && decide (0 < ni l318.length)) (az l318 0 fun x322=>
 asI .i64 x322 fun n323=>grd (decide (0 <= n323) && decide (n323 < ni p.length)) (az p n323.toNat fun x324=>
 tk1 x324 fun n328 _ s334 _ _=>(br (n328 == 4)
 (
 ac V 238 [.str s334] fun x341 l342=>
 asB x341 fun b343=>unn l342 (br b343
 (
 ac V 249 [.op [.os (5,0) p,.os (4,0) l,.os (3,0) d,.int .i64 h],.str s334,.rs (1,0) l318,.rs (1,1) e] fun x344 l345=>
 aP x344 fun l346=>unn l346 (unc l345 fun x347 l348=>tk2 x347 fun l352 l355 l358 n361=>(unn l348 (some ((.tup []),[.op [.os (5,0) l352,.os (4,0) l355,.os (3,0) l358,.int .i64 n361]])))))
 (
 br (decide (ni l318.length > 5))
 (some ((.tup []),[.op [.os (5,0) p,.os (4,0) l,.os (3,0) d,.int .i64 (1)]]))
 (cN e (0) h l318 p l d))))
 (
 br (decide (ni l318.length > 5))
 (some ((.tup []),[.op [.os (5,0) p,.os (4,0) l,.os (3,0) d,.int .i64 (1)]]))
 (cN e (0) h l318 p l d)))))))))))))))):=by
 exact (aX Tryz.func244 rfl _).trans (by kernel_rfl)
theorem qT (p0:ByteArray) (p1 p2:List D) (p3 p4:Int) (p5 p6 p7:List D):fk p0 p1 p2 p3 p4 p5 p6 p7 =
 br (decide (p3 < ni p7.length))
 (
 br (p4 == 0)
 (
 grd (decide (0 <= p3) && decide (p3 < ni p7.length)) (az p7 p3.toNat fun x0=>
 asAgg x0 fun l1=>az l1 0 fun x2=>
 asS x2 fun s3=>br (ax s3 p0)
 (fk p0 p1 p2 (IntKind.wrap IntKind.i64 (p3 + 1)) (2) p5 p6 p7)
 (fk p0 p1 p2 (IntKind.wrap IntKind.i64 (p3 + 1)) p4 p5 p6 p7)))
 (
 grd (decide (ni (List.length (p7++[D.agg [D.str p0,D.int IntKind.i64 (ni p6.length),D.int IntKind.i64 (ni p1.length)]])) <= LIM)) (nam (p7++[D.agg [D.str p0,D.int IntKind.i64 (ni p6.length),D.int IntKind.i64 (ni p1.length)]]) fun l4=>
 ac V 236 [.op [.os (5,0) p5,.os (4,0) p6,.os (3,0) l4,.int .i64 p4],.rs (1,0) p2,(.rs (1,1) [.rs (1,0) p1])] fun x5 l6=>
 aP x5 fun l7=>unn l7 (unc l6 fun x8 l9=>tk2 x8 fun l13 l16 l19 n22=>(unn l9 (ac V 237 [.op [.os (5,0) l13,.os (4,0) l16,.os (3,0) l19,.int .i64 n22],(.agg [.int .i64 (8),.int .i64 (0),.int .i64 (0),.str ({ data:=#[] })])] fun x23 l24=>
 asI .i64 x23 fun _=>unc l24 fun x26 l27=>tk2 x26 fun l31 l34 l37 n40=>(unn l27 (some ((.tup []),[.op [.os (5,0) l31,.os (4,0) l34,.os (3,0) l37,.int .i64 n40]])))))))))
 (
 grd (decide (ni (List.length (p7++[D.agg [D.str p0,D.int IntKind.i64 (ni p6.length),D.int IntKind.i64 (ni p1.length)]])) <= LIM)) (nam (p7++[D.agg [D.str p0,D.int IntKind.i64 (ni p6.length),D.int IntKind.i64 (ni p1.length)]]) fun l41=>
 ac V 236 [.op [.os (5,0) p5,.os (4,0) p6,.os (3,0) l41,.int .i64 p4],.rs (1,0) p2,(.rs (1,1) [.rs (1,0) p1])] fun x42 l43=>
 aP x42 fun l44=>unn l44 (unc l43 fun x45 l46=>tk2 x45 fun l50 l53 l56 n59=>(unn l46 (ac V 237 [.op [.os (5,0) l50,.os (4,0) l53,.os (3,0) l56,.int .i64 n59],(.agg [.int .i64 (8),.int .i64 (0),.int .i64 (0),.str ({ data:=#[] })])] fun x60 l61=>
 asI .i64 x60 fun _=>unc l61 fun x63 l64=>tk2 x63 fun l68 l71 l74 n77=>(unn l64 (some ((.tup []),[.op [.os (5,0) l68,.os (4,0) l71,.os (3,0) l74,.int .i64 n77]])))))))):=by
 exact (cd _ _ _).trans (by kernel_rfl)
theorem ut (a0_0 a0_1 a0_2:List D) (a1_:ByteArray):V 77 [.agg [.rs (5,0) a0_0,.rs (4,0) a0_1,.rs (3,0) a0_2],.str a1_] =
 ac V 125 [.agg [.rs (5,0) a0_0,.rs (4,0) a0_1,.rs (3,0) a0_2],.str a1_] fun x0 l1=>
 asI .i64 x0 fun n2=>unn l1 (ac V 54 [.agg [.rs (5,0) a0_0,.rs (4,0) a0_1,.rs (3,0) a0_2]] fun x3 l4=>
 asB x3 fun b5=>unn l4 (br (!b5)
 (some ((.tup [.agg [.os (5,0) [],.int .i64 (0),.int .i64 (0),.int .i64 (0),.int .i64 (0),.int .i64 (0),.int .i64 (0),.int .i64 (0)],.bool false]),[]))
 (
 br (decide (n2 < 0))
 (some ((.tup [.agg [.os (5,0) [],.int .i64 (0),.int .i64 (0),.int .i64 (0),.int .i64 (0),.int .i64 (0),.int .i64 (0),.int .i64 (0)],.bool false]),[]))
 (
 grd (decide (0 <= n2) && decide (n2 < ni a0_2.length)) (az a0_2 n2.toNat fun x6=>
 asAgg x6 fun l7=>az l7 2 fun x8=>
 asI .i64 x8 fun n9=>br (n9 != 0)
 (some ((.tup [.agg [.os (5,0) [],.int .i64 (0),.int .i64 (0),.int .i64 (0),.int .i64 (0),.int .i64 (0),.int .i64 (0),.int .i64 (0)],.bool false]),[]))
 (
 grd (decide (0 <= n2) && decide (n2 < ni a0_2.length)) (az a0_2 n2.toNat fun x10=>
 asAgg x10 fun l11=>az l11 1 fun x12=>
 asI .i64 x12 fun n13=>some ((.tup [(.agg [(.os (5,0) [.agg [.int .i64 (1),.int .i64 (0),.str ({ data:=#[] }),.int .i64 (0),.int .i64 (0)],(.agg [.int .i64 (5),.int .i64 (0),.str ({ data:=#[] }),.int .i64 (0),.int .i64 (0)])]),.int .i64 n13,.int .i64 (0),.int .i64 (1),.int .i64 (0),.int .i64 (0),.int .i64 (0),.int .i64 (0)]),.bool true]),[])))))))):=by
 exact (aX Tryz.func77 rfl _).trans (by kernel_rfl)
theorem m9 (p0 p1 p2:Int) (p3:Bool) (p4:List D):gb p0 p1 p2 p3 p4 =
 br (decide (p1 < p0))
 (
 br p3
 (
 br (decide (p1 <= 3000))
 (
 ac V 141 [.op [.os (1,0) p4,.int .i64 p2,.bool p3]] fun x15 l16=>
 tk1 x15 fun n20 n23 s26 n29 n32=>(unc l16 fun x33 l34=>cr x33 fun l38 n41 b44=>(unn l34 (grd (decide (ni 1 <= LIM)) (dh p0 (IntKind.wrap IntKind.i64 (p1 + 1)) n41 b44 l38 ([D.agg [D.int IntKind.i64 n20,D.int IntKind.i64 n23,D.str s26,D.int IntKind.i64 n29,D.int IntKind.i64 n32]]))))))
 (some ((.agg [.os (5,0) []]),[.op [.os (1,0) p4,.int .i64 p2,.bool p3]])))
 (some ((.agg [.os (5,0) []]),[.op [.os (1,0) p4,.int .i64 p2,.bool p3]])))
 (some ((.agg [.os (5,0) []]),[.op [.os (1,0) p4,.int .i64 p2,.bool p3]])):=by
 exact (cd _ _ _).trans (by kernel_rfl)
theorem Da (a0_0 a0_1 a0_2:List D) (a1_0:Int) (a1_1:List D) (a1_2 a1_3 a1_4 a1_5 a1_6 a1_7 a1_8:Int) (a1_9 a1_10:List D):V 79 [.agg [.rs (5,0) a0_0,.rs (4,0) a0_1,.rs (3,0) a0_2],.agg [.int .i64 a1_0,.rs (5,0) a1_1,.int .i64 a1_2,.int .i64 a1_3,.int .i64 a1_4,.int .i64 a1_5,.int .i64 a1_6,.int .i64 a1_7,.int .i64 a1_8,.rs (1,0) a1_9,.rs (1,0) a1_10]] =
 ac V 62 [.int .i64 a1_0,.int .i64 (1),.int .i64 (1000000000)] fun x0 l1=>
 asB x0 fun b2=>unn l1 (br (!b2)
 (some ((.bool false),[]))
 (
 ac V 15 [.agg [.rs (5,0) a0_0,.rs (4,0) a0_1,.rs (3,0) a0_2],(.agg [.rs (5,0) a1_1,.int .i64 a1_2,.int .i64 a1_3,.int .i64 a1_4,.int .i64 a1_5,.int .i64 a1_6,.int .i64 a1_7,.int .i64 a1_8])] fun x3 l4=>
 asB x3 fun b5=>unn l4 (br (!b5)
 (some ((.bool false),[]))
 (
 br (decide (ni a1_9.length > 20))
 (some ((.bool false),[]))
 (
 br (decide (ni a1_10.length > 40))
 (some ((.bool false),[]))
 (iB (0) a1_0 a1_1 a1_2 a1_3 a1_4 a1_5 a1_6 a1_7 a1_8 a1_9 a1_10)))))):=by
 exact (aX Tryz.func79 rfl _).trans (by kernel_rfl)
theorem EH (a0_:ByteArray):V 227 [.str a0_] =
 br (decide (ni (ByteArray.size a0_) > 1))
 (
 grd (decide (0 <= 0) && decide (0 < ni (ByteArray.size a0_))) (br (bt a0_ (0) == 45)
 (
 grd (bi (ByteArray.size a0_) (some (1)) none) (br (decide (ni (ByteArray.size (ByteArray.extract a0_ (Int.toNat (1)) (ByteArray.size a0_))) > 10))
 (some ((.tup [.int .i64 (0),.bool false]),[]))
 (
 br (ni (ByteArray.size (ByteArray.extract a0_ (Int.toNat (1)) (ByteArray.size a0_))) == 0)
 (some ((.tup [.int .i64 (0),.bool false]),[]))
 (d7 a0_ (ByteArray.extract a0_ (Int.toNat (1)) (ByteArray.size a0_)) (0) (0)))))
 (
 br (decide (ni (ByteArray.size a0_) > 10))
 (some ((.tup [.int .i64 (0),.bool false]),[]))
 (
 br (ni (ByteArray.size a0_) == 0)
 (some ((.tup [.int .i64 (0),.bool false]),[]))
 (d7 a0_ a0_ (0) (0))))))
 (
 br (decide (ni (ByteArray.size a0_) > 10))
 (some ((.tup [.int .i64 (0),.bool false]),[]))
 (
 br (ni (ByteArray.size a0_) == 0)
 (some ((.tup [.int .i64 (0),.bool false]),[]))
 (d7 a0_ a0_ (0) (0)))):=by
 exact (aX Tryz.func227 rfl _).trans (by kernel_rfl)
theorem u4 (a0_:ByteArray):V 238 [.str a0_] =
 br (ax a0_ { data:=#[113,117,111,116,101] })
 (some ((.bool true),[]))
 (
 br (ax a0_ { data:=#[105,102] })
 (some ((.bool true),[]))
 (
 br (ax a0_ { data:=#[102,110] })
 (some ((.bool true),[]))
 (
 br (ax a0_ { data:=#[100,111] })
 (some ((.bool true),[]))
 (
 br (ax a0_ { data:=#[108,101,116] })
 (some ((.bool true),[]))
 (some ((.bool (ax a0_ { data:=#[100,101,102,105,110,101] })),[])))))):=by
 exact (aX Tryz.func238 rfl _).trans (by kernel_rfl)
theorem BX (p l:List D):V 210 [.op [.os (5,0) p],.rs (1,0) l] =
 ac V 158 [.op [.os (5,0) p],(.agg [.int .i64 (1),.int .i64 (0),.str ({ data:=#[] }),.int .i64 (0),.int .i64 (0)])] fun x0 l1=>
 asI .i64 x0 fun n2=>unc l1 fun x3 l4=>bH x3 fun l5=>unc l5 fun x6 l7=>aI (5,0) x6 fun l8=>unn l7 (unn l4 (iY l n2 (IntKind.wrap IntKind.i64 (ni l.length - 1)) l8)):=by
 exact (aX Tryz.func210 rfl _).trans (by kernel_rfl)
theorem tK (p q l:List D):V 137 [.op [.os (5,0) p],.agg [.rs (5,0) q],.rs (1,0) l] =
 grd (decide (0 <= ni q.length) && decide (ni q.length <= LIM)) (ac V 189 [.agg [.rs (5,0) q],.rs (1,0) l] fun x0 l1=>
 aI (1,0) x0 fun l2=>unn l1 (ce q (ni q.length) (0) (List.replicate (Int.toNat (ni q.length)) (D.int IntKind.i64 (0))) l2 p)):=by
 exact (aX Tryz.func137 rfl _).trans (by kernel_rfl)
theorem wJ (a0_0:List D):V 68 [.agg [.rs (5,0) a0_0]] =
 ac V 67 [(.int .i64 (ni a0_0.length))] fun x0 l1=>
 aI (1,0) x0 fun l2=>unn l1 (aM a0_0 (ni a0_0.length) (0) l2):=by
 exact (aX Tryz.func68 rfl _).trans (by kernel_rfl)
theorem pd (l:List D):V 80 [.rs (1,0) l,.fn 83 []] =
 ac V 145 [.rs (1,0) l,(.fn 83 [])] fun x0 l1=>
 asI .i64 x0 fun n2=>unn l1 (some ((.bool (decide (n2 >= 0))),[])):=by
 exact (aX Tryz.func80 rfl _).trans (by kernel_rfl)
theorem yD (a0_:ByteArray):V 81 [.str a0_] =
 ac V 82 [.str a0_] fun x0 l1=>
 asB x0 fun b2=>unn l1 (some ((.bool (!b2)),[])):=by
 exact (aX Tryz.func81 rfl _).trans (by kernel_rfl)
end Go.Eng
/-! the functions as the interpreter has them -/
namespace Go.Eng
open Go.Proofs Go.Proofs.Tryz
set_option maxRecDepth 100000
theorem uZ (a0_0:List D) (a0_1 a0_2 a1_:Int):V 214 [.op [.rs (1,0) a0_0,.int .i64 a0_1,.int .i64 a0_2],.int .i64 a1_] =
 br (decide (a1_ <= 0))
 (
 ac V 75 [.op [.rs (1,0) a0_0,.int .i64 a0_1,.int .i64 a0_2],(.rs (1,0) [.str ({ data:=#[49] }),.str ({ data:=#[120] }),.str ({ data:=#[121] }),.str ({ data:=#[45,50] }),.str ({ data:=#[35,116] }),.str ({ data:=#[40,41] }),.str ({ data:=#[102] }),.str ({ data:=#[40,113,117,111,116,101,32,97,41] }),.str ({ data:=#[48] })])] fun x0 l1=>
 asS x0 fun s2=>unc l1 fun x3 l4=>bH x3 fun l5=>unc l5 fun x6 l7=>cu (1,0) x6 fun l8=>unc l7 fun x9 l10=>asI .i64 x9 fun n11=>unc l10 fun x12 l13=>asI .i64 x12 fun n14=>unn l13 (unn l4 (some ((.str s2),[.op [.rs (1,0) l8,.int .i64 n11,.int .i64 n14]]))))
 (
 ac V 214 [.op [.rs (1,0) a0_0,.int .i64 a0_1,.int .i64 a0_2],(.int .i64 (IntKind.wrap IntKind.i64 (a1_ - 1)))] fun x15 l16=>
 asS x15 fun s17=>unc l16 fun x18 l19=>bH x18 fun l20=>unc l20 fun x21 l22=>cu (1,0) x21 fun l23=>unc l22 fun x24 l25=>asI .i64 x24 fun n26=>unc l25 fun x27 l28=>asI .i64 x27 fun n29=>unn l28 (unn l19 (ac V 214 [.op [.rs (1,0) l23,.int .i64 n26,.int .i64 n29],(.int .i64 (IntKind.wrap IntKind.i64 (a1_ - 1)))] fun x30 l31=>
 asS x30 fun s32=>unc l31 fun x33 l34=>bH x33 fun l35=>unc l35 fun x36 l37=>cu (1,0) x36 fun l38=>unc l37 fun x39 l40=>asI .i64 x39 fun n41=>unc l40 fun x42 l43=>asI .i64 x42 fun n44=>unn l43 (unn l34 (ac V 76 [.op [.rs (1,0) l38,.int .i64 n41,.int .i64 n44],.int .i64 (9)] fun x45 l46=>
 asI .i64 x45 fun n47=>unc l46 fun x48 l49=>bH x48 fun l50=>unc l50 fun x51 l52=>cu (1,0) x51 fun l53=>unc l52 fun x54 l55=>asI .i64 x54 fun n56=>unc l55 fun x57 l58=>asI .i64 x57 fun n59=>unn l58 (unn l49 (br (n47 == 0)
 (
 grd (decide (ni (ByteArray.size { data:=#[40,105,102,32] } + ByteArray.size s17) <= LIM)) (grd (decide (ni (ByteArray.size ({ data:=#[40,105,102,32] }++s17) + ByteArray.size { data:=#[32] }) <= LIM)) (grd (decide (ni (ByteArray.size ({ data:=#[40,105,102,32] }++s17++{ data:=#[32] }) + ByteArray.size s32) <= LIM)) (grd (decide (ni (ByteArray.size ({ data:=#[40,105,102,32] }++s17++{ data:=#[32] }++s32) + ByteArray.size { data:=#[32] }) <= LIM)) (ac V 214 [.op [.rs (1,0) l53,.int .i64 n56,.int .i64 n59],(.int .i64 (IntKind.wrap IntKind.i64 (a1_ - 2)))] fun x60 l61=>
 asS x60 fun s62=>unc l61 fun x63 l64=>bH x63 fun l65=>unc l65 fun x66 l67=>cu (1,0) x66 fun l68=>unc l67 fun x69 l70=>asI .i64 x69 fun n71=>unc l70 fun x72 l73=>asI .i64 x72 fun n74=>unn l73 (unn l64 (grd (decide (ni (ByteArray.size ({ data:=#[40,105,102,32] }++s17++{ data:=#[32] }++s32++{ data:=#[32] }) + ByteArray.size s62) <= LIM)) (grd (decide (ni (ByteArray.size ({ data:=#[40,105,102,32] }++s17++{ data:=#[32] }++s32++{ data:=#[32] }++s62) + ByteArray.size { data:=#[41] }) <= LIM)) (some ((.str ({ data:=#[40,105,102,32] }++s17++{ data:=#[32] }++s32++{ data:=#[32] }++s62++{ data:=#[41] })),[.op [.rs (1,0) l68,.int .i64 n71,.int .i64 n74]]))))))))))
 (
 br (n47 == 1)
 (grd (decide (ni (ByteArray.size { data:=#[40,102,110,32,40,120,32,121,41,32] } + ByteArray.size s17) <= LIM)) (grd (decide (ni (ByteArray.size ({ data:=#[40,102,110,32,40,120,32,121,41,32] }++s17) + ByteArray.size { data:=#[41] }) <= LIM)) (some ((.str ({ data:=#[40,102,110,32,40,120,32,121,41,32] }++s17++{ data:=#[41] })),[.op [.rs (1,0) l53,.int .i64 n56,.int .i64 n59]]))))
 (
 br (n47 == 2)
 (grd (decide (ni (ByteArray.size { data:=#[40,108,101,116,32,120,32] } + ByteArray.size s17) <= LIM)) (grd (decide (ni (ByteArray.size ({ data:=#[40,108,101,116,32,120,32] }++s17) + ByteArray.size { data:=#[32] }) <= LIM)) (grd (decide (ni (ByteArray.size ({ data:=#[40,108,101,116,32,120,32] }++s17++{ data:=#[32] }) + ByteArray.size s32) <= LIM)) (grd (decide (ni (ByteArray.size ({ data:=#[40,108,101,116,32,120,32] }++s17++{ data:=#[32] }++s32) + ByteArray.size { data:=#[41] }) <= LIM)) (some ((.str ({ data:=#[40,108,101,116,32,120,32] }++s17++{ data:=#[32] }++s32++{ data:=#[41] })),[.op [.rs (1,0) l53,.int .i64 n56,.int .i64 n59]]))))))
 (
 br (n47 == 3)
 (grd (decide (ni (ByteArray.size { data:=#[40,100,111,32] } + ByteArray.size s17) <= LIM)) (grd (decide (ni (ByteArray.size ({ data:=#[40,100,111,32] }++s17) + ByteArray.size { data:=#[32] }) <= LIM)) (grd (decide (ni (ByteArray.size ({ data:=#[40,100,111,32] }++s17++{ data:=#[32] }) + ByteArray.size s32) <= LIM)) (grd (decide (ni (ByteArray.size ({ data:=#[40,100,111,32] }++s17++{ data:=#[32] }++s32) + ByteArray.size { data:=#[41] }) <= LIM)) (some ((.str ({ data:=#[40,100,111,32] }++s17++{ data:=#[32] }++s32++{ data:=#[41] })),[.op [.rs (1,0) l53,.int .i64 n56,.int .i64 n59]]))))))
 (
 br (n47 == 4)
 (grd (decide (ni (ByteArray.size { data:=#[40,112,114,105,110,116,32] } + ByteArray.size s17) <= LIM)) (grd (decide (ni (ByteArray.size ({ data:=#[40,112,114,105,110,116,32] }++s17) + ByteArray.size { data:=#[41] }) <= LIM)) (some ((.str ({ data:=#[40,112,114,105,110,116,32] }++s17++{ data:=#[41] })),[.op [.rs (1,0) l53,.int .i64 n56,.int .i64 n59]]))))
 (
 br (n47 == 5)
 (grd (decide (ni (ByteArray.size { data:=#[40,40,102,110,32,40,121,41,32] } + ByteArray.size s17) <= LIM)) (grd (decide (ni (ByteArray.size ({ data:=#[40,40,102,110,32,40,121,41,32] }++s17) + ByteArray.size { data:=#[41,32] }) <= LIM)) (grd (decide (ni (ByteArray.size ({ data:=#[40,40,102,110,32,40,121,41,32] }++s17++{ data:=#[41,32] }) + ByteArray.size s32) <= LIM)) (grd (decide (ni (ByteArray.size ({ data:=#[40,40,102,110,32,40,121,41,32] }++s17++{ data:=#[41,32] }++s32) + ByteArray.size { data:=#[41] }) <= LIM)) (some ((.str ({ data:=#[40,40,102,110,32,40,121,41,32] }++s17++{ data:=#[41,32] }++s32++{ data:=#[41] })),[.op [.rs (1,0) l53,.int .i64 n56,.int .i64 n59]]))))))
 (
 br (n47 == 6)
 (
 ac V 75 [.op [.rs (1,0) l53,.int .i64 n56,.int .i64 n59],(.rs (1,0) [.str ({ data:=#[43] }),.str ({ data:=#[45] }),.str ({ data:=#[42] }),.str ({ data:=#[60] }),.str ({ data:=#[61] }),.str ({ data:=#[99,111,110,115] }),.str ({ data:=#[101,113,63] })])] fun x75 l76=>
 asS x75 fun s77=>unc l76 fun x78 l79=>bH x78 fun l80=>unc l80 fun x81 l82=>cu (1,0) x81 fun l83=>unc l82 fun x84 l85=>asI .i64 x84 fun n86=>unc l85 fun x87 l88=>asI .i64 x87 fun n89=>unn l88 (unn l79 (grd (decide (ni (ByteArray.size { data:=#[40] } + ByteArray.size s77) <= LIM)) (grd (decide (ni (ByteArray.size ({ data:=#[40] }++s77) + ByteArray.size { data:=#[32] }) <= LIM)) (grd (decide (ni (ByteArray.size ({ data:=#[40] }++s77++{ data:=#[32] }) + ByteArray.size s17) <= LIM)) (grd (decide (ni (ByteArray.size ({ data:=#[40] }++s77++{ data:=#[32] }++s17) + ByteArray.size { data:=#[32] }) <= LIM)) (grd (decide (ni (ByteArray.size ({ data:=#[40] }++s77++{ data:=#[32] }++s17++{ data:=#[32] }) + ByteArray.size s32) <= LIM)) (grd (decide (ni (ByteArray.size ({ data:=#[40] }++s77++{ data:=#[32] }++s17++{ data:=#[32] }++s32) + ByteArray.size { data:=#[41] }) <= LIM)) (some ((.str ({ data:=#[40] }++s77++{ data:=#[32] }++s17++{ data:=#[32] }++s32++{ data:=#[41] })),[.op [.rs (1,0) l83,.int .i64 n86,.int .i64 n89]]))))))))))
 (
 br (n47 == 7)
 (
 ac V 75 [.op [.rs (1,0) l53,.int .i64 n56,.int .i64 n59],(.rs (1,0) [.str ({ data:=#[99,97,114] }),.str ({ data:=#[99,100,114] }),.str ({ data:=#[110,117,108,108,63] }),.str ({ data:=#[112,97,105,114,63] }),.str ({ data:=#[110,111,116] }),.str ({ data:=#[99,97,108,108,99,99] })])] fun x90 l91=>
 asS x90 fun s92=>unc l91 fun x93 l94=>bH x93 fun l95=>unc l95 fun x96 l97=>cu (1,0) x96 fun l98=>unc l97 fun x99 l100=>asI .i64 x99 fun n101=>unc l100 fun x102 l103=>asI .i64 x102 fun n104=>unn l103 (unn l94 (grd (decide (ni (ByteArray.size { data:=#[40] } + ByteArray.size s92) <= LIM)) (grd (decide (ni (ByteArray.size ({ data:=#[40] }++s92) + ByteArray.size { data:=#[32] }) <= LIM)) (grd (decide (ni (ByteArray.size ({ data:=#[40] }++s92++{ data:=#[32] }) + ByteArray.size s17) <= LIM)) (grd (decide (ni (ByteArray.size ({ data:=#[40] }++s92++{ data:=#[32] }++s17) + ByteArray.size { data:=#[41] }) <= LIM)) (some ((.str ({ data:=#[40] }++s92++{ data:=#[32] }++s17++{ data:=#[41] })),[.op [.rs (1,0) l98,.int .i64 n101,.int .i64 n104]]))))))))
 (some ((.str s17),[.op [.rs (1,0) l53,.int .i64 n56,.int .i64 n59]])))))))))))))))):=by
 exact (aX Tryz.func214 rfl _).trans (by kernel_rfl)
theorem rX (p0:ByteArray) (p1:Nat) (p2 p3 p4:Int) (p5 p6 p7 p8:List D):dQ p0 p1 p2 p3 p4 p5 p6 p7 p8 =
 br (decide (p2 < ni (ByteArray.size p0)))
 (
 grd (decide (0 <= p2) && decide (p2 < ni (ByteArray.size p0))) (ac V 211 [.int .u8 (bt p0 p2)] fun x242 l243=>
 asB x242 fun b244=>unn l243 (br b244
 (dQ p0 p1 (IntKind.wrap IntKind.i64 (p2 + 1)) p3 p4 p5 p6 p7 p8)
 (
 grd (bi (ByteArray.size p0) (some p4) (some p2)) (ac V 212 [(.str (ByteArray.extract p0 p4.toNat p2.toNat))] fun x245 l246=>
 aP x245 fun l247=>unc l247 fun x248 l249=>tk1 x248 fun n253 n256 s259 n262 n265=>(unc l249 fun x266 l267=>asB x266 fun b268=>unn l267 (unn l246 (br (!b268)
 (
 ac V 147 [.agg [.rs (5,0) p5]] fun x269 l270=>
 asAgg x269 fun l271=>unc l271 fun x272 l273=>aI (5,0) x272 fun l274=>unn l273 (unn l270 (some ((.tup [.agg [.os (5,0) l274],.os (1,0) p6,.int .i64 (3),.int .i64 p4]),[]))))
 (
 grd (decide (0 <= p3) && decide (p3 < ni p1) && decide (0 + p1 <= List.length p7)) (az p7 (0 + Int.toNat p3) fun x275=>
 asAgg x275 fun l276=>az l276 1 fun x277=>
 aI (1,0) x277 fun l278=>asAgg x275 fun l279=>ac V 158 [.op [.os (5,0) p8],.agg [.int .i64 n253,.int .i64 n256,.str s259,.int .i64 n262,.int .i64 n265]] fun x280 l281=>
 asI .i64 x280 fun n282=>unc l281 fun x283 l284=>bH x283 fun l285=>unc l285 fun x286 l287=>aI (5,0) x286 fun l288=>unn l287 (unn l284 (grd (decide (ni (List.length (l278++[D.int IntKind.i64 n282])) <= LIM)) (nam (l278++[D.int IntKind.i64 n282]) fun l289=>
 grd (decide (0 <= p3) && decide (p3 < ni p1) && decide (0 + p1 <= List.length (List.set p7 (0 + Int.toNat p3) (D.agg (List.take 1 l279++[D.dead]++List.drop 2 l279))))) (az (List.set p7 (0 + Int.toNat p3) (D.agg (List.take 1 l279++[D.dead]++List.drop 2 l279))) (0 + Int.toNat p3) fun x290=>
 asAgg x290 fun l291=>nam (List.set (List.set p7 (0 + Int.toNat p3) (D.agg (List.take 1 l279++[D.dead]++List.drop 2 l279))) (0 + Int.toNat p3)
 (D.agg
 (List.take 1 l291 ++
 [D.os
 (TypeInfo.size (Tables.types (Program.toTables Tryz.prog))[3],
 match m6 Tryz.prog (3) with
 | true=>0
 | false=>1)
 l289] ++
 List.drop 2 l291))) fun l292=>
 bZ p0 p1 p2 p5 p6 l292 l288))))))))))))))
 (
 grd (bi (ByteArray.size p0) (some p4) (some p2)) (ac V 212 [(.str (ByteArray.extract p0 p4.toNat p2.toNat))] fun x293 l294=>
 aP x293 fun l295=>unc l295 fun x296 l297=>tk1 x296 fun n301 n304 s307 n310 n313=>(unc l297 fun x314 l315=>asB x314 fun b316=>unn l315 (unn l294 (br (!b316)
 (
 ac V 147 [.agg [.rs (5,0) p5]] fun x317 l318=>
 asAgg x317 fun l319=>unc l319 fun x320 l321=>aI (5,0) x320 fun l322=>unn l321 (unn l318 (some ((.tup [.agg [.os (5,0) l322],.os (1,0) p6,.int .i64 (3),.int .i64 p4]),[]))))
 (
 grd (decide (0 <= p3) && decide (p3 < ni p1) && decide (0 + p1 <= List.length p7)) (az p7 (0 + Int.toNat p3) fun x323=>
 asAgg x323 fun l324=>az l324 1 fun x325=>
 aI (1,0) x325 fun l326=>asAgg x323 fun l327=>ac V 158 [.op [.os (5,0) p8],.agg [.int .i64 n301,.int .i64 n304,.str s307,.int .i64 n310,.int .i64 n313]] fun x328 l329=>
 asI .i64 x328 fun n330=>unc l329 fun x331 l332=>bH x331 fun l333=>unc l333 fun x334 l335=>aI (5,0) x334 fun l336=>unn l335 (unn l332 (grd (decide (ni (List.length (l326++[D.int IntKind.i64 n330])) <= LIM)) (nam (l326++[D.int IntKind.i64 n330]) fun l337=>
 grd (decide (0 <= p3) && decide (p3 < ni p1) && decide (0 + p1 <= List.length (List.set p7 (0 + Int.toNat p3) (D.agg (List.take 1 l327++[D.dead]++List.drop 2 l327))))) (az (List.set p7 (0 + Int.toNat p3) (D.agg (List.take 1 l327++[D.dead]++List.drop 2 l327))) (0 + Int.toNat p3) fun x338=>
 asAgg x338 fun l339=>nam (List.set (List.set p7 (0 + Int.toNat p3) (D.agg (List.take 1 l327++[D.dead]++List.drop 2 l327))) (0 + Int.toNat p3)
 (D.agg
 (List.take 1 l339 ++
 [D.os
 (TypeInfo.size (Tables.types (Program.toTables Tryz.prog))[3],
 match m6 Tryz.prog (3) with
 | true=>0
 | false=>1)
 l337] ++
 List.drop 2 l339))) fun l340=>
 bZ p0 p1 p2 p5 p6 l340 l336))))))))))):=by
 exact (cd _ _ _).trans (by kernel_rfl)
theorem lF (p0:List D) (p1 p2 p3:Int):iz p0 p1 p2 p3 =
 br (decide (p3 < 9))
 (
 br (decide (IntKind.wrap IntKind.i64 (p1 + p3) < ni p0.length))
 (
 grd (decide (0 <= IntKind.wrap IntKind.i64 (p1 + p3)) && decide (IntKind.wrap IntKind.i64 (p1 + p3) < ni p0.length)) (az p0 (Int.toNat (IntKind.wrap IntKind.i64 (p1 + p3))) fun x3=>
 asI .u8 x3 fun n4=>grd (!decide (128 = 0)) (grd (!decide (IntKind.wrap IntKind.i64 (7 * p3) < 0)) (br (decide (n4 < 128))
 (
 br (n4 == 0)
 (
 br (decide (p3 > 0))
 (some ((.tup [.int .i64 (0),.int .i64 (0),.bool false]),[]))
 (some ((.tup [(.int .i64 (IntKind.wrap IntKind.i64 (ni (BitVec.toNat (BitVec.ofInt (IntKind.bits IntKind.i64) p2 ||| BitVec.ofInt (IntKind.bits IntKind.i64) (IntKind.wrap IntKind.i64 (IntKind.wrap IntKind.i64 (Int.tmod n4 (128)) * 2 ^ min (Int.toNat (IntKind.wrap IntKind.i64 (7 * p3))) (IntKind.bits IntKind.i64)))))))),(.int .i64 (IntKind.wrap IntKind.i64 (IntKind.wrap IntKind.i64 (p1 + p3) + 1))),.bool true]),[])))
 (some ((.tup [(.int .i64 (IntKind.wrap IntKind.i64 (ni (BitVec.toNat (BitVec.ofInt (IntKind.bits IntKind.i64) p2 ||| BitVec.ofInt (IntKind.bits IntKind.i64) (IntKind.wrap IntKind.i64 (IntKind.wrap IntKind.i64 (Int.tmod n4 (128)) * 2 ^ min (Int.toNat (IntKind.wrap IntKind.i64 (7 * p3))) (IntKind.bits IntKind.i64)))))))),(.int .i64 (IntKind.wrap IntKind.i64 (IntKind.wrap IntKind.i64 (p1 + p3) + 1))),.bool true]),[])))
 (iz p0 p1 (IntKind.wrap IntKind.i64 (ni (BitVec.toNat (BitVec.ofInt (IntKind.bits IntKind.i64) p2 ||| BitVec.ofInt (IntKind.bits IntKind.i64) (IntKind.wrap IntKind.i64 (IntKind.wrap IntKind.i64 (Int.tmod n4 (128)) * 2 ^ min (Int.toNat (IntKind.wrap IntKind.i64 (7 * p3))) (IntKind.bits IntKind.i64))))))) (IntKind.wrap IntKind.i64 (p3 + 1)))))))
 (some ((.tup [.int .i64 (0),.int .i64 (0),.bool false]),[])))
 (some ((.tup [.int .i64 (0),.int .i64 (0),.bool false]),[])):=by
 exact (cd _ _ _).trans (by kernel_rfl)
theorem lZ (p0:List D) (p1 p2 p3 p4:Int):iL p0 p1 p2 p3 p4 =
 br (decide (p4 < 9))
 (
 br (decide (IntKind.wrap IntKind.i64 (p1 + p4) < ni p0.length))
 (
 grd (decide (0 <= IntKind.wrap IntKind.i64 (p1 + p4)) && decide (IntKind.wrap IntKind.i64 (p1 + p4) < ni p0.length)) (az p0 (Int.toNat (IntKind.wrap IntKind.i64 (p1 + p4))) fun x0=>
 asI .u8 x0 fun n1=>grd (!decide (128 = 0)) (br (decide (IntKind.wrap IntKind.i64 n1 < 128))
 (
 br (IntKind.wrap IntKind.i64 n1 == 0)
 (
 br (decide (p4 > 0))
 (some ((.tup [.int .i64 (0),.int .i64 (0),.bool false]),[]))
 (some ((.tup [(.int .i64 (IntKind.wrap IntKind.i64 (p2 + IntKind.wrap IntKind.i64 (Int.tmod (IntKind.wrap IntKind.i64 n1) (128) * p3)))),(.int .i64 (IntKind.wrap IntKind.i64 (IntKind.wrap IntKind.i64 (p1 + p4) + 1))),.bool true]),[])))
 (some ((.tup [(.int .i64 (IntKind.wrap IntKind.i64 (p2 + IntKind.wrap IntKind.i64 (Int.tmod (IntKind.wrap IntKind.i64 n1) (128) * p3)))),(.int .i64 (IntKind.wrap IntKind.i64 (IntKind.wrap IntKind.i64 (p1 + p4) + 1))),.bool true]),[])))
 (iL p0 p1 (IntKind.wrap IntKind.i64 (p2 + IntKind.wrap IntKind.i64 (Int.tmod (IntKind.wrap IntKind.i64 n1) (128) * p3))) (IntKind.wrap IntKind.i64 (p3 * 128)) (IntKind.wrap IntKind.i64 (p4 + 1))))))
 (some ((.tup [.int .i64 (0),.int .i64 (0),.bool false]),[])))
 (some ((.tup [.int .i64 (0),.int .i64 (0),.bool false]),[])):=by
 exact (cd _ _ _).trans (by kernel_rfl)
theorem wB (a0_:ByteArray):V 144 [.str a0_] =
 ac V 115 [.op [.os (1,0) (gB a0_),.int .i64 (0),.bool true]] fun x0 l1=>
 asAgg x0 fun l2=>unc l2 fun x3 l4=>aI (5,0) x3 fun l5=>unn l4 (unc l1 fun x6 l7=>cr x6 fun _ _ b17=>(unn l7 (br (!b17)
 (some ((.tup [.agg [.os (5,0) []],.int .i64 (0),.bool false]),[]))
 (
 br (ni l5.length == 0)
 (some ((.tup [.agg [.os (5,0) []],.int .i64 (0),.bool false]),[]))
 (
 ac V 194 [.agg [.rs (5,0) l5],(.int .i64 (IntKind.wrap IntKind.i64 (ni l5.length - 1)))] fun x18 l19=>
 tk5 x18 fun s23 _=>(unn l19 (br (!ax s23 a0_)
 (some ((.tup [.agg [.os (5,0) []],.int .i64 (0),.bool false]),[]))
 (some ((.tup [.agg [.os (5,0) l5],(.int .i64 (IntKind.wrap IntKind.i64 (ni l5.length - 1))),.bool true]),[]))))))))):=by
 exact (aX Tryz.func144 rfl _).trans (by kernel_rfl)
theorem wu (a0_0:List D) (a1_:Int):V 194 [.agg [.rs (5,0) a0_0],.int .i64 a1_] =
 ac V 60 [.agg [.rs (5,0) a0_0]] fun x0 l1=>
 asB x0 fun b2=>unn l1 (br (!b2)
 (some ((.tup [.str ({ data:=#[] }),.bool false]),[]))
 (
 ac V 61 [.agg [.rs (5,0) a0_0],.int .i64 a1_] fun x3 l4=>
 asB x3 fun b5=>unn l4 (br (!b5)
 (some ((.tup [.str ({ data:=#[] }),.bool false]),[]))
 (
 ac V 86 [.agg [.rs (5,0) a0_0],.rs (1,0) [.int .i64 a1_]] fun x6 l7=>
 aP x6 fun l8=>unc l8 fun x9 l10=>asAgg x9 fun l11=>unc l11 fun x12 l13=>aI (5,0) x12 fun l14=>unn l13 (unc l10 fun x15 l16=>aI (1,0) x15 fun _=>unn l16 (unn l7 (ac V 70 [.agg [.rs (5,0) l14]] fun x18 l19=>
 aI (1,0) x18 fun l20=>unn l19 (f9 l20 fun s21=>some ((.tup [.str s21,.bool true]),[]))))))))):=by
 exact (aX Tryz.func194 rfl _).trans (by kernel_rfl)
theorem Cy (p l d:List D) (h x:Int):V 230 [.op [.os (5,0) p,.os (4,0) l,.os (3,0) d,.int .i64 h],.int .i64 x] =
 grd (decide (0 <= x) && decide (x < ni p.length)) (az p x.toNat fun x0=>
 tk1 x0 fun n4 _ s10 _ _=>(br (n4 == 4)
 (
 ac V 238 [.str s10] fun x17 l18=>
 asB x17 fun b19=>unn l18 (some ((.tup [.str s10,.bool (!b19)]),[.op [.os (5,0) p,.os (4,0) l,.os (3,0) d,.int .i64 h]])))
 (some ((.tup [.str s10,.bool false]),[.op [.os (5,0) p,.os (4,0) l,.os (3,0) d,.int .i64 h]])))):=by
 exact (aX Tryz.func230 rfl _).trans (by kernel_rfl)
theorem ml (p0:List D) (p1:Int) (p2 p3 p4:List D):iU p0 p1 p2 p3 p4 =
 br (decide (p1 < ni p0.length))
 (
 grd (decide (0 <= p1) && decide (p1 < ni p0.length)) (az p0 p1.toNat fun x12=>
 asI .i64 x12 fun n13=>grd (decide (0 <= n13) && decide (n13 < ni p2.length)) (az p2 n13.toNat fun x14=>
 asI .i64 x14 fun n15=>grd (decide (ni (List.length (p3++[D.int IntKind.i64 n15])) <= LIM)) (nam (p3++[D.int IntKind.i64 n15]) fun l16=>
 iU p0 (IntKind.wrap IntKind.i64 (p1 + 1)) p2 l16 p4))))
 (some ((.tup [.agg [.os (5,0) p4],.os (1,0) p3]),[])):=by
 exact (cd _ _ _).trans (by kernel_rfl)
theorem Eu (b:List D) (i:Int) (k:Bool):V 114 [.op [.os (1,0) b,.int .i64 i,.bool k]] =
 ac V 173 [.rs (1,0) b,.int .i64 i] fun x0 l1=>
 Mu x0 fun n5 n8 b11=>(unn l1 (br (!b11)
 (some ((.int .i64 (0)),[.op [.os (1,0) b,.int .i64 i,.bool false]]))
 (
 br (!k)
 (some ((.int .i64 (0)),[.op [.os (1,0) b,.int .i64 i,.bool false]]))
 (some ((.int .i64 n5),[.op [.os (1,0) b,.int .i64 n8,.bool k]]))))):=by
 exact (aX Tryz.func114 rfl _).trans (by kernel_rfl)
theorem pC (a0_:Int):V 202 [.int .i64 a0_] =
 br (decide (a0_ < 0))
 (
 ac V 202 [(.int .i64 (IntKind.wrap IntKind.i64 (0 - a0_)))] fun x0 l1=>
 asS x0 fun s2=>unn l1 (grd (decide (ni (ByteArray.size { data:=#[45] } + ByteArray.size s2) <= LIM)) (some ((.str ({ data:=#[45] }++s2)),[]))))
 (
 br (a0_ == 0)
 (some ((.str ({ data:=#[48] })),[]))
 (gq a0_ ({ data:=#[] }))):=by
 exact (aX Tryz.func202 rfl _).trans (by kernel_rfl)
theorem DG (a0_:List D) (a1_:Int):V 173 [.rs (1,0) a0_,.int .i64 a1_] =
 br (decide (a1_ < 0))
 (some ((.tup [.int .i64 (0),.int .i64 (0),.bool false]),[]))
 (
 br (decide (a1_ >= ni a0_.length))
 (some ((.tup [.int .i64 (0),.int .i64 (0),.bool false]),[]))
 (iL a0_ a1_ (0) (1) (0))):=by
 exact (aX Tryz.func173 rfl _).trans (by kernel_rfl)
theorem zm (a0_0 a0_1 a0_2:List D) (a1_:Int):V 57 [.agg [.rs (5,0) a0_0,.rs (4,0) a0_1,.rs (3,0) a0_2],.int .i64 a1_] =
 ac V 58 [.int .i64 a1_,.int .i64 (0),(.int .i64 (IntKind.wrap IntKind.i64 (ni a0_1.length - 1)))] fun x0 l1=>
 asB x0 fun b2=>unn l1 (some ((.bool b2),[])):=by
 exact (aX Tryz.func57 rfl _).trans (by kernel_rfl)
theorem yW (a0_0 a1_:List D):V 149 [.agg [.rs (5,0) a0_0],.rs (1,0) a1_] =
 grd (decide (0 <= ni a0_0.length) && decide (ni a0_0.length <= LIM)) (fJ a1_ (0) a0_0 (List.replicate (Int.toNat (ni a0_0.length)) (D.bool false))):=by
 exact (aX Tryz.func149 rfl _).trans (by kernel_rfl)
theorem Ek (a0_0:List D) (a1_:Int):V 61 [.agg [.rs (5,0) a0_0],.int .i64 a1_] =
 ac V 62 [.int .i64 a1_,.int .i64 (0),(.int .i64 (IntKind.wrap IntKind.i64 (ni a0_0.length - 1)))] fun x0 l1=>
 asB x0 fun b2=>unn l1 (some ((.bool b2),[])):=by
 exact (aX Tryz.func61 rfl _).trans (by kernel_rfl)
theorem pe (l:List D):V 80 [.rs (1,0) l,.fn 81 []] =
 ac V 145 [.rs (1,0) l,(.fn 81 [])] fun x0 l1=>
 asI .i64 x0 fun n2=>unn l1 (some ((.bool (decide (n2 >= 0))),[])):=by
 exact (aX Tryz.func80 rfl _).trans (by kernel_rfl)
theorem Gl (a0_:List D):V 51 [.rs (1,0) a0_] =
 ju a0_ (IntKind.wrap IntKind.i64 (17000 + ni a0_.length)) (0):=by
 exact (aX Tryz.func51 rfl _).trans (by kernel_rfl)
theorem xW (a0_0:List D) (a1_:Int):V 228 [.agg [.rs (5,0) a0_0],.int .i64 a1_] =
 gp a1_ a0_0 []:=by
 exact (aX Tryz.func228 rfl _).trans (by kernel_rfl)
theorem Dc (a0_:ByteArray):V 128 [.str a0_] =
 gf a0_ (0):=by
 exact (aX Tryz.func128 rfl _).trans (by kernel_rfl)

end Go.Eng
/-! the functions as the interpreter has them -/
namespace Go.Eng
open Go.Proofs Go.Proofs.Tryz
set_option maxRecDepth 100000
theorem BJ (a0_0:List D) (a0_1 a0_2:Int):V 90 [.op [.rs (1,0) a0_0,.int .i64 a0_1,.int .i64 a0_2]] =
 ac V 154 [.op [.rs (1,0) a0_0,.int .i64 a0_1,.int .i64 a0_2]] fun x0 l1=>
 asAgg x0 fun l2=>unc l2 fun x3 l4=>aI (5,0) x3 fun l5=>unn l4 (unc l1 fun x6 l7=>bH x6 fun l8=>unc l8 fun x9 l10=>cu (1,0) x9 fun l11=>unc l10 fun x12 l13=>asI .i64 x12 fun n14=>unc l13 fun x15 l16=>asI .i64 x15 fun n17=>unn l16 (unn l7 (br (decide (ni l5.length > 0))
 (
 ac V 155 [.op [.rs (1,0) l11,.int .i64 n14,.int .i64 n17],.int .i64 (12)] fun x18 l19=>
 asB x18 fun b20=>unc l19 fun x21 l22=>bH x21 fun l23=>unc l23 fun x24 l25=>cu (1,0) x24 fun l26=>unc l25 fun x27 l28=>asI .i64 x27 fun n29=>unc l28 fun x30 l31=>asI .i64 x30 fun n32=>unn l31 (unn l22 (br b20
 (
 ac V 76 [.op [.rs (1,0) l26,.int .i64 n29,.int .i64 n32],(.int .i64 (ni l5.length))] fun x33 l34=>
 asI .i64 x33 fun n35=>unc l34 fun x36 l37=>bH x36 fun l38=>unc l38 fun x39 l40=>cu (1,0) x39 fun l41=>unc l40 fun x42 l43=>asI .i64 x42 fun n44=>unc l43 fun x45 l46=>asI .i64 x45 fun n47=>unn l46 (unn l37 (grd (decide (0 <= n35) && decide (n35 < ni l5.length)) (az l5 n35.toNat fun x48=>
 asAgg x48 fun l49=>unc l49 fun x50 l51=>asI .i64 x50 fun n52=>unc l51 fun x53 l54=>asI .i64 x53 fun n55=>unc l54 fun x56 l57=>asS x56 fun s58=>unc l57 fun x59 l60=>asI .i64 x59 fun n61=>unc l60 fun x62 l63=>asI .i64 x62 fun n64=>unn l63 (ac V 156 [.op [.rs (1,0) l41,.int .i64 n44,.int .i64 n47],.agg [.int .i64 n52,.int .i64 n55,.str s58,.int .i64 n61,.int .i64 n64]] fun x65 l66=>
 asAgg x65 fun l67=>unc l67 fun x68 l69=>asI .i64 x68 fun n70=>unc l69 fun x71 l72=>asI .i64 x71 fun n73=>unc l72 fun x74 l75=>asS x74 fun s76=>unc l75 fun x77 l78=>asI .i64 x77 fun n79=>unc l78 fun x80 l81=>asI .i64 x80 fun n82=>unn l81 (unc l66 fun x83 l84=>bH x83 fun l85=>unc l85 fun x86 l87=>cu (1,0) x86 fun l88=>unc l87 fun x89 l90=>asI .i64 x89 fun n91=>unc l90 fun x92 l93=>asI .i64 x92 fun n94=>unn l93 (unn l84 (grd (decide (0 <= n35) && decide (n35 < ni l5.length)) (az l5 n35.toNat fun _=>
 nam (List.set l5 n35.toNat (D.agg [D.int IntKind.i64 n70,D.int IntKind.i64 n73,D.str s76,D.int IntKind.i64 n79,D.int IntKind.i64 n82])) fun l96=>
 ac V 155 [.op [.rs (1,0) l88,.int .i64 n91,.int .i64 n94],.int .i64 (60)] fun x97 l98=>
 asB x97 fun b99=>unc l98 fun x100 l101=>bH x100 fun l102=>unc l102 fun x103 l104=>cu (1,0) x103 fun l105=>unc l104 fun x106 l107=>asI .i64 x106 fun n108=>unc l107 fun x109 l110=>asI .i64 x109 fun n111=>unn l110 (unn l101 (br b99
 (
 ac V 76 [.op [.rs (1,0) l105,.int .i64 n108,.int .i64 n111],.int .i64 (2)] fun x112 l113=>
 asI .i64 x112 fun n114=>unc l113 fun x115 l116=>bH x115 fun l117=>unc l117 fun x118 l119=>cu (1,0) x118 fun l120=>unc l119 fun x121 l122=>asI .i64 x121 fun n123=>unc l122 fun x124 l125=>asI .i64 x124 fun n126=>unn l125 (unn l116 (grd (decide (0 <= IntKind.wrap IntKind.i64 (3000 + n114)) && decide (IntKind.wrap IntKind.i64 (3000 + n114) <= LIM)) (ef (0) l120 n123 n126 (List.replicate (Int.toNat (IntKind.wrap IntKind.i64 (3000 + n114))) (D.agg [D.int IntKind.i64 (0),D.int IntKind.i64 (0),D.str { data:=#[] },D.int IntKind.i64 (0),D.int IntKind.i64 (0)]))))))
 (some ((.agg [.os (5,0) l96]),[.op [.rs (1,0) l105,.int .i64 n108,.int .i64 n111]])))))))))))))
 (
 ac V 155 [.op [.rs (1,0) l26,.int .i64 n29,.int .i64 n32],.int .i64 (60)] fun x127 l128=>
 asB x127 fun b129=>unc l128 fun x130 l131=>bH x130 fun l132=>unc l132 fun x133 l134=>cu (1,0) x133 fun l135=>unc l134 fun x136 l137=>asI .i64 x136 fun n138=>unc l137 fun x139 l140=>asI .i64 x139 fun n141=>unn l140 (unn l131 (br b129
 (
 ac V 76 [.op [.rs (1,0) l135,.int .i64 n138,.int .i64 n141],.int .i64 (2)] fun x142 l143=>
 asI .i64 x142 fun n144=>unc l143 fun x145 l146=>bH x145 fun l147=>unc l147 fun x148 l149=>cu (1,0) x148 fun l150=>unc l149 fun x151 l152=>asI .i64 x151 fun n153=>unc l152 fun x154 l155=>asI .i64 x154 fun n156=>unn l155 (unn l146 (grd (decide (0 <= IntKind.wrap IntKind.i64 (3000 + n144)) && decide (IntKind.wrap IntKind.i64 (3000 + n144) <= LIM)) (ef (0) l150 n153 n156 (List.replicate (Int.toNat (IntKind.wrap IntKind.i64 (3000 + n144))) (D.agg [D.int IntKind.i64 (0),D.int IntKind.i64 (0),D.str { data:=#[] },D.int IntKind.i64 (0),D.int IntKind.i64 (0)]))))))
 (some ((.agg [.os (5,0) l5]),[.op [.rs (1,0) l135,.int .i64 n138,.int .i64 n141]]))))))))
 (
 ac V 155 [.op [.rs (1,0) l11,.int .i64 n14,.int .i64 n17],.int .i64 (60)] fun x157 l158=>
 asB x157 fun b159=>unc l158 fun x160 l161=>bH x160 fun l162=>unc l162 fun x163 l164=>cu (1,0) x163 fun l165=>unc l164 fun x166 l167=>asI .i64 x166 fun n168=>unc l167 fun x169 l170=>asI .i64 x169 fun n171=>unn l170 (unn l161 (br b159
 (
 ac V 76 [.op [.rs (1,0) l165,.int .i64 n168,.int .i64 n171],.int .i64 (2)] fun x172 l173=>
 asI .i64 x172 fun n174=>unc l173 fun x175 l176=>bH x175 fun l177=>unc l177 fun x178 l179=>cu (1,0) x178 fun l180=>unc l179 fun x181 l182=>asI .i64 x181 fun n183=>unc l182 fun x184 l185=>asI .i64 x184 fun n186=>unn l185 (unn l176 (grd (decide (0 <= IntKind.wrap IntKind.i64 (3000 + n174)) && decide (IntKind.wrap IntKind.i64 (3000 + n174) <= LIM)) (ef (0) l180 n183 n186 (List.replicate (Int.toNat (IntKind.wrap IntKind.i64 (3000 + n174))) (D.agg [D.int IntKind.i64 (0),D.int IntKind.i64 (0),D.str { data:=#[] },D.int IntKind.i64 (0),D.int IntKind.i64 (0)]))))))
 (some ((.agg [.os (5,0) l5]),[.op [.rs (1,0) l165,.int .i64 n168,.int .i64 n171]])))))))):=by
 exact (aX Tryz.func90 rfl _).trans (by kernel_rfl)
theorem iQ (p0:Int) (p1:List D) (p2 p3:Int):dW p0 p1 p2 p3 =
 br (decide (p0 < 4))
 (
 ac V 192 [.op [.rs (1,0) p1,.int .i64 p2,.int .i64 p3]] fun x0 l1=>
 asS x0 fun s2=>unc l1 fun x3 l4=>bH x3 fun l5=>unc l5 fun x6 l7=>cu (1,0) x6 fun l8=>unc l7 fun x9 l10=>asI .i64 x9 fun n11=>unc l10 fun x12 l13=>asI .i64 x12 fun n14=>unn l13 (unn l4 (ac V 191 [.agg [.rs (5,0) []],.str s2] fun x15 l16=>
 aP x15 fun l17=>unc l17 fun x18 l19=>asAgg x18 fun l20=>unc l20 fun x21 l22=>aI (5,0) x21 fun l23=>unn l22 (unc l19 fun x24 l25=>aI (1,0) x24 fun l26=>unc l25 fun x27 l28=>asI .i64 x27 fun n29=>unc l28 fun x30 l31=>asI .i64 x30 fun _=>unn l31 (unn l16 (ac V 193 [.agg [.rs (5,0) l23],.rs (1,0) l26] fun x33 l34=>
 aP x33 fun l35=>unc l35 fun x36 l37=>asAgg x36 fun l38=>unc l38 fun x39 l40=>aI (5,0) x39 fun l41=>unc l40 fun x42 l43=>aI (4,0) x42 fun l44=>unc l43 fun x45 l46=>aI (3,0) x45 fun l47=>unn l46 (unc l37 fun x48 l49=>asI .i64 x48 fun n50=>unc l49 fun x51 l52=>asI .i64 x51 fun _=>unn l52 (unn l34 (br (n29 == 0)
 (
 br (n50 == 0)
 (some ((.agg [.os (5,0) l41,.os (4,0) l44,.os (3,0) l47]),[.op [.rs (1,0) l8,.int .i64 n11,.int .i64 n14]]))
 (dW (IntKind.wrap IntKind.i64 (p0 + 1)) l8 n11 n14))
 (dW (IntKind.wrap IntKind.i64 (p0 + 1)) l8 n11 n14))))))))))
 (
 ac V 191 [.agg [.rs (5,0) []],.str ({ data:=#[40,112,114,105,110,116,32,49,41] })] fun x54 l55=>
 aP x54 fun l56=>unc l56 fun x57 l58=>asAgg x57 fun l59=>unc l59 fun x60 l61=>aI (5,0) x60 fun l62=>unn l61 (unc l58 fun x63 l64=>aI (1,0) x63 fun l65=>unc l64 fun x66 l67=>asI .i64 x66 fun _=>unc l67 fun x69 l70=>asI .i64 x69 fun _=>unn l70 (unn l55 (ac V 193 [.agg [.rs (5,0) l62],.rs (1,0) l65] fun x72 l73=>
 aP x72 fun l74=>unc l74 fun x75 l76=>asAgg x75 fun l77=>unc l77 fun x78 l79=>aI (5,0) x78 fun l80=>unc l79 fun x81 l82=>aI (4,0) x81 fun l83=>unc l82 fun x84 l85=>aI (3,0) x84 fun l86=>unn l85 (unc l76 fun x87 l88=>asI .i64 x87 fun _=>unc l88 fun x90 l91=>asI .i64 x90 fun _=>unn l91 (unn l73 (some ((.agg [.os (5,0) l80,.os (4,0) l83,.os (3,0) l86]),[.op [.rs (1,0) p1,.int .i64 p2,.int .i64 p3]])))))))):=by
 exact (cd _ _ _).trans (by kernel_rfl)
theorem Dl (a0_0:List D) (a0_1 a0_2:Int):V 143 [.op [.rs (1,0) a0_0,.int .i64 a0_1,.int .i64 a0_2]] =
 grd (!decide (33 < 0)) (grd (!decide (45 < 0)) (br (decide (a0_1 < ni a0_0.length))
 (
 grd (decide (0 <= a0_1) && decide (a0_1 < ni a0_0.length)) (az a0_0 a0_1.toNat fun x0=>
 asI .u8 x0 fun n1=>some ((.int .i64 (IntKind.wrap IntKind.i64 (ni (BitVec.toNat (BitVec.ofInt (IntKind.bits IntKind.i64) (IntKind.wrap IntKind.i64 (IntKind.wrap IntKind.i64 (ni (BitVec.toNat (BitVec.ofInt (IntKind.bits IntKind.i64) (IntKind.wrap IntKind.i64 (ni (BitVec.toNat (BitVec.ofInt (IntKind.bits IntKind.i64) (Int.fdiv (IntKind.wrap IntKind.i64 (IntKind.wrap IntKind.i64 (a0_2 * 6364136223846793005) + 1442695040888963407)) (2 ^ min (Int.toNat (33)) (IntKind.bits IntKind.i64))) ^^^ BitVec.ofInt (IntKind.bits IntKind.i64) (Int.fdiv (IntKind.wrap IntKind.i64 (IntKind.wrap IntKind.i64 (a0_2 * 6364136223846793005) + 1442695040888963407)) (2 ^ min (Int.toNat (45)) (IntKind.bits IntKind.i64))))))) &&& BitVec.ofInt (IntKind.bits IntKind.i64) (255)))) + IntKind.wrap IntKind.i64 n1)) &&& BitVec.ofInt (IntKind.bits IntKind.i64) (255)))))),[(.op [.rs (1,0) a0_0,(.int .i64 (IntKind.wrap IntKind.i64 (a0_1 + 1))),(.int .i64 (IntKind.wrap IntKind.i64 (IntKind.wrap IntKind.i64 (a0_2 * 6364136223846793005) + 1442695040888963407)))])])))
 (some ((.int .i64 (IntKind.wrap IntKind.i64 (ni (BitVec.toNat (BitVec.ofInt (IntKind.bits IntKind.i64) (IntKind.wrap IntKind.i64 (ni (BitVec.toNat (BitVec.ofInt (IntKind.bits IntKind.i64) (Int.fdiv (IntKind.wrap IntKind.i64 (IntKind.wrap IntKind.i64 (a0_2 * 6364136223846793005) + 1442695040888963407)) (2 ^ min (Int.toNat (33)) (IntKind.bits IntKind.i64))) ^^^ BitVec.ofInt (IntKind.bits IntKind.i64) (Int.fdiv (IntKind.wrap IntKind.i64 (IntKind.wrap IntKind.i64 (a0_2 * 6364136223846793005) + 1442695040888963407)) (2 ^ min (Int.toNat (45)) (IntKind.bits IntKind.i64))))))) &&& BitVec.ofInt (IntKind.bits IntKind.i64) (255)))))),[(.op [.rs (1,0) a0_0,.int .i64 a0_1,(.int .i64 (IntKind.wrap IntKind.i64 (IntKind.wrap IntKind.i64 (a0_2 * 6364136223846793005) + 1442695040888963407)))])])))):=by
 exact (aX Tryz.func143 rfl _).trans (by kernel_rfl)
theorem y5 (a0_0 a0_1 a0_2:List D) (a1_:ByteArray) (a2_:Int):V 25 [.agg [.rs (5,0) a0_0,.rs (4,0) a0_1,.rs (3,0) a0_2],.str a1_,.int .i64 a2_] =
 ac V 78 [.agg [.rs (5,0) a0_0,.rs (4,0) a0_1,.rs (3,0) a0_2],.str a1_] fun x0 l1=>
 aP x0 fun l2=>unc l2 fun x3 l4=>tk4 x3 fun l8 n11 n14 n17 n20 n23 n26 n29=>(unc l4 fun x30 l31=>asB x30 fun b32=>unn l31 (unn l1 (br (!b32)
 (some ((.tup [.agg [.int .i64 (0),.os (5,0) [],.int .i64 (0),.int .i64 (0),.int .i64 (0),.int .i64 (0),.int .i64 (0),.int .i64 (0),.int .i64 (0),.os (1,0) [],.os (1,0) []],.bool false]),[]))
 (
 ac V 79 [.agg [.rs (5,0) a0_0,.rs (4,0) a0_1,.rs (3,0) a0_2],.agg [.int .i64 a2_,.rs (5,0) l8,.int .i64 n11,.int .i64 n14,.int .i64 n17,.int .i64 n20,.int .i64 n23,.int .i64 n26,.int .i64 n29,.rs (1,0) [],.rs (1,0) []]] fun x33 l34=>
 asB x33 fun b35=>unn l34 (br (!b35)
 (some ((.tup [.agg [.int .i64 (0),.os (5,0) [],.int .i64 (0),.int .i64 (0),.int .i64 (0),.int .i64 (0),.int .i64 (0),.int .i64 (0),.int .i64 (0),.os (1,0) [],.os (1,0) []],.bool false]),[]))
 (some ((.tup [.agg [.int .i64 a2_,.os (5,0) l8,.int .i64 n11,.int .i64 n14,.int .i64 n17,.int .i64 n20,.int .i64 n23,.int .i64 n26,.int .i64 n29,.os (1,0) [],.os (1,0) []],.bool true]),[]))))))):=by
 exact (aX Tryz.func25 rfl _).trans (by kernel_rfl)
theorem gw (p0 p1 p2:Int) (p3:Bool) (p4 p5:List D):dh p0 p1 p2 p3 p4 p5 =
 br (decide (p1 < p0))
 (
 br p3
 (
 br (decide (p1 <= 3000))
 (
 ac V 141 [.op [.os (1,0) p4,.int .i64 p2,.bool p3]] fun x45 l46=>
 tk1 x45 fun n50 n53 s56 n59 n62=>(unc l46 fun x63 l64=>cr x63 fun l68 n71 b74=>(unn l64 (grd (decide (ni (List.length (p5++[D.agg [D.int IntKind.i64 n50,D.int IntKind.i64 n53,D.str s56,D.int IntKind.i64 n59,D.int IntKind.i64 n62]])) <= LIM)) (nam (p5++[D.agg [D.int IntKind.i64 n50,D.int IntKind.i64 n53,D.str s56,D.int IntKind.i64 n59,D.int IntKind.i64 n62]]) fun l75=>
 dh p0 (IntKind.wrap IntKind.i64 (p1 + 1)) n71 b74 l68 l75)))))
 (some ((.agg [.os (5,0) p5]),[.op [.os (1,0) p4,.int .i64 p2,.bool p3]])))
 (some ((.agg [.os (5,0) p5]),[.op [.os (1,0) p4,.int .i64 p2,.bool p3]])))
 (some ((.agg [.os (5,0) p5]),[.op [.os (1,0) p4,.int .i64 p2,.bool p3]])):=by
 exact (cd _ _ _).trans (by kernel_rfl)
theorem lY (p0:Int) (p1 p2 p3:List D):ir p0 p1 p2 p3 =
 br (decide (p0 < ni p3.length))
 (
 grd (decide (0 <= p0) && decide (p0 < ni p3.length)) (az p3 p0.toNat fun x6=>
 Pf x6 fun s10 n13 n16=>(ac V 128 [.str s10] fun x17 l18=>
 asB x17 fun b19=>unn l18 (br (!b19)
 (some ((.bool false),[]))
 (
 ac V 129 [.agg [.rs (5,0) p1,.rs (4,0) p2,.rs (3,0) p3],.str s10] fun x20 l21=>
 asI .i64 x20 fun n22=>unn l21 (br (n22 != p0)
 (some ((.bool false),[]))
 (
 ac V 62 [.int .i64 n13,.int .i64 (0),(.int .i64 (IntKind.wrap IntKind.i64 (ni p2.length - 1)))] fun x23 l24=>
 asB x23 fun b25=>unn l24 (br (!b25)
 (some ((.bool false),[]))
 (
 ac V 62 [.int .i64 n16,.int .i64 (0),.int .i64 (4)] fun x26 l27=>
 asB x26 fun b28=>unn l27 (br (!b28)
 (some ((.bool false),[]))
 (ir (IntKind.wrap IntKind.i64 (p0 + 1)) p1 p2 p3)))))))))))
 (some ((.bool true),[])):=by
 exact (cd _ _ _).trans (by kernel_rfl)
theorem gH (p0 p1:Int) (p2:List D) (p3 p4:Int) (p5:List D):ej p0 p1 p2 p3 p4 p5 =
 br (decide (p1 < p0))
 (
 ac V 197 [.op [.rs (1,0) p2,.int .i64 p3,.int .i64 p4],.int .i64 p1] fun x54 l55=>
 asAgg x54 fun l56=>unc l56 fun x57 l58=>asI .i64 x57 fun n59=>unc l58 fun x60 l61=>asI .i64 x60 fun n62=>unc l61 fun x63 l64=>asS x63 fun s65=>unc l64 fun x66 l67=>asI .i64 x66 fun n68=>unc l67 fun x69 l70=>asI .i64 x69 fun n71=>unn l70 (unc l55 fun x72 l73=>bH x72 fun l74=>unc l74 fun x75 l76=>cu (1,0) x75 fun l77=>unc l76 fun x78 l79=>asI .i64 x78 fun n80=>unc l79 fun x81 l82=>asI .i64 x81 fun n83=>unn l82 (unn l73 (ac V 158 [.op [.os (5,0) p5],.agg [.int .i64 n59,.int .i64 n62,.str s65,.int .i64 n68,.int .i64 n71]] fun x84 l85=>
 asI .i64 x84 fun _=>unc l85 fun x87 l88=>bH x87 fun l89=>unc l89 fun x90 l91=>aI (5,0) x90 fun l92=>unn l91 (unn l88 (ej p0 (IntKind.wrap IntKind.i64 (p1 + 1)) l77 n80 n83 l92))))))
 (some ((.agg [.os (5,0) p5]),[.op [.rs (1,0) p2,.int .i64 p3,.int .i64 p4]])):=by
 exact (cd _ _ _).trans (by kernel_rfl)
theorem Jh (a0_0:List D) (a1_:ByteArray):V 191 [.agg [.rs (5,0) a0_0],.str a1_] =
 ac V 60 [.agg [.rs (5,0) a0_0]] fun x0 l1=>
 asB x0 fun b2=>unn l1 (br (!b2)
 (some ((.tup [.agg [.os (5,0) []],.os (1,0) [],.int .i64 (6),.int .i64 (0)]),[]))
 (
 br (decide (ni (ByteArray.size a1_) > 400))
 (
 ac V 147 [.agg [.rs (5,0) a0_0]] fun x3 l4=>
 asAgg x3 fun l5=>unc l5 fun x6 l7=>aI (5,0) x6 fun l8=>unn l7 (unn l4 (some ((.tup [.agg [.os (5,0) l8],.os (1,0) [],.int .i64 (1),.int .i64 (0)]),[]))))
 (
 ac V 147 [.agg [.rs (5,0) a0_0]] fun x9 l10=>
 asAgg x9 fun l11=>unc l11 fun x12 l13=>aI (5,0) x12 fun l14=>unn l13 (unn l10 (cg a1_ (0) a0_0 [] ([D.agg
 [D.int IntKind.i64 (0),
 D.os
 (TypeInfo.size (Tables.types (Program.toTables Tryz.prog))[3],
 match m6 Tryz.prog (3) with
 | true=>0
 | false=>1)
 []]]) l14))))):=by
 exact (aX Tryz.func191 rfl _).trans (by kernel_rfl)
theorem lV (p0:List D) (p1 p2:Int) (p3:List D):iw p0 p1 p2 p3 =
 br (decide (p2 < p1))
 (
 grd (decide (0 <= p2) && decide (p2 < ni p0.length)) (az p0 p2.toNat fun x0=>
 tk1 x0 fun n4 n7 s10 n13 n16=>(ac V 126 [.agg [.int .i64 n4,.int .i64 n7,.str s10,.int .i64 n13,.int .i64 n16],.int .i64 p2] fun x17 l18=>
 asB x17 fun b19=>unn l18 (br (!b19)
 (some ((.bool false),[]))
 (iw p0 p1 (IntKind.wrap IntKind.i64 (p2 + 1)) p3)))))
 (some ((.bool (decide (ni p3.length <= 3000))),[])):=by
 exact (cd _ _ _).trans (by kernel_rfl)
theorem uh (a0_:Int):V 177 [.int .u8 a0_] =
 br (decide (a0_ >= 97))
 (
 br (decide (a0_ <= 122))
 (some ((.bool true),[]))
 (
 grd (decide (0 < 8)) (ac V 203 [.rs (1,0) [.int .u8 (43),.int .u8 (45),.int .u8 (42),.int .u8 (60),.int .u8 (61),.int .u8 (63),.int .u8 (33),.int .u8 (47)],.int .u8 a0_] fun x0 l1=>
 asB x0 fun b2=>unn l1 (some ((.bool b2),[])))))
 (
 grd (decide (0 < 8)) (ac V 203 [.rs (1,0) [.int .u8 (43),.int .u8 (45),.int .u8 (42),.int .u8 (60),.int .u8 (61),.int .u8 (63),.int .u8 (33),.int .u8 (47)],.int .u8 a0_] fun x3 l4=>
 asB x3 fun b5=>unn l4 (some ((.bool b5),[])))):=by
 exact (aX Tryz.func177 rfl _).trans (by kernel_rfl)
theorem kF (p0:List D) (p1:Int) (p2 p3:List D):fJ p0 p1 p2 p3 =
 br (decide (p1 < ni p0.length))
 (
 grd (decide (0 <= p1) && decide (p1 < ni p0.length)) (az p0 p1.toNat fun x0=>
 asI .i64 x0 fun n1=>grd (decide (0 <= n1) && decide (n1 < ni p3.length)) (az p3 n1.toNat fun _=>
 nam (List.set p3 n1.toNat (D.bool true)) fun l3=>
 fJ p0 (IntKind.wrap IntKind.i64 (p1 + 1)) p2 l3)))
 (c8 (IntKind.wrap IntKind.i64 (ni p2.length - 1)) p2 p3):=by
 exact (cd _ _ _).trans (by kernel_rfl)
theorem ig (p0:List D) (p1 p2:Int):ez p0 p1 p2 =
 br (decide (p2 < p1))
 (
 grd (decide (0 <= p2) && decide (p2 < ni p0.length)) (az p0 p2.toNat fun x0=>
 asS x0 fun s1=>ac V 81 [.str s1] fun x2 l3=>
 asB x2 fun b4=>unn l3 (br b4
 (some ((.int .i64 p2),[]))
 (ez p0 p1 (IntKind.wrap IntKind.i64 (p2 + 1))))))
 (some ((.int .i64 (-1)),[])):=by
 exact (cd _ _ _).trans (by kernel_rfl)
theorem Cm (a0_:List D) (a1_:Int):V 140 [.rs (1,0) a0_,.int .i64 a1_] =
 ac V 58 [.int .i64 a1_,.int .i64 (0),(.int .i64 (IntKind.wrap IntKind.i64 (ni a0_.length - 1)))] fun x0 l1=>
 asB x0 fun b2=>unn l1 (br (!b2)
 (some ((.tup [.int .i64 (0),.int .i64 (0),.bool false]),[]))
 (iz a0_ a1_ (0) (0))):=by
 exact (aX Tryz.func140 rfl _).trans (by kernel_rfl)
theorem DZ (a0_:ByteArray):V 124 [.str a0_] =
 ac V 58 [(.int .i64 (ni (ByteArray.size a0_))),.int .i64 (1),.int .i64 (12)] fun x0 l1=>
 asB x0 fun b2=>unn l1 (br (!b2)
 (some ((.bool false),[]))
 (gc a0_ (ni (ByteArray.size a0_)) (0))):=by
 exact (aX Tryz.func124 rfl _).trans (by kernel_rfl)
theorem mO (p0:List D) (p1:ByteArray) (p2:Int):gC p0 p1 p2 =
 br (decide (p2 < ni p0.length))
 (jn p0 p1 p2 (0))
 (some ((.tup [.int .i64 (-1),.int .i64 (0)]),[])):=by
 exact (cd _ _ _).trans (by kernel_rfl)
theorem CR (a0_:Int):V 67 [.int .i64 a0_] =
 br (decide (a0_ < 0))
 (some ((.os (1,0) []),[]))
 (iG a0_ []):=by
 exact (aX Tryz.func67 rfl _).trans (by kernel_rfl)
end Go.Eng
/-! the functions as the interpreter has them -/
namespace Go.Eng
open Go.Proofs Go.Proofs.Tryz
set_option maxRecDepth 100000
theorem Ee (p l d:List D) (h:Int) (n x e:List D):V 254 [.op [.os (5,0) p,.os (4,0) l,.os (3,0) d,.int .i64 h],.rs (1,0) n,.rs (1,0) x,.rs (1,1) e] =
 ac V 237 [.op [.os (5,0) p,.os (4,0) l,.os (3,0) d,.int .i64 h],(.agg [.int .i64 (6),.int .i64 (0),(.int .i64 (ni n.length)),.str ({ data:=#[] })])] fun x0 l1=>
 asI .i64 x0 fun n2=>unc l1 fun x3 l4=>tk2 x3 fun l8 l11 l14 n17=>(unn l4 (ac V 237 [.op [.os (5,0) l8,.os (4,0) l11,.os (3,0) l14,.int .i64 n17],(.agg [.int .i64 (5),.int .i64 (0),.int .i64 (0),.str ({ data:=#[] })])] fun x18 l19=>
 asI .i64 x18 fun n20=>unc l19 fun x21 l22=>tk2 x21 fun l26 l29 l32 n35=>(unn l22 (ac V 253 [.op [.os (5,0) l26,.os (4,0) l29,.os (3,0) l32,.int .i64 n35],.int .i64 n2] fun x36 l37=>
 aP x36 fun l38=>unn l38 (unc l37 fun x39 l40=>tk2 x39 fun l44 l47 l50 n53=>(unn l40 (grd (decide (ni (List.length ([D.rs (1,0) n]++e)) <= LIM)) (nam ([D.rs (1,0) n]++e) fun l54=>
 ac V 236 [.op [.os (5,0) l44,.os (4,0) l47,.os (3,0) l50,.int .i64 n53],.rs (1,0) x,.rs (1,1) l54] fun x55 l56=>
 aP x55 fun l57=>unn l57 (unc l56 fun x58 l59=>tk2 x58 fun l63 l66 l69 n72=>(unn l59 (ac V 237 [.op [.os (5,0) l63,.os (4,0) l66,.os (3,0) l69,.int .i64 n72],(.agg [.int .i64 (8),.int .i64 (0),.int .i64 (0),.str ({ data:=#[] })])] fun x73 l74=>
 asI .i64 x73 fun _=>unc l74 fun x76 l77=>tk2 x76 fun l81 l84 l87 n90=>(unn l77 (ac V 253 [.op [.os (5,0) l81,.os (4,0) l84,.os (3,0) l87,.int .i64 n90],.int .i64 n20] fun x91 l92=>
 aP x91 fun l93=>unn l93 (unc l92 fun x94 l95=>tk2 x94 fun l99 l102 l105 n108=>(unn l95 (some ((.tup []),[.op [.os (5,0) l99,.os (4,0) l102,.os (3,0) l105,.int .i64 n108]]))))))))))))))))):=by
 exact (aX Tryz.func254 rfl _).trans (by kernel_rfl)
theorem zr (a0_0:List D) (a0_1 a0_2 a1_:Int):V 76 [.op [.rs (1,0) a0_0,.int .i64 a0_1,.int .i64 a0_2],.int .i64 a1_] =
 br (decide (a1_ <= 0))
 (some ((.int .i64 (0)),[.op [.rs (1,0) a0_0,.int .i64 a0_1,.int .i64 a0_2]]))
 (
 br (decide (a1_ <= 256))
 (
 ac V 143 [.op [.rs (1,0) a0_0,.int .i64 a0_1,.int .i64 a0_2]] fun x0 l1=>
 asI .i64 x0 fun n2=>unc l1 fun x3 l4=>bH x3 fun l5=>unc l5 fun x6 l7=>cu (1,0) x6 fun l8=>unc l7 fun x9 l10=>asI .i64 x9 fun n11=>unc l10 fun x12 l13=>asI .i64 x12 fun n14=>unn l13 (unn l4 (grd (!decide (a1_ = 0)) (some ((.int .i64 (Int.tmod n2 a1_)),[.op [.rs (1,0) l8,.int .i64 n11,.int .i64 n14]])))))
 (
 ac V 143 [.op [.rs (1,0) a0_0,.int .i64 a0_1,.int .i64 a0_2]] fun x15 l16=>
 asI .i64 x15 fun n17=>unc l16 fun x18 l19=>bH x18 fun l20=>unc l20 fun x21 l22=>cu (1,0) x21 fun l23=>unc l22 fun x24 l25=>asI .i64 x24 fun n26=>unc l25 fun x27 l28=>asI .i64 x27 fun n29=>unn l28 (unn l19 (ac V 143 [.op [.rs (1,0) l23,.int .i64 n26,.int .i64 n29]] fun x30 l31=>
 asI .i64 x30 fun n32=>unc l31 fun x33 l34=>bH x33 fun l35=>unc l35 fun x36 l37=>cu (1,0) x36 fun l38=>unc l37 fun x39 l40=>asI .i64 x39 fun n41=>unc l40 fun x42 l43=>asI .i64 x42 fun n44=>unn l43 (unn l34 (ac V 143 [.op [.rs (1,0) l38,.int .i64 n41,.int .i64 n44]] fun x45 l46=>
 asI .i64 x45 fun n47=>unc l46 fun x48 l49=>bH x48 fun l50=>unc l50 fun x51 l52=>cu (1,0) x51 fun l53=>unc l52 fun x54 l55=>asI .i64 x54 fun n56=>unc l55 fun x57 l58=>asI .i64 x57 fun n59=>unn l58 (unn l49 (ac V 143 [.op [.rs (1,0) l53,.int .i64 n56,.int .i64 n59]] fun x60 l61=>
 asI .i64 x60 fun n62=>unc l61 fun x63 l64=>bH x63 fun l65=>unc l65 fun x66 l67=>cu (1,0) x66 fun l68=>unc l67 fun x69 l70=>asI .i64 x69 fun n71=>unc l70 fun x72 l73=>asI .i64 x72 fun n74=>unn l73 (unn l64 (grd (!decide (a1_ = 0)) (some ((.int .i64 (Int.tmod (IntKind.wrap IntKind.i64 (IntKind.wrap IntKind.i64 (IntKind.wrap IntKind.i64 (IntKind.wrap IntKind.i64 (n17 * 16777216) + IntKind.wrap IntKind.i64 (n32 * 65536)) + IntKind.wrap IntKind.i64 (n47 * 256)) + n62)) a1_)),[.op [.rs (1,0) l68,.int .i64 n71,.int .i64 n74]])))))))))))):=by
 exact (aX Tryz.func76 rfl _).trans (by kernel_rfl)
theorem nc (p0:Int) (p1 p2:List D):dE p0 p1 p2 =
 br (decide (p0 >= 0))
 (
 grd (decide (0 <= p0) && decide (p0 < ni p2.length)) (az p2 p0.toNat fun x4=>
 asB x4 fun b5=>br (!b5)
 (dE (IntKind.wrap IntKind.i64 (p0 - 1)) p1 p2)
 (
 grd (decide (0 <= p0) && decide (p0 < ni p1.length)) (az p1 p0.toNat fun x6=>
 tk1 x6 fun n10 _ _ n19 n22=>(br (n10 == 5)
 (
 grd (decide (0 <= n19) && decide (n19 < ni p2.length)) (az p2 n19.toNat fun _=>
 nam (List.set p2 n19.toNat (D.bool true)) fun l24=>
 grd (decide (0 <= n22) && decide (n22 < ni l24.length)) (az l24 n22.toNat fun _=>
 nam (List.set l24 n22.toNat (D.bool true)) fun l26=>
 dE (IntKind.wrap IntKind.i64 (p0 - 1)) p1 l26)))
 (
 br (n10 == 6)
 (
 br (n10 == 6)
 (
 grd (decide (0 <= n19) && decide (n19 < ni p2.length)) (az p2 n19.toNat fun _=>
 nam (List.set p2 n19.toNat (D.bool true)) fun l28=>
 dE (IntKind.wrap IntKind.i64 (p0 - 1)) p1 l28))
 (dE (IntKind.wrap IntKind.i64 (p0 - 1)) p1 p2))
 (
 br (n10 == 7)
 (
 grd (decide (0 <= n19) && decide (n19 < ni p2.length)) (az p2 n19.toNat fun _=>
 nam (List.set p2 n19.toNat (D.bool true)) fun l30=>
 dE (IntKind.wrap IntKind.i64 (p0 - 1)) p1 l30))
 (dE (IntKind.wrap IntKind.i64 (p0 - 1)) p1 p2))))))))
 (some ((.os (1,0) p2),[])):=by
 exact (cd _ _ _).trans (by kernel_rfl)
theorem ul (a0_0 a0_1 a0_2:List D) (a1_:ByteArray):V 78 [.agg [.rs (5,0) a0_0,.rs (4,0) a0_1,.rs (3,0) a0_2],.str a1_] =
 ac V 129 [.agg [.rs (5,0) a0_0,.rs (4,0) a0_1,.rs (3,0) a0_2],.str a1_] fun x0 l1=>
 asI .i64 x0 fun n2=>unn l1 (ac V 59 [.agg [.rs (5,0) a0_0,.rs (4,0) a0_1,.rs (3,0) a0_2]] fun x3 l4=>
 asB x3 fun b5=>unn l4 (br (!b5)
 (some ((.tup [.agg [.os (5,0) [],.int .i64 (0),.int .i64 (0),.int .i64 (0),.int .i64 (0),.int .i64 (0),.int .i64 (0),.int .i64 (0)],.bool false]),[]))
 (
 br (decide (n2 < 0))
 (some ((.tup [.agg [.os (5,0) [],.int .i64 (0),.int .i64 (0),.int .i64 (0),.int .i64 (0),.int .i64 (0),.int .i64 (0),.int .i64 (0)],.bool false]),[]))
 (
 grd (decide (0 <= n2) && decide (n2 < ni a0_2.length)) (az a0_2 n2.toNat fun x6=>
 asAgg x6 fun l7=>az l7 2 fun x8=>
 asI .i64 x8 fun n9=>br (n9 != 0)
 (some ((.tup [.agg [.os (5,0) [],.int .i64 (0),.int .i64 (0),.int .i64 (0),.int .i64 (0),.int .i64 (0),.int .i64 (0),.int .i64 (0)],.bool false]),[]))
 (
 grd (decide (0 <= n2) && decide (n2 < ni a0_2.length)) (az a0_2 n2.toNat fun x10=>
 asAgg x10 fun l11=>az l11 1 fun x12=>
 asI .i64 x12 fun n13=>some ((.tup [(.agg [(.os (5,0) [.agg [.int .i64 (1),.int .i64 (0),.str ({ data:=#[] }),.int .i64 (0),.int .i64 (0)],(.agg [.int .i64 (5),.int .i64 (0),.str ({ data:=#[] }),.int .i64 (0),.int .i64 (0)])]),.int .i64 n13,.int .i64 (0),.int .i64 (1),.int .i64 (0),.int .i64 (0),.int .i64 (0),.int .i64 (0)]),.bool true]),[])))))))):=by
 exact (aX Tryz.func78 rfl _).trans (by kernel_rfl)
theorem fX (p0:List D) (p1 p2:Int) (p3 p4 p5:List D):fC p0 p1 p2 p3 p4 p5 =
 br (decide (p1 < ni p0.length))
 (
 grd (decide (0 <= p1) && decide (p1 < ni p0.length)) (az p0 p1.toNat fun x37=>
 asI .i64 x37 fun n38=>ac V 215 [.op [.os (5,0) p3,.os (4,0) p4,.os (3,0) p5,.int .i64 p2],.int .i64 n38] fun x39 l40=>
 aP x39 fun l41=>unn l41 (unc l40 fun x42 l43=>tk2 x42 fun l47 l50 l53 n56=>(unn l43 (br (n56 == 3)
 (some ((.tup [.agg [.os (5,0) [],.os (4,0) [],.os (3,0) []],.int .i64 (3),.int .i64 (0)]),[]))
 (
 br (n56 != 0)
 (some ((.tup [.agg [.os (5,0) [],.os (4,0) [],.os (3,0) []],.int .i64 n56,.int .i64 p1]),[]))
 (fC p0 (IntKind.wrap IntKind.i64 (p1 + 1)) n56 l47 l50 l53)))))))
 (
 ac V 59 [.agg [.rs (5,0) p3,.rs (4,0) p4,.rs (3,0) p5]] fun x57 l58=>
 asB x57 fun b59=>unn l58 (br (!b59)
 (some ((.tup [.agg [.os (5,0) [],.os (4,0) [],.os (3,0) []],.int .i64 (3),.int .i64 (0)]),[]))
 (some ((.tup [.agg [.os (5,0) p3,.os (4,0) p4,.os (3,0) p5],.int .i64 (0),(.int .i64 (ni p0.length))]),[])))):=by
 exact (cd _ _ _).trans (by kernel_rfl)
theorem Dz (p l d:List D) (h io im ii:Int) (is:ByteArray):V 237 [.op [.os (5,0) p,.os (4,0) l,.os (3,0) d,.int .i64 h],.agg [.int .i64 io,.int .i64 im,.int .i64 ii,.str is]] =
 br (h == 0)
 (
 br (ni l.length == 400)
 (some ((.int .i64 (0)),[.op [.os (5,0) p,.os (4,0) l,.os (3,0) d,.int .i64 (3)]]))
 (
 br (h != 0)
 (some ((.int .i64 (0)),[.op [.os (5,0) p,.os (4,0) l,.os (3,0) d,.int .i64 h]]))
 (
 grd (decide (ni (List.length (l++[D.agg [D.int IntKind.i64 io,D.int IntKind.i64 im,D.int IntKind.i64 ii,D.str is]])) <= LIM)) (nam (l++[D.agg [D.int IntKind.i64 io,D.int IntKind.i64 im,D.int IntKind.i64 ii,D.str is]]) fun l0=>
 some ((.int .i64 (IntKind.wrap IntKind.i64 (ni l0.length - 1))),[.op [.os (5,0) p,.os (4,0) l0,.os (3,0) d,.int .i64 h]])))))
 (
 br (h != 0)
 (some ((.int .i64 (0)),[.op [.os (5,0) p,.os (4,0) l,.os (3,0) d,.int .i64 h]]))
 (
 grd (decide (ni (List.length (l++[D.agg [D.int IntKind.i64 io,D.int IntKind.i64 im,D.int IntKind.i64 ii,D.str is]])) <= LIM)) (nam (l++[D.agg [D.int IntKind.i64 io,D.int IntKind.i64 im,D.int IntKind.i64 ii,D.str is]]) fun l1=>
 some ((.int .i64 (IntKind.wrap IntKind.i64 (ni l1.length - 1))),[.op [.os (5,0) p,.os (4,0) l1,.os (3,0) d,.int .i64 h]])))):=by
 exact (aX Tryz.func237 rfl _).trans (by kernel_rfl)
theorem la (p0:List D) (p1 p2:Int) (p3 p4 p5 p6:List D):dN p0 p1 p2 p3 p4 p5 p6 =
 br (decide (p1 < ni p0.length))
 (
 br (p2 == 0)
 (
 grd (decide (0 <= p1) && decide (p1 < ni p0.length)) (az p0 p1.toNat fun x0=>
 asI .i64 x0 fun n1=>ac V 230 [.op [.os (5,0) p4,.os (4,0) p5,.os (3,0) p6,.int .i64 p2],.int .i64 n1] fun x2 l3=>
 tk5 x2 fun s7 b10=>(unc l3 fun x11 l12=>tk2 x11 fun l16 l19 l22 n25=>(unn l12 (br (!b10)
 (
 grd (decide (ni (List.length (p3++[D.str s7])) <= LIM)) (nam (p3++[D.str s7]) fun l26=>
 dN p0 (IntKind.wrap IntKind.i64 (p1 + 1)) (1) l26 l16 l19 l22))
 (
 grd (decide (ni (List.length (p3++[D.str s7])) <= LIM)) (nam (p3++[D.str s7]) fun l27=>
 dN p0 (IntKind.wrap IntKind.i64 (p1 + 1)) n25 l27 l16 l19 l22)))))))
 (dz (0) p2 p3 p4 p5 p6))
 (dz (0) p2 p3 p4 p5 p6):=by
 exact (cd _ _ _).trans (by kernel_rfl)
theorem CI (a0_:ByteArray):V 212 [.str a0_] =
 br (ax a0_ { data:=#[35,116] })
 (some ((.tup [.agg [.int .i64 (2),.int .i64 (1),.str ({ data:=#[] }),.int .i64 (0),.int .i64 (0)],.bool true]),[]))
 (
 br (ax a0_ { data:=#[35,102] })
 (some ((.tup [.agg [.int .i64 (2),.int .i64 (0),.str ({ data:=#[] }),.int .i64 (0),.int .i64 (0)],.bool true]),[]))
 (
 ac V 227 [.str a0_] fun x0 l1=>
 Qh x0 fun n5 b8=>(unn l1 (br b8
 (some ((.tup [.agg [.int .i64 (3),.int .i64 n5,.str ({ data:=#[] }),.int .i64 (0),.int .i64 (0)],.bool true]),[]))
 (
 ac V 128 [.str a0_] fun x9 l10=>
 asB x9 fun b11=>unn l10 (some ((.tup [.agg [.int .i64 (4),.int .i64 (0),.str a0_,.int .i64 (0),.int .i64 (0)],.bool b11]),[]))))))):=by
 exact (aX Tryz.func212 rfl _).trans (by kernel_rfl)
theorem tP (p0:Int) (p1:List D):iJ p0 p1 =
 br (decide (p0 > 127))
 (
 grd (!decide (128 = 0)) (grd (decide (ni (List.length (p1++[D.int IntKind.u8 (IntKind.wrap IntKind.u8 (IntKind.wrap IntKind.i64 (Int.tmod p0 (128) + 128)))])) <= LIM)) (nam (p1++[D.int IntKind.u8 (IntKind.wrap IntKind.u8 (IntKind.wrap IntKind.i64 (Int.tmod p0 (128) + 128)))]) fun l0=>
 grd (!decide (128 = 0)) (iJ (IntKind.wrap IntKind.i64 (Int.tdiv p0 (128))) l0))))
 (
 grd (decide (ni (List.length (p1++[D.int IntKind.u8 (IntKind.wrap IntKind.u8 p0)])) <= LIM)) (nam (p1++[D.int IntKind.u8 (IntKind.wrap IntKind.u8 p0)]) fun l1=>
 some ((.os (1,0) l1),[]))):=by
 exact (cd _ _ _).trans (by kernel_rfl)
theorem JM (p l d:List D) (h x:Int):V 253 [.op [.os (5,0) p,.os (4,0) l,.os (3,0) d,.int .i64 h],.int .i64 x] =
 br (h == 0)
 (
 grd (decide (0 <= x) && decide (x < ni l.length)) (az l x.toNat fun x0=>
 asAgg x0 fun l1=>nam (List.set l x.toNat (D.agg (List.take 1 l1++[D.int IntKind.i64 (ni l.length)]++List.drop 2 l1))) fun l2=>
 some ((.tup []),[.op [.os (5,0) p,.os (4,0) l2,.os (3,0) d,.int .i64 h]])))
 (some ((.tup []),[.op [.os (5,0) p,.os (4,0) l,.os (3,0) d,.int .i64 h]])):=by
 exact (aX Tryz.func253 rfl _).trans (by kernel_rfl)
theorem ia (p0:List D) (p1 p2:Int):eF p0 p1 p2 =
 br (decide (p2 < p1))
 (
 grd (decide (0 <= p2) && decide (p2 < ni p0.length)) (az p0 p2.toNat fun x0=>
 asS x0 fun s1=>ac V 83 [.str s1] fun x2 l3=>
 asB x2 fun b4=>unn l3 (br b4
 (some ((.int .i64 p2),[]))
 (eF p0 p1 (IntKind.wrap IntKind.i64 (p2 + 1))))))
 (some ((.int .i64 (-1)),[])):=by
 exact (cd _ _ _).trans (by kernel_rfl)
theorem JQ (a0_0 a1_:List D):V 66 [.agg [.rs (5,0) a0_0],.rs (1,0) a1_] =
 ac V 137 [.op [.os (5,0) []],(.agg [.rs (5,0) a0_0]),.rs (1,0) a1_] fun x0 l1=>
 aI (1,0) x0 fun l2=>unc l1 fun x3 l4=>bH x3 fun l5=>unc l5 fun x6 l7=>aI (5,0) x6 fun l8=>unn l7 (unn l4 (j9 a1_ (ni a1_.length) (0) l2 [] l8)):=by
 exact (aX Tryz.func66 rfl _).trans (by kernel_rfl)
theorem GV (a0_0 a0_1 a0_2:List D) (a1_:ByteArray):V 125 [.agg [.rs (5,0) a0_0,.rs (4,0) a0_1,.rs (3,0) a0_2],.str a1_] =
 ac V 178 [.rs (3,0) a0_2,(.fn 179 [(.bp [.str a1_])])] fun x0 l1=>
 asI .i64 x0 fun n2=>unn l1 (some ((.int .i64 n2),[])):=by
 exact (aX Tryz.func125 rfl _).trans (by kernel_rfl)
theorem Bu (a0_0:List D) (a1_:Int):V 56 [.agg [.rs (5,0) a0_0],.int .i64 a1_] =
 ac V 58 [.int .i64 a1_,.int .i64 (0),(.int .i64 (IntKind.wrap IntKind.i64 (ni a0_0.length - 1)))] fun x0 l1=>
 asB x0 fun b2=>unn l1 (some ((.bool b2),[])):=by
 exact (aX Tryz.func56 rfl _).trans (by kernel_rfl)
theorem NU (a:ByteArray) (b c:Int) (s:ByteArray):V 179 [.agg [.str a,.int .i64 b,.int .i64 c],.bp [.str s]] =
 some ((.bool (ax a s)),[]):=by
 exact (aX Tryz.func179 rfl _).trans (by kernel_rfl)
theorem DB (a0_0:List D):V 60 [.agg [.rs (5,0) a0_0]] =
 iq (0) a0_0:=by
 exact (aX Tryz.func60 rfl _).trans (by kernel_rfl)

end Go.Eng
