/- the program and the reference on plain data, part 3 -/
import Derived.Test.YtkndfhaehnfnmaaGreatPart1
import Derived.Test.YtkndfhaehnfnmaaGreatEngC
import Derived.Test.YtkndfhaehnfnmaaGreatPart2
/-! the functions as the interpreter has them -/
namespace Go.Eng
open Go.Proofs Go.Proofs.Tryz
set_option maxRecDepth 100000
theorem sA (b:List D) (i:Int) (k:Bool) :V 141 [.op [.os (1,0) b,.int .i64 i,.bool k]] =
 ac V 71 [.op [.os (1,0) b,.int .i64 i,.bool k]] fun x0 l1=>
 asI .i64 x0 fun n2=>unc l1 fun x3 l4=>cr x3 fun l8 n11 b14=>(unn l4 (br (n2 == 2)
 (
 br (n2 == 2)
 (
 ac V 71 [.op [.os (1,0) l8,.int .i64 n11,.bool b14]] fun x15 l16=>
 asI .i64 x15 fun n17=>unc l16 fun x18 l19=>cr x18 fun l23 n26 b29=>(unn l19 (some ((.agg [.int .i64 n2,.int .i64 n17,.str ({ data:=#[] }),.int .i64 (0),.int .i64 (0)]),[.op [.os (1,0) l23,.int .i64 n26,.bool b29]]))))
 (
 br (n2 == 3)
 (
 ac V 71 [.op [.os (1,0) l8,.int .i64 n11,.bool b14]] fun x30 l31=>
 asI .i64 x30 fun n32=>unc l31 fun x33 l34=>cr x33 fun l38 n41 b44=>(unn l34 (some ((.agg [.int .i64 n2,(.int .i64 (IntKind.wrap IntKind.i64 (n32 - 1000000000))),.str ({ data:=#[] }),.int .i64 (0),.int .i64 (0)]),[.op [.os (1,0) l38,.int .i64 n41,.bool b44]]))))
 (
 br (n2 == 4)
 (
 ac V 190 [.op [.os (1,0) l8,.int .i64 n11,.bool b14]] fun x45 l46=>
 asS x45 fun s47=>unc l46 fun x48 l49=>cr x48 fun l53 n56 b59=>(unn l49 (some ((.agg [.int .i64 n2,.int .i64 (0),.str s47,.int .i64 (0),.int .i64 (0)]),[.op [.os (1,0) l53,.int .i64 n56,.bool b59]]))))
 (
 br (n2 == 5)
 (
 ac V 71 [.op [.os (1,0) l8,.int .i64 n11,.bool b14]] fun x60 l61=>
 asI .i64 x60 fun n62=>unc l61 fun x63 l64=>cr x63 fun l68 n71 b74=>(unn l64 (ac V 71 [.op [.os (1,0) l68,.int .i64 n71,.bool b74]] fun x75 l76=>
 asI .i64 x75 fun n77=>unc l76 fun x78 l79=>cr x78 fun l83 n86 b89=>(unn l79 (some ((.agg [.int .i64 n2,.int .i64 (0),.str ({ data:=#[] }),.int .i64 n62,.int .i64 n77]),[.op [.os (1,0) l83,.int .i64 n86,.bool b89]]))))))
 (
 br (n2 == 6)
 (
 ac V 71 [.op [.os (1,0) l8,.int .i64 n11,.bool b14]] fun x90 l91=>
 asI .i64 x90 fun n92=>unc l91 fun x93 l94=>cr x93 fun l98 n101 b104=>(unn l94 (ac V 71 [.op [.os (1,0) l98,.int .i64 n101,.bool b104]] fun x105 l106=>
 asI .i64 x105 fun n107=>unc l106 fun x108 l109=>cr x108 fun l113 n116 b119=>(unn l109 (some ((.agg [.int .i64 n2,.int .i64 n92,.str ({ data:=#[] }),.int .i64 n107,.int .i64 (0)]),[.op [.os (1,0) l113,.int .i64 n116,.bool b119]]))))))
 (
 br (n2 == 7)
 (
 ac V 71 [.op [.os (1,0) l8,.int .i64 n11,.bool b14]] fun x120 l121=>
 asI .i64 x120 fun n122=>unc l121 fun x123 l124=>cr x123 fun l128 n131 b134=>(unn l124 (some ((.agg [.int .i64 n2,.int .i64 (0),.str ({ data:=#[] }),.int .i64 n122,.int .i64 (0)]),[.op [.os (1,0) l128,.int .i64 n131,.bool b134]]))))
 (some ((.agg [.int .i64 n2,.int .i64 (0),.str ({ data:=#[] }),.int .i64 (0),.int .i64 (0)]),[.op [.os (1,0) l8,.int .i64 n11,.bool b14]]))))))))
 (
 br (n2 == 8)
 (
 br (n2 == 8)
 (
 ac V 71 [.op [.os (1,0) l8,.int .i64 n11,.bool b14]] fun x135 l136=>
 asI .i64 x135 fun n137=>unc l136 fun x138 l139=>cr x138 fun l143 n146 b149=>(unn l139 (some ((.agg [.int .i64 n2,.int .i64 n137,.str ({ data:=#[] }),.int .i64 (0),.int .i64 (0)]),[.op [.os (1,0) l143,.int .i64 n146,.bool b149]]))))
 (
 br (n2 == 3)
 (
 ac V 71 [.op [.os (1,0) l8,.int .i64 n11,.bool b14]] fun x150 l151=>
 asI .i64 x150 fun n152=>unc l151 fun x153 l154=>cr x153 fun l158 n161 b164=>(unn l154 (some ((.agg [.int .i64 n2,(.int .i64 (IntKind.wrap IntKind.i64 (n152 - 1000000000))),.str ({ data:=#[] }),.int .i64 (0),.int .i64 (0)]),[.op [.os (1,0) l158,.int .i64 n161,.bool b164]]))))
 (
 br (n2 == 4)
 (
 ac V 190 [.op [.os (1,0) l8,.int .i64 n11,.bool b14]] fun x165 l166=>
 asS x165 fun s167=>unc l166 fun x168 l169=>cr x168 fun l173 n176 b179=>(unn l169 (some ((.agg [.int .i64 n2,.int .i64 (0),.str s167,.int .i64 (0),.int .i64 (0)]),[.op [.os (1,0) l173,.int .i64 n176,.bool b179]]))))
 (
 br (n2 == 5)
 (
 ac V 71 [.op [.os (1,0) l8,.int .i64 n11,.bool b14]] fun x180 l181=>
 asI .i64 x180 fun n182=>unc l181 fun x183 l184=>cr x183 fun l188 n191 b194=>(unn l184 (ac V 71 [.op [.os (1,0) l188,.int .i64 n191,.bool b194]] fun x195 l196=>
 asI .i64 x195 fun n197=>unc l196 fun x198 l199=>cr x198 fun l203 n206 b209=>(unn l199 (some ((.agg [.int .i64 n2,.int .i64 (0),.str ({ data:=#[] }),.int .i64 n182,.int .i64 n197]),[.op [.os (1,0) l203,.int .i64 n206,.bool b209]]))))))
 (
 br (n2 == 6)
 (
 ac V 71 [.op [.os (1,0) l8,.int .i64 n11,.bool b14]] fun x210 l211=>
 asI .i64 x210 fun n212=>unc l211 fun x213 l214=>cr x213 fun l218 n221 b224=>(unn l214 (ac V 71 [.op [.os (1,0) l218,.int .i64 n221,.bool b224]] fun x225 l226=>
 asI .i64 x225 fun n227=>unc l226 fun x228 l229=>cr x228 fun l233 n236 b239=>(unn l229 (some ((.agg [.int .i64 n2,.int .i64 n212,.str ({ data:=#[] }),.int .i64 n227,.int .i64 (0)]),[.op [.os (1,0) l233,.int .i64 n236,.bool b239]]))))))
 (
 br (n2 == 7)
 (
 ac V 71 [.op [.os (1,0) l8,.int .i64 n11,.bool b14]] fun x240 l241=>
 asI .i64 x240 fun n242=>unc l241 fun x243 l244=>cr x243 fun l248 n251 b254=>(unn l244 (some ((.agg [.int .i64 n2,.int .i64 (0),.str ({ data:=#[] }),.int .i64 n242,.int .i64 (0)]),[.op [.os (1,0) l248,.int .i64 n251,.bool b254]]))))
 (some ((.agg [.int .i64 n2,.int .i64 (0),.str ({ data:=#[] }),.int .i64 (0),.int .i64 (0)]),[.op [.os (1,0) l8,.int .i64 n11,.bool b14]]))))))))
 (
 br (n2 == 9)
 (
 ac V 71 [.op [.os (1,0) l8,.int .i64 n11,.bool b14]] fun x255 l256=>
 asI .i64 x255 fun n257=>unc l256 fun x258 l259=>cr x258 fun l263 n266 b269=>(unn l259 (some ((.agg [.int .i64 n2,.int .i64 n257,.str ({ data:=#[] }),.int .i64 (0),.int .i64 (0)]),[.op [.os (1,0) l263,.int .i64 n266,.bool b269]]))))
 (
 br (n2 == 3)
 (
 ac V 71 [.op [.os (1,0) l8,.int .i64 n11,.bool b14]] fun x270 l271=>
 asI .i64 x270 fun n272=>unc l271 fun x273 l274=>cr x273 fun l278 n281 b284=>(unn l274 (some ((.agg [.int .i64 n2,(.int .i64 (IntKind.wrap IntKind.i64 (n272 - 1000000000))),.str ({ data:=#[] }),.int .i64 (0),.int .i64 (0)]),[.op [.os (1,0) l278,.int .i64 n281,.bool b284]]))))
 (
 br (n2 == 4)
 (
 ac V 190 [.op [.os (1,0) l8,.int .i64 n11,.bool b14]] fun x285 l286=>
 asS x285 fun s287=>unc l286 fun x288 l289=>cr x288 fun l293 n296 b299=>(unn l289 (some ((.agg [.int .i64 n2,.int .i64 (0),.str s287,.int .i64 (0),.int .i64 (0)]),[.op [.os (1,0) l293,.int .i64 n296,.bool b299]]))))
 (
 br (n2 == 5)
 (
 ac V 71 [.op [.os (1,0) l8,.int .i64 n11,.bool b14]] fun x300 l301=>
 asI .i64 x300 fun n302=>unc l301 fun x303 l304=>cr x303 fun l308 n311 b314=>(unn l304 (ac V 71 [.op [.os (1,0) l308,.int .i64 n311,.bool b314]] fun x315 l316=>
 asI .i64 x315 fun n317=>unc l316 fun x318 l319=>cr x318 fun l323 n326 b329=>(unn l319 (some ((.agg [.int .i64 n2,.int .i64 (0),.str ({ data:=#[] }),.int .i64 n302,.int .i64 n317]),[.op [.os (1,0) l323,.int .i64 n326,.bool b329]]))))))
 (
 br (n2 == 6)
 (
 ac V 71 [.op [.os (1,0) l8,.int .i64 n11,.bool b14]] fun x330 l331=>
 asI .i64 x330 fun n332=>unc l331 fun x333 l334=>cr x333 fun l338 n341 b344=>(unn l334 (ac V 71 [.op [.os (1,0) l338,.int .i64 n341,.bool b344]] fun x345 l346=>
 asI .i64 x345 fun n347=>unc l346 fun x348 l349=>cr x348 fun l353 n356 b359=>(unn l349 (some ((.agg [.int .i64 n2,.int .i64 n332,.str ({ data:=#[] }),.int .i64 n347,.int .i64 (0)]),[.op [.os (1,0) l353,.int .i64 n356,.bool b359]]))))))
 (
 br (n2 == 7)
 (
 ac V 71 [.op [.os (1,0) l8,.int .i64 n11,.bool b14]] fun x360 l361=>
 asI .i64 x360 fun n362=>unc l361 fun x363 l364=>cr x363 fun l368 n371 b374=>(unn l364 (some ((.agg [.int .i64 n2,.int .i64 (0),.str ({ data:=#[] }),.int .i64 n362,.int .i64 (0)]),[.op [.os (1,0) l368,.int .i64 n371,.bool b374]]))))
 (some ((.agg [.int .i64 n2,.int .i64 (0),.str ({ data:=#[] }),.int .i64 (0),.int .i64 (0)]),[.op [.os (1,0) l8,.int .i64 n11,.bool b14]]))))))))))):=by
 exact (aX Tryz.func141 rfl _).trans (by kernel_rfl)
theorem il (p0:List D) (p1 p2:Int) (p3 p4 p5:List D):ce p0 p1 p2 p3 p4 p5 =
 br (decide (p2 < p1))
 (
 grd (decide (0 <= p2) && decide (p2 < ni p0.length)) (az p0 p2.toNat fun x3=>
 tk1 x3 fun n7 n10 s13 n16 n19=>(grd (decide (0 <= p2) && decide (p2 < ni p3.length)) (az p3 p2.toNat fun _=>
 nam (List.set p3 p2.toNat (D.int IntKind.i64 (-1))) fun l21=>
 grd (decide (0 <= p2) && decide (p2 < ni p4.length)) (az p4 p2.toNat fun x22=>
 asB x22 fun b23=>br (!b23)
 (ce p0 p1 (IntKind.wrap IntKind.i64 (p2 + 1)) l21 p4 p5)
 (
 br (n7 == 5)
 (
 grd (decide (0 <= n16) && decide (n16 < ni l21.length)) (az l21 n16.toNat fun x24=>
 asI .i64 x24 fun n25=>grd (decide (0 <= n19) && decide (n19 < ni l21.length)) (az l21 n19.toNat fun x26=>
 asI .i64 x26 fun n27=>ac V 157 [.op [.os (5,0) p5],.agg [.int .i64 n7,.int .i64 n10,.str s13,.int .i64 n25,.int .i64 n27]] fun x28 l29=>
 asI .i64 x28 fun n30=>unc l29 fun x31 l32=>bH x31 fun l33=>unc l33 fun x34 l35=>aI (5,0) x34 fun l36=>unn l35 (unn l32 (grd (decide (0 <= p2) && decide (p2 < ni l21.length)) (az l21 p2.toNat fun _=>
 nam (List.set l21 p2.toNat (D.int IntKind.i64 n30)) fun l38=>
 ce p0 p1 (IntKind.wrap IntKind.i64 (p2 + 1)) l38 p4 l36))))))
 (
 br (n7 == 6)
 (
 br (n7 == 6)
 (
 grd (decide (0 <= n16) && decide (n16 < ni l21.length)) (az l21 n16.toNat fun x39=>
 asI .i64 x39 fun n40=>ac V 157 [.op [.os (5,0) p5],.agg [.int .i64 n7,.int .i64 n10,.str s13,.int .i64 n40,.int .i64 n19]] fun x41 l42=>
 asI .i64 x41 fun n43=>unc l42 fun x44 l45=>bH x44 fun l46=>unc l46 fun x47 l48=>aI (5,0) x47 fun l49=>unn l48 (unn l45 (grd (decide (0 <= p2) && decide (p2 < ni l21.length)) (az l21 p2.toNat fun _=>
 nam (List.set l21 p2.toNat (D.int IntKind.i64 n43)) fun l51=>
 ce p0 p1 (IntKind.wrap IntKind.i64 (p2 + 1)) l51 p4 l49)))))
 (
 ac V 157 [.op [.os (5,0) p5],.agg [.int .i64 n7,.int .i64 n10,.str s13,.int .i64 n16,.int .i64 n19]] fun x52 l53=>
 asI .i64 x52 fun n54=>unc l53 fun x55 l56=>bH x55 fun l57=>unc l57 fun x58 l59=>aI (5,0) x58 fun l60=>unn l59 (unn l56 (grd (decide (0 <= p2) && decide (p2 < ni l21.length)) (az l21 p2.toNat fun _=>
 nam (List.set l21 p2.toNat (D.int IntKind.i64 n54)) fun l62=>
 ce p0 p1 (IntKind.wrap IntKind.i64 (p2 + 1)) l62 p4 l60)))))
 (
 br (n7 == 7)
 (
 grd (decide (0 <= n16) && decide (n16 < ni l21.length)) (az l21 n16.toNat fun x63=>
 asI .i64 x63 fun n64=>ac V 157 [.op [.os (5,0) p5],.agg [.int .i64 n7,.int .i64 n10,.str s13,.int .i64 n64,.int .i64 n19]] fun x65 l66=>
 asI .i64 x65 fun n67=>unc l66 fun x68 l69=>bH x68 fun l70=>unc l70 fun x71 l72=>aI (5,0) x71 fun l73=>unn l72 (unn l69 (grd (decide (0 <= p2) && decide (p2 < ni l21.length)) (az l21 p2.toNat fun _=>
 nam (List.set l21 p2.toNat (D.int IntKind.i64 n67)) fun l75=>
 ce p0 p1 (IntKind.wrap IntKind.i64 (p2 + 1)) l75 p4 l73)))))
 (
 ac V 157 [.op [.os (5,0) p5],.agg [.int .i64 n7,.int .i64 n10,.str s13,.int .i64 n16,.int .i64 n19]] fun x76 l77=>
 asI .i64 x76 fun n78=>unc l77 fun x79 l80=>bH x79 fun l81=>unc l81 fun x82 l83=>aI (5,0) x82 fun l84=>unn l83 (unn l80 (grd (decide (0 <= p2) && decide (p2 < ni l21.length)) (az l21 p2.toNat fun _=>
 nam (List.set l21 p2.toNat (D.int IntKind.i64 n78)) fun l86=>
 ce p0 p1 (IntKind.wrap IntKind.i64 (p2 + 1)) l86 p4 l84))))))))))))
 (some ((.os (1,0) p3),[.op [.os (5,0) p5]])):=by
 exact (cd _ _ _).trans (by kernel_rfl)
theorem lJ (p0:List D) (p1:Int) (p2 p3 p4:List D):dg p0 p1 p2 p3 p4 =
 br (decide (p1 < ni p2.length))
 (
 grd (decide (0 <= p1) && decide (p1 < ni p0.length)) (az p0 p1.toNat fun x0=>
 asB x0 fun b1=>br (!b1)
 (dg p0 (IntKind.wrap IntKind.i64 (p1 + 1)) p2 p3 p4)
 (
 grd (decide (0 <= p1) && decide (p1 < ni p2.length)) (az p2 p1.toNat fun x2=>
 tk1 x2 fun n6 n9 s12 n15 n18=>(br (n6 == 5)
 (
 grd (decide (0 <= n15) && decide (n15 < ni p3.length)) (az p3 n15.toNat fun x19=>
 asI .i64 x19 fun n20=>grd (decide (0 <= n18) && decide (n18 < ni p3.length)) (az p3 n18.toNat fun x21=>
 asI .i64 x21 fun n22=>ac V 158 [.op [.os (5,0) p4],.agg [.int .i64 n6,.int .i64 n9,.str s12,.int .i64 n20,.int .i64 n22]] fun x23 l24=>
 asI .i64 x23 fun n25=>unc l24 fun x26 l27=>bH x26 fun l28=>unc l28 fun x29 l30=>aI (5,0) x29 fun l31=>unn l30 (unn l27 (grd (decide (0 <= p1) && decide (p1 < ni p3.length)) (az p3 p1.toNat fun _=>
 nam (List.set p3 p1.toNat (D.int IntKind.i64 n25)) fun l33=>
 dg p0 (IntKind.wrap IntKind.i64 (p1 + 1)) p2 l33 l31))))))
 (
 br (n6 == 6)
 (
 br (n6 == 6)
 (
 grd (decide (0 <= n15) && decide (n15 < ni p3.length)) (az p3 n15.toNat fun x34=>
 asI .i64 x34 fun n35=>ac V 158 [.op [.os (5,0) p4],.agg [.int .i64 n6,.int .i64 n9,.str s12,.int .i64 n35,.int .i64 n18]] fun x36 l37=>
 asI .i64 x36 fun n38=>unc l37 fun x39 l40=>bH x39 fun l41=>unc l41 fun x42 l43=>aI (5,0) x42 fun l44=>unn l43 (unn l40 (grd (decide (0 <= p1) && decide (p1 < ni p3.length)) (az p3 p1.toNat fun _=>
 nam (List.set p3 p1.toNat (D.int IntKind.i64 n38)) fun l46=>
 dg p0 (IntKind.wrap IntKind.i64 (p1 + 1)) p2 l46 l44)))))
 (
 ac V 158 [.op [.os (5,0) p4],.agg [.int .i64 n6,.int .i64 n9,.str s12,.int .i64 n15,.int .i64 n18]] fun x47 l48=>
 asI .i64 x47 fun n49=>unc l48 fun x50 l51=>bH x50 fun l52=>unc l52 fun x53 l54=>aI (5,0) x53 fun l55=>unn l54 (unn l51 (grd (decide (0 <= p1) && decide (p1 < ni p3.length)) (az p3 p1.toNat fun _=>
 nam (List.set p3 p1.toNat (D.int IntKind.i64 n49)) fun l57=>
 dg p0 (IntKind.wrap IntKind.i64 (p1 + 1)) p2 l57 l55)))))
 (
 br (n6 == 7)
 (
 grd (decide (0 <= n15) && decide (n15 < ni p3.length)) (az p3 n15.toNat fun x58=>
 asI .i64 x58 fun n59=>ac V 158 [.op [.os (5,0) p4],.agg [.int .i64 n6,.int .i64 n9,.str s12,.int .i64 n59,.int .i64 n18]] fun x60 l61=>
 asI .i64 x60 fun n62=>unc l61 fun x63 l64=>bH x63 fun l65=>unc l65 fun x66 l67=>aI (5,0) x66 fun l68=>unn l67 (unn l64 (grd (decide (0 <= p1) && decide (p1 < ni p3.length)) (az p3 p1.toNat fun _=>
 nam (List.set p3 p1.toNat (D.int IntKind.i64 n62)) fun l70=>
 dg p0 (IntKind.wrap IntKind.i64 (p1 + 1)) p2 l70 l68)))))
 (
 ac V 158 [.op [.os (5,0) p4],.agg [.int .i64 n6,.int .i64 n9,.str s12,.int .i64 n15,.int .i64 n18]] fun x71 l72=>
 asI .i64 x71 fun n73=>unc l72 fun x74 l75=>bH x74 fun l76=>unc l76 fun x77 l78=>aI (5,0) x77 fun l79=>unn l78 (unn l75 (grd (decide (0 <= p1) && decide (p1 < ni p3.length)) (az p3 p1.toNat fun _=>
 nam (List.set p3 p1.toNat (D.int IntKind.i64 n73)) fun l81=>
 dg p0 (IntKind.wrap IntKind.i64 (p1 + 1)) p2 l81 l79)))))))))))
 (some ((.os (1,0) p3),[.op [.os (5,0) p4]])):=by
 exact (cd _ _ _).trans (by kernel_rfl)
theorem kO (p0:Int) (p1 p2:List D):c8 p0 p1 p2 =
 br (decide (p0 >= 0))
 (
 grd (decide (0 <= p0) && decide (p0 < ni p1.length)) (az p1 p0.toNat fun x4=>
 tk1 x4 fun n8 _ _ n17 n20=>(grd (decide (0 <= p0) && decide (p0 < ni p2.length)) (az p2 p0.toNat fun x21=>
 asB x21 fun b22=>br (!b22)
 (c8 (IntKind.wrap IntKind.i64 (p0 - 1)) p1 p2)
 (
 br (n8 == 5)
 (
 grd (decide (0 <= n17) && decide (n17 < ni p2.length)) (az p2 n17.toNat fun _=>
 nam (List.set p2 n17.toNat (D.bool true)) fun l24=>
 grd (decide (0 <= n20) && decide (n20 < ni l24.length)) (az l24 n20.toNat fun _=>
 nam (List.set l24 n20.toNat (D.bool true)) fun l26=>
 c8 (IntKind.wrap IntKind.i64 (p0 - 1)) p1 l26)))
 (
 br (n8 == 6)
 (
 br (n8 == 6)
 (
 grd (decide (0 <= n17) && decide (n17 < ni p2.length)) (az p2 n17.toNat fun _=>
 nam (List.set p2 n17.toNat (D.bool true)) fun l28=>
 c8 (IntKind.wrap IntKind.i64 (p0 - 1)) p1 l28))
 (c8 (IntKind.wrap IntKind.i64 (p0 - 1)) p1 p2))
 (
 br (n8 == 7)
 (
 grd (decide (0 <= n17) && decide (n17 < ni p2.length)) (az p2 n17.toNat fun _=>
 nam (List.set p2 n17.toNat (D.bool true)) fun l30=>
 c8 (IntKind.wrap IntKind.i64 (p0 - 1)) p1 l30))
 (c8 (IntKind.wrap IntKind.i64 (p0 - 1)) p1 p2))))))))
 (some ((.os (1,0) p2),[])):=by
 exact (cd _ _ _).trans (by kernel_rfl)
theorem ku (p0:List D) (p1 p2:Int) (p3 p4 p5 p6:List D):cN p0 p1 p2 p3 p4 p5 p6 =
 br (decide (p1 < ni p3.length))
 (
 grd (decide (0 <= p1) && decide (p1 < ni p3.length)) (az p3 p1.toNat fun x362=>
 asI .i64 x362 fun n363=>ac V 244 [.op [.os (5,0) p4,.os (4,0) p5,.os (3,0) p6,.int .i64 p2],.int .i64 n363,.rs (1,1) p0] fun x364 l365=>
 aP x364 fun l366=>unn l366 (unc l365 fun x367 l368=>tk2 x367 fun l372 l375 l378 n381=>(unn l368 (cN p0 (IntKind.wrap IntKind.i64 (p1 + 1)) n381 p3 l372 l375 l378)))))
 (
 ac V 237 [.op [.os (5,0) p4,.os (4,0) p5,.os (3,0) p6,.int .i64 p2],(.agg [.int .i64 (7),.int .i64 (0),(.int .i64 (IntKind.wrap IntKind.i64 (ni p3.length - 1))),.str ({ data:=#[] })])] fun x382 l383=>
 asI .i64 x382 fun _=>unc l383 fun x385 l386=>tk2 x385 fun l390 l393 l396 n399=>(unn l386 (some ((.tup []),[.op [.os (5,0) l390,.os (4,0) l393,.os (3,0) l396,.int .i64 n399]])))):=by
 exact (cd _ _ _).trans (by kernel_rfl)
theorem BW (a0_0 a0_1 a0_2:List D) (a1_0:Int) (a1_1:List D) (a1_2 a1_3 a1_4 a1_5 a1_6 a1_7 a1_8:Int) (a1_9 a1_10:List D):V 26 [.agg [.rs (5,0) a0_0,.rs (4,0) a0_1,.rs (3,0) a0_2],.agg [.int .i64 a1_0,.rs (5,0) a1_1,.int .i64 a1_2,.int .i64 a1_3,.int .i64 a1_4,.int .i64 a1_5,.int .i64 a1_6,.int .i64 a1_7,.int .i64 a1_8,.rs (1,0) a1_9,.rs (1,0) a1_10]] =
 ac V 58 [.int .i64 a1_0,.int .i64 (1),.int .i64 (1000000000)] fun x0 l1=>
 asB x0 fun b2=>unn l1 (br (!b2)
 (some ((.bool false),[]))
 (
 ac V 14 [.agg [.rs (5,0) a0_0,.rs (4,0) a0_1,.rs (3,0) a0_2],(.agg [.rs (5,0) a1_1,.int .i64 a1_2,.int .i64 a1_3,.int .i64 a1_4,.int .i64 a1_5,.int .i64 a1_6,.int .i64 a1_7,.int .i64 a1_8])] fun x3 l4=>
 asB x3 fun b5=>unn l4 (br (!b5)
 (some ((.bool false),[]))
 (
 br (decide (ni a1_9.length > 20))
 (some ((.bool false),[]))
 (
 br (decide (ni a1_10.length > 40))
 (some ((.bool false),[]))
 (
 ac V 80 [.rs (1,0) a1_9,(.fn 81 [])] fun x6 l7=>
 asB x6 fun b8=>unn l7 (br (!b8)
 (
 ac V 80 [.rs (1,0) a1_10,(.fn 83 [])] fun x9 l10=>
 asB x9 fun b11=>unn l10 (some ((.bool (!b11)),[])))
 (some ((.bool false),[]))))))))):=by
 exact (aX Tryz.func26 rfl _).trans (by kernel_rfl)
theorem kr (p0:List D) (p1 p2:Int) (p3 p4 p5:List D):gL p0 p1 p2 p3 p4 p5 =
 br (decide (p2 < p1))
 (
 grd (decide (0 <= p2) && decide (p2 < ni p0.length)) (az p0 p2.toNat fun x6=>
 Pf x6 fun s10 n13 n16=>(ac V 124 [.str s10] fun x17 l18=>
 asB x17 fun b19=>unn l18 (br (!b19)
 (some ((.bool false),[]))
 (
 ac V 125 [.agg [.rs (5,0) p3,.rs (4,0) p4,.rs (3,0) p5],.str s10] fun x20 l21=>
 asI .i64 x20 fun n22=>unn l21 (br (n22 != p2)
 (some ((.bool false),[]))
 (
 ac V 58 [.int .i64 n13,.int .i64 (0),(.int .i64 (IntKind.wrap IntKind.i64 (ni p4.length - 1)))] fun x23 l24=>
 asB x23 fun b25=>unn l24 (br (!b25)
 (some ((.bool false),[]))
 (
 ac V 58 [.int .i64 n16,.int .i64 (0),.int .i64 (4)] fun x26 l27=>
 asB x26 fun b28=>unn l27 (br (!b28)
 (some ((.bool false),[]))
 (gL p0 p1 (IntKind.wrap IntKind.i64 (p2 + 1)) p3 p4 p5)))))))))))
 (some ((.bool true),[])):=by
 exact (cd _ _ _).trans (by kernel_rfl)
theorem nU (p0 p1:Int) (p2:List D) (p3 p4:Int):j0 p0 p1 p2 p3 p4 =
 br (decide (p1 < p0))
 (
 ac V 197 [.op [.rs (1,0) p2,.int .i64 p3,.int .i64 p4],.int .i64 p1] fun x15 l16=>
 asAgg x15 fun l17=>unc l17 fun x18 l19=>asI .i64 x18 fun n20=>unc l19 fun x21 l22=>asI .i64 x21 fun n23=>unc l22 fun x24 l25=>asS x24 fun s26=>unc l25 fun x27 l28=>asI .i64 x27 fun n29=>unc l28 fun x30 l31=>asI .i64 x30 fun n32=>unn l31 (unc l16 fun x33 l34=>bH x33 fun l35=>unc l35 fun x36 l37=>cu (1,0) x36 fun l38=>unc l37 fun x39 l40=>asI .i64 x39 fun n41=>unc l40 fun x42 l43=>asI .i64 x42 fun n44=>unn l43 (unn l34 (ac V 158 [.op [.os (5,0) []],.agg [.int .i64 n20,.int .i64 n23,.str s26,.int .i64 n29,.int .i64 n32]] fun x45 l46=>
 asI .i64 x45 fun _=>unc l46 fun x48 l49=>bH x48 fun l50=>unc l50 fun x51 l52=>aI (5,0) x51 fun l53=>unn l52 (unn l49 (ej p0 (IntKind.wrap IntKind.i64 (p1 + 1)) l38 n41 n44 l53))))))
 (some ((.agg [.os (5,0) []]),[.op [.rs (1,0) p2,.int .i64 p3,.int .i64 p4]])):=by
 exact (cd _ _ _).trans (by kernel_rfl)
theorem uL (a0_:Int):V 180 [.int .u8 a0_] =
 br (decide (a0_ >= 97))
 (
 br (decide (a0_ <= 122))
 (some ((.bool true),[]))
 (
 br (a0_ == 43)
 (some ((.bool true),[]))
 (
 br (a0_ == 45)
 (some ((.bool true),[]))
 (
 br (a0_ == 42)
 (some ((.bool true),[]))
 (
 br (a0_ == 60)
 (some ((.bool true),[]))
 (
 br (a0_ == 61)
 (some ((.bool true),[]))
 (
 br (a0_ == 63)
 (some ((.bool true),[]))
 (
 br (a0_ == 33)
 (some ((.bool true),[]))
 (some ((.bool (a0_ == 47)),[]))))))))))
 (
 br (a0_ == 43)
 (some ((.bool true),[]))
 (
 br (a0_ == 45)
 (some ((.bool true),[]))
 (
 br (a0_ == 42)
 (some ((.bool true),[]))
 (
 br (a0_ == 60)
 (some ((.bool true),[]))
 (
 br (a0_ == 61)
 (some ((.bool true),[]))
 (
 br (a0_ == 63)
 (some ((.bool true),[]))
 (
 br (a0_ == 33)
 (some ((.bool true),[]))
 (some ((.bool (a0_ == 47)),[]))))))))):=by
 exact (aX Tryz.func180 rfl _).trans (by kernel_rfl)
theorem lM (p0:Int) (p1:List D):iq p0 p1 =
 br (decide (p0 < ni p1.length))
 (
 grd (decide (0 <= p0) && decide (p0 < ni p1.length)) (az p1 p0.toNat fun x0=>
 tk1 x0 fun n4 n7 s10 n13 n16=>(ac V 130 [.agg [.int .i64 n4,.int .i64 n7,.str s10,.int .i64 n13,.int .i64 n16],.int .i64 p0] fun x17 l18=>
 asB x17 fun b19=>unn l18 (br (!b19)
 (some ((.bool false),[]))
 (iq (IntKind.wrap IntKind.i64 (p0 + 1)) p1)))))
 (some ((.bool (decide (ni p1.length <= 3000))),[])):=by
 exact (cd _ _ _).trans (by kernel_rfl)
theorem mZ (p0:List D) (p1 p2:Int):ju p0 p1 p2 =
 br (decide (p2 < ni p0.length))
 (
 br (decide (p2 < 4000))
 (
 grd (decide (0 <= p2) && decide (p2 < ni p0.length)) (az p0 p2.toNat fun x0=>
 asI .u8 x0 fun n1=>ju p0 (IntKind.wrap IntKind.i64 (ni (BitVec.toNat (BitVec.ofInt (IntKind.bits IntKind.i64) (IntKind.wrap IntKind.i64 (IntKind.wrap IntKind.i64 (IntKind.wrap IntKind.i64 (p1 * 131) + IntKind.wrap IntKind.i64 n1) + 7)) &&& BitVec.ofInt (IntKind.bits IntKind.i64) (1073741823))))) (IntKind.wrap IntKind.i64 (p2 + 1))))
 (some ((.op [.rs (1,0) p0,.int .i64 (0),.int .i64 p1]),[])))
 (some ((.op [.rs (1,0) p0,.int .i64 (0),.int .i64 p1]),[])):=by
 exact (cd _ _ _).trans (by kernel_rfl)
theorem pb (p0:List D) (p1 p2:Int) (p3 p4 p5:List D):j9 p0 p1 p2 p3 p4 p5 =
 br (decide (p2 < p1))
 (
 grd (decide (0 <= p2) && decide (p2 < ni p0.length)) (az p0 p2.toNat fun x9=>
 asI .i64 x9 fun n10=>grd (decide (0 <= n10) && decide (n10 < ni p3.length)) (az p3 n10.toNat fun x11=>
 asI .i64 x11 fun n12=>grd (decide (ni (List.length (p4++[D.int IntKind.i64 n12])) <= LIM)) (nam (p4++[D.int IntKind.i64 n12]) fun l13=>
 j9 p0 p1 (IntKind.wrap IntKind.i64 (p2 + 1)) p3 l13 p5))))
 (some ((.tup [.agg [.os (5,0) p5],.os (1,0) p4]),[])):=by
 exact (cd _ _ _).trans (by kernel_rfl)
theorem mq (p0:Int) (p1:List D) (p2 p3:Int) (p4:List D):ef p0 p1 p2 p3 p4 =
 br (decide (p0 < ni p4.length))
 (
 grd (decide (0 <= p0) && decide (p0 < ni p4.length)) (az p4 p0.toNat fun x187=>
 asAgg x187 fun l188=>nam (List.set p4 p0.toNat (D.agg (List.take 0 l188++[D.int IntKind.i64 (1)]++List.drop 1 l188))) fun l189=>
 ef (IntKind.wrap IntKind.i64 (p0 + 1)) p1 p2 p3 l189))
 (some ((.agg [.os (5,0) p4]),[.op [.rs (1,0) p1,.int .i64 p2,.int .i64 p3]])):=by
 exact (cd _ _ _).trans (by kernel_rfl)
theorem j3 (p0:Int) (p1:ByteArray):gq p0 p1 =
 br (decide (p0 > 0))
 (grd (!decide (10 = 0)) (f9 ([D.int IntKind.u8 (IntKind.wrap IntKind.u8 (IntKind.wrap IntKind.i64 (48 + Int.tmod p0 (10))))]) fun s3=>grd (decide (ni (ByteArray.size s3 + ByteArray.size p1) <= LIM)) (grd (!decide (10 = 0)) (gq (IntKind.wrap IntKind.i64 (Int.tdiv p0 (10))) (s3++p1)))))
 (some ((.str p1),[])):=by
 exact (cd _ _ _).trans (by kernel_rfl)
theorem lz (p0:ByteArray) (p1 p2:Int):gc p0 p1 p2 =
 br (decide (p2 < p1))
 (
 grd (decide (0 <= p2) && decide (p2 < ni (ByteArray.size p0))) (ac V 177 [.int .u8 (bt p0 p2)] fun x3 l4=>
 asB x3 fun b5=>unn l4 (br (!b5)
 (some ((.bool false),[]))
 (gc p0 p1 (IntKind.wrap IntKind.i64 (p2 + 1))))))
 (some ((.bool true),[])):=by
 exact (cd _ _ _).trans (by kernel_rfl)
theorem FA (a0_ a1_:Int):V 116 [.int .i64 a0_,.int .i64 a1_] =
 br (decide (a0_ < a1_))
 (some ((.int .i64 a0_),[]))
 (some ((.int .i64 a1_),[])):=by
 exact (aX Tryz.func116 rfl _).trans (by kernel_rfl)
theorem sj (l:List D):V 145 [.rs (1,0) l,.fn 81 []] =
 ez l (ni l.length) (0):=by
 exact (aX Tryz.func145 rfl _).trans (by kernel_rfl)
theorem yK (a0_:ByteArray):V 83 [.str a0_] =
 some ((.bool (decide (ni (ByteArray.size a0_) > 400))),[]):=by
 exact (aX Tryz.func83 rfl _).trans (by kernel_rfl)

end Go.Eng
/-! a call and its results,taken in one step -/
namespace Go.Eng
open Go.Proofs
theorem cw {ds:List D} {v2:Int} {v8 v11 v14:List D} {v17:Int} (h:V 237 ds = some (.int .i64 v2,[.op [.os (5,0) v8,.os (4,0) v11,.os (3,0) v14,.int .i64 v17]])) (K:Int->List D->List D->List D->Int->Option Ret):ac V 237 ds (fun v0 v1=>asI .i64 v0 fun v2=>unc v1 fun v3 v4=>tk2 v3 fun v8 v11 v14 v17=>(unn v4 ((K v2 v8 v11 v14 v17)))) = K v2 v8 v11 v14 v17:=(aH h _).trans rfl
theorem gi {ds v8 v11 v14:List D} {v17:Int} (h:V 244 ds = some (.tup [],[.op [.os (5,0) v8,.os (4,0) v11,.os (3,0) v14,.int .i64 v17]])) (K:List D->List D->List D->Int->Option Ret):ac V 244 ds (fun v0 v1=>aP v0 fun v2=>unn v2 (unc v1 fun v3 v4=>tk2 v3 fun v8 v11 v14 v17=>(unn v4 ((K v8 v11 v14 v17))))) = K v8 v11 v14 v17:=(aH h _).trans rfl
theorem qA {ds v8 v11 v14:List D} {v17:Int} (h:V 253 ds = some (.tup [],[.op [.os (5,0) v8,.os (4,0) v11,.os (3,0) v14,.int .i64 v17]])) (K:List D->List D->List D->Int->Option Ret):ac V 253 ds (fun v0 v1=>aP v0 fun v2=>unn v2 (unc v1 fun v3 v4=>tk2 v3 fun v8 v11 v14 v17=>(unn v4 ((K v8 v11 v14 v17))))) = K v8 v11 v14 v17:=(aH h _).trans rfl
theorem lP {ds v8 v11 v14:List D} {v17:Int} (h:V 236 ds = some (.tup [],[.op [.os (5,0) v8,.os (4,0) v11,.os (3,0) v14,.int .i64 v17]])) (K:List D->List D->List D->Int->Option Ret):ac V 236 ds (fun v0 v1=>aP v0 fun v2=>unn v2 (unc v1 fun v3 v4=>tk2 v3 fun v8 v11 v14 v17=>(unn v4 ((K v8 v11 v14 v17))))) = K v8 v11 v14 v17:=(aH h _).trans rfl
theorem jm {ds v5:List D} {v8:Bool} (h:V 228 ds = some (.tup [.os (1,0) v5,.bool v8],[])) (K:List D->Bool->Option Ret):ac V 228 ds (fun v0 v1=>tk3 v0 fun v5 v8=>(unn v1 ((K v5 v8)))) = K v5 v8:=(aH h _).trans rfl
theorem oG {ds v2 v8 v11 v14:List D} {v17:Int} (h:V 231 ds = some (.os (1,0) v2,[.op [.os (5,0) v8,.os (4,0) v11,.os (3,0) v14,.int .i64 v17]])) (K:List D->List D->List D->List D->Int->Option Ret):ac V 231 ds (fun v0 v1=>aI (1,0) v0 fun v2=>unc v1 fun v3 v4=>tk2 v3 fun v8 v11 v14 v17=>(unn v4 ((K v2 v8 v11 v14 v17)))) = K v2 v8 v11 v14 v17:=(aH h _).trans rfl
theorem yw {ds v8 v11 v14:List D} {v17:Int} (h:V 254 ds = some (.tup [],[.op [.os (5,0) v8,.os (4,0) v11,.os (3,0) v14,.int .i64 v17]])) (K:List D->List D->List D->Int->Option Ret):ac V 254 ds (fun v0 v1=>aP v0 fun v2=>unn v2 (unc v1 fun v3 v4=>tk2 v3 fun v8 v11 v14 v17=>(unn v4 ((K v8 v11 v14 v17))))) = K v8 v11 v14 v17:=(aH h _).trans rfl
theorem lD {ds:List D} {v2:Bool} (h:V 60 ds = some (.bool v2,[])) (K:Bool->Option Ret):ac V 60 ds (fun v0 v1=>asB v0 fun v2=>unn v1 ((K v2))) = K v2:=(aH h _).trans rfl
theorem Jo {ds:List D} {v2:Bool} (h:V 61 ds = some (.bool v2,[])) (K:Bool->Option Ret):ac V 61 ds (fun v0 v1=>asB v0 fun v2=>unn v1 ((K v2))) = K v2:=(aH h _).trans rfl
theorem o5 {ds:List D} {v2:Bool} (h:V 180 ds = some (.bool v2,[])) (K:Bool->Option Ret):ac V 180 ds (fun v0 v1=>asB v0 fun v2=>unn v1 ((K v2))) = K v2:=(aH h _).trans rfl
theorem fg {ds:List D} {v2:Bool} (h:V 62 ds = some (.bool v2,[])) (K:Bool->Option Ret):ac V 62 ds (fun v0 v1=>asB v0 fun v2=>unn v1 ((K v2))) = K v2:=(aH h _).trans rfl
theorem cH {ds v5:List D} (h:V 147 ds = some (.agg [.os (5,0) v5],[])) (K:List D->Option Ret):ac V 147 ds (fun v0 v1=>asAgg v0 fun v2=>unc v2 fun v3 v4=>aI (5,0) v3 fun v5=>unn v4 (unn v1 ((K v5)))) = K v5:=(aH h _).trans rfl
theorem vj {ds:List D} {v2:Int} {v8:List D} (h:V 210 ds = some (.int .i64 v2,[.op [.os (5,0) v8]])) (K:Int->List D->Option Ret):ac V 210 ds (fun v0 v1=>asI .i64 v0 fun v2=>unc v1 fun v3 v4=>bH v3 fun v5=>unc v5 fun v6 v7=>aI (5,0) v6 fun v8=>unn v7 (unn v4 ((K v2 v8)))) = K v2 v8:=(aH h _).trans rfl
theorem el {ds:List D} {v2:Bool} (h:V 211 ds = some (.bool v2,[])) (K:Bool->Option Ret):ac V 211 ds (fun v0 v1=>asB v0 fun v2=>unn v1 ((K v2))) = K v2:=(aH h _).trans rfl
theorem ck {ds:List D} {v2:Bool} (h:V 58 ds = some (.bool v2,[])) (K:Bool->Option Ret):ac V 58 ds (fun v0 v1=>asB v0 fun v2=>unn v1 ((K v2))) = K v2:=(aH h _).trans rfl
theorem Fp {ds:List D} {v2:Bool} (h:V 124 ds = some (.bool v2,[])) (K:Bool->Option Ret):ac V 124 ds (fun v0 v1=>asB v0 fun v2=>unn v1 ((K v2))) = K v2:=(aH h _).trans rfl
theorem vu {ds:List D} {v2:Bool} (h:V 128 ds = some (.bool v2,[])) (K:Bool->Option Ret):ac V 128 ds (fun v0 v1=>asB v0 fun v2=>unn v1 ((K v2))) = K v2:=(aH h _).trans rfl
theorem o6 {ds v8:List D} {v11 v14 v17 v20 v23 v26 v29:Int} {v32:Bool} (h:V 77 ds = some (.tup [.agg [.os (5,0) v8,.int .i64 v11,.int .i64 v14,.int .i64 v17,.int .i64 v20,.int .i64 v23,.int .i64 v26,.int .i64 v29],.bool v32],[])) (K:List D->Int->Int->Int->Int->Int->Int->Int->Bool->Option Ret):ac V 77 ds (fun v0 v1=>aP v0 fun v2=>unc v2 fun v3 v4=>tk4 v3 fun v8 v11 v14 v17 v20 v23 v26 v29=>(unc v4 fun v30 v31=>asB v30 fun v32=>unn v31 (unn v1 ((K v8 v11 v14 v17 v20 v23 v26 v29 v32))))) = K v8 v11 v14 v17 v20 v23 v26 v29 v32:=(aH h _).trans rfl
theorem vJ {ds:List D} {v2:Bool} (h:V 26 ds = some (.bool v2,[])) (K:Bool->Option Ret):ac V 26 ds (fun v0 v1=>asB v0 fun v2=>unn v1 ((K v2))) = K v2:=(aH h _).trans rfl
theorem eZ {ds:List D} {v2:Int} {v8:List D} (h:V 158 ds = some (.int .i64 v2,[.op [.os (5,0) v8]])) (K:Int->List D->Option Ret):ac V 158 ds (fun v0 v1=>asI .i64 v0 fun v2=>unc v1 fun v3 v4=>bH v3 fun v5=>unc v5 fun v6 v7=>aI (5,0) v6 fun v8=>unn v7 (unn v4 ((K v2 v8)))) = K v2 v8:=(aH h _).trans rfl
theorem lQ {ds:List D} {v2:Int} {v8:List D} (h:V 157 ds = some (.int .i64 v2,[.op [.os (5,0) v8]])) (K:Int->List D->Option Ret):ac V 157 ds (fun v0 v1=>asI .i64 v0 fun v2=>unc v1 fun v3 v4=>bH v3 fun v5=>unc v5 fun v6 v7=>aI (5,0) v6 fun v8=>unn v7 (unn v4 ((K v2 v8)))) = K v2 v8:=(aH h _).trans rfl
theorem Cr {ds v2:List D} (h:V 149 ds = some (.os (1,0) v2,[])) (K:List D->Option Ret):ac V 149 ds (fun v0 v1=>aI (1,0) v0 fun v2=>unn v1 ((K v2))) = K v2:=(aH h _).trans rfl
theorem FQ {ds v2 v8:List D} (h:V 148 ds = some (.os (1,0) v2,[.op [.os (5,0) v8]])) (K:List D->List D->Option Ret):ac V 148 ds (fun v0 v1=>aI (1,0) v0 fun v2=>unc v1 fun v3 v4=>bH v3 fun v5=>unc v5 fun v6 v7=>aI (5,0) v6 fun v8=>unn v7 (unn v4 ((K v2 v8)))) = K v2 v8:=(aH h _).trans rfl
theorem tg {ds:List D} {v2:Bool} (h:V 226 ds = some (.bool v2,[])) (K:Bool->Option Ret):ac V 226 ds (fun v0 v1=>asB v0 fun v2=>unn v1 ((K v2))) = K v2:=(aH h _).trans rfl
theorem lv {ds:List D} {v2:Int} (h:V 221 ds = some (.int .i64 v2,[])) (K:Int->Option Ret):ac V 221 ds (fun v0 v1=>asI .i64 v0 fun v2=>unn v1 ((K v2))) = K v2:=(aH h _).trans rfl
theorem o9 {ds v8:List D} {v11 v14 v17 v20 v23 v26 v29:Int} {v32:Bool} (h:V 78 ds = some (.tup [.agg [.os (5,0) v8,.int .i64 v11,.int .i64 v14,.int .i64 v17,.int .i64 v20,.int .i64 v23,.int .i64 v26,.int .i64 v29],.bool v32],[])) (K:List D->Int->Int->Int->Int->Int->Int->Int->Bool->Option Ret):ac V 78 ds (fun v0 v1=>aP v0 fun v2=>unc v2 fun v3 v4=>tk4 v3 fun v8 v11 v14 v17 v20 v23 v26 v29=>(unc v4 fun v30 v31=>asB v30 fun v32=>unn v31 (unn v1 ((K v8 v11 v14 v17 v20 v23 v26 v29 v32))))) = K v8 v11 v14 v17 v20 v23 v26 v29 v32:=(aH h _).trans rfl
theorem mj {ds:List D} {v8 v11:Int} {v14:ByteArray} {v17 v20:Int} {v23:Bool} (h:V 212 ds = some (.tup [.agg [.int .i64 v8,.int .i64 v11,.str v14,.int .i64 v17,.int .i64 v20],.bool v23],[])) (K:Int->Int->ByteArray->Int->Int->Bool->Option Ret):ac V 212 ds (fun v0 v1=>aP v0 fun v2=>unc v2 fun v3 v4=>tk1 v3 fun v8 v11 v14 v17 v20=>(unc v4 fun v21 v22=>asB v21 fun v23=>unn v22 (unn v1 ((K v8 v11 v14 v17 v20 v23))))) = K v8 v11 v14 v17 v20 v23:=(aH h _).trans rfl
theorem mC {ds:List D} {v2:ByteArray} (h:V 202 ds = some (.str v2,[])) (K:ByteArray->Option Ret):ac V 202 ds (fun v0 v1=>asS v0 fun v2=>unn v1 ((K v2))) = K v2:=(aH h _).trans rfl
theorem gD {ds v8 v11 v14:List D} {v17:Int} (h:V 229 ds = some (.tup [],[.op [.os (5,0) v8,.os (4,0) v11,.os (3,0) v14,.int .i64 v17]])) (K:List D->List D->List D->Int->Option Ret):ac V 229 ds (fun v0 v1=>aP v0 fun v2=>unn v2 (unc v1 fun v3 v4=>tk2 v3 fun v8 v11 v14 v17=>(unn v4 ((K v8 v11 v14 v17))))) = K v8 v11 v14 v17:=(aH h _).trans rfl
theorem wq {ds:List D} {v5:ByteArray} {v8:Bool} {v14 v17 v20:List D} {v23:Int} (h:V 230 ds = some (.tup [.str v5,.bool v8],[.op [.os (5,0) v14,.os (4,0) v17,.os (3,0) v20,.int .i64 v23]])) (K:ByteArray->Bool->List D->List D->List D->Int->Option Ret):ac V 230 ds (fun v0 v1=>tk5 v0 fun v5 v8=>(unc v1 fun v9 v10=>tk2 v9 fun v14 v17 v20 v23=>(unn v10 ((K v5 v8 v14 v17 v20 v23))))) = K v5 v8 v14 v17 v20 v23:=(aH h _).trans rfl
theorem Qa {ds:List D} {v2:Bool} (h:V 12 ds = some (.bool v2,[])) (K:Bool->Option Ret):ac V 12 ds (fun v0 v1=>asB v0 fun v2=>unn v1 ((K v2))) = K v2:=(aH h _).trans rfl
theorem mJ {ds v8 v11 v14:List D} {v17:ByteArray} {v20:Int} (h:V 23 ds = some (.tup [.agg [.os (5,0) v8,.os (4,0) v11,.os (3,0) v14],.str v17,.int .i64 v20],[])) (K:List D->List D->List D->ByteArray->Int->Option Ret):ac V 23 ds (fun v0 v1=>aP v0 fun v2=>unc v2 fun v3 v4=>tk6 v3 fun v8 v11 v14=>(unc v4 fun v15 v16=>asS v15 fun v17=>unc v16 fun v18 v19=>asI .i64 v18 fun v20=>unn v19 (unn v1 ((K v8 v11 v14 v17 v20))))) = K v8 v11 v14 v17 v20:=(aH h _).trans rfl
theorem sq {ds:List D} {v8:Int} {v11:List D} {v14 v17 v20 v23 v26 v29 v32:Int} {v35 v38:List D} {v41:Bool} (h:V 24 ds = some (.tup [.agg [.int .i64 v8,.os (5,0) v11,.int .i64 v14,.int .i64 v17,.int .i64 v20,.int .i64 v23,.int .i64 v26,.int .i64 v29,.int .i64 v32,.os (1,0) v35,.os (1,0) v38],.bool v41],[])) (K:Int->List D->Int->Int->Int->Int->Int->Int->Int->List D->List D->Bool->Option Ret):ac V 24 ds (fun v0 v1=>aP v0 fun v2=>unc v2 fun v3 v4=>tk7 v3 fun v8 v11 v14 v17 v20 v23 v26 v29 v32 v35 v38=>(unc v4 fun v39 v40=>asB v39 fun v41=>unn v40 (unn v1 ((K v8 v11 v14 v17 v20 v23 v26 v29 v32 v35 v38 v41))))) = K v8 v11 v14 v17 v20 v23 v26 v29 v32 v35 v38 v41:=(aH h _).trans rfl
theorem tk {ds:List D} {v8:Int} {v11:List D} {v14 v17 v20 v23 v26 v29 v32:Int} {v35 v38:List D} {v41:Bool} (h:V 25 ds = some (.tup [.agg [.int .i64 v8,.os (5,0) v11,.int .i64 v14,.int .i64 v17,.int .i64 v20,.int .i64 v23,.int .i64 v26,.int .i64 v29,.int .i64 v32,.os (1,0) v35,.os (1,0) v38],.bool v41],[])) (K:Int->List D->Int->Int->Int->Int->Int->Int->Int->List D->List D->Bool->Option Ret):ac V 25 ds (fun v0 v1=>aP v0 fun v2=>unc v2 fun v3 v4=>tk7 v3 fun v8 v11 v14 v17 v20 v23 v26 v29 v32 v35 v38=>(unc v4 fun v39 v40=>asB v39 fun v41=>unn v40 (unn v1 ((K v8 v11 v14 v17 v20 v23 v26 v29 v32 v35 v38 v41))))) = K v8 v11 v14 v17 v20 v23 v26 v29 v32 v35 v38 v41:=(aH h _).trans rfl
theorem FC {ds:List D} {v2:Bool} (h:V 59 ds = some (.bool v2,[])) (K:Bool->Option Ret):ac V 59 ds (fun v0 v1=>asB v0 fun v2=>unn v1 ((K v2))) = K v2:=(aH h _).trans rfl
theorem I8 {ds v8 v11 v14:List D} {v17:Int} (h:V 215 ds = some (.tup [],[.op [.os (5,0) v8,.os (4,0) v11,.os (3,0) v14,.int .i64 v17]])) (K:List D->List D->List D->Int->Option Ret):ac V 215 ds (fun v0 v1=>aP v0 fun v2=>unn v2 (unc v1 fun v3 v4=>tk2 v3 fun v8 v11 v14 v17=>(unn v4 ((K v8 v11 v14 v17))))) = K v8 v11 v14 v17:=(aH h _).trans rfl
theorem jO {ds:List D} {v2:Bool} (h:V 238 ds = some (.bool v2,[])) (K:Bool->Option Ret):ac V 238 ds (fun v0 v1=>asB v0 fun v2=>unn v1 ((K v2))) = K v2:=(aH h _).trans rfl
theorem yi {ds:List D} {v5 v8:Int} (h:V 248 ds = some (.tup [.int .i64 v5,.int .i64 v8],[])) (K:Int->Int->Option Ret):ac V 248 ds (fun v0 v1=>tk8 v0 fun v5 v8=>(unn v1 ((K v5 v8)))) = K v5 v8:=(aH h _).trans rfl
theorem Gb {ds v8 v11 v14:List D} {v17:Int} (h:V 249 ds = some (.tup [],[.op [.os (5,0) v8,.os (4,0) v11,.os (3,0) v14,.int .i64 v17]])) (K:List D->List D->List D->Int->Option Ret):ac V 249 ds (fun v0 v1=>aP v0 fun v2=>unn v2 (unc v1 fun v3 v4=>tk2 v3 fun v8 v11 v14 v17=>(unn v4 ((K v8 v11 v14 v17))))) = K v8 v11 v14 v17:=(aH h _).trans rfl
theorem JZ {ds v2:List D} (h:V 189 ds = some (.os (1,0) v2,[])) (K:List D->Option Ret):ac V 189 ds (fun v0 v1=>aI (1,0) v0 fun v2=>unn v1 ((K v2))) = K v2:=(aH h _).trans rfl
theorem ek {ds:List D} {v2:Int} (h:V 145 ds = some (.int .i64 v2,[])) (K:Int->Option Ret):ac V 145 ds (fun v0 v1=>asI .i64 v0 fun v2=>unn v1 ((K v2))) = K v2:=(aH h _).trans rfl
theorem AE {ds v8 v11:List D} {v14 v17:Int} (h:V 191 ds = some (.tup [.agg [.os (5,0) v8],.os (1,0) v11,.int .i64 v14,.int .i64 v17],[])) (K:List D->List D->Int->Int->Option Ret):ac V 191 ds (fun v0 v1=>aP v0 fun v2=>unc v2 fun v3 v4=>asAgg v3 fun v5=>unc v5 fun v6 v7=>aI (5,0) v6 fun v8=>unn v7 (unc v4 fun v9 v10=>aI (1,0) v9 fun v11=>unc v10 fun v12 v13=>asI .i64 v12 fun v14=>unc v13 fun v15 v16=>asI .i64 v15 fun v17=>unn v16 (unn v1 ((K v8 v11 v14 v17))))) = K v8 v11 v14 v17:=(aH h _).trans rfl
theorem tE {ds v8 v11 v14:List D} {v17 v20:Int} (h:V 193 ds = some (.tup [.agg [.os (5,0) v8,.os (4,0) v11,.os (3,0) v14],.int .i64 v17,.int .i64 v20],[])) (K:List D->List D->List D->Int->Int->Option Ret):ac V 193 ds (fun v0 v1=>aP v0 fun v2=>unc v2 fun v3 v4=>tk9 v3 fun v8 v11 v14=>(unc v4 fun v15 v16=>asI .i64 v15 fun v17=>unc v16 fun v18 v19=>asI .i64 v18 fun v20=>unn v19 (unn v1 ((K v8 v11 v14 v17 v20))))) = K v8 v11 v14 v17 v20:=(aH h _).trans rfl
theorem Fu {ds:List D} {v2:Bool} (h:V 79 ds = some (.bool v2,[])) (K:Bool->Option Ret):ac V 79 ds (fun v0 v1=>asB v0 fun v2=>unn v1 ((K v2))) = K v2:=(aH h _).trans rfl
theorem Iq {ds:List D} {v2:Bool} (h:V 126 ds = some (.bool v2,[])) (K:Bool->Option Ret):ac V 126 ds (fun v0 v1=>asB v0 fun v2=>unn v1 ((K v2))) = K v2:=(aH h _).trans rfl
theorem jR {ds:List D} {v2:Bool} (h:V 203 ds = some (.bool v2,[])) (K:Bool->Option Ret):ac V 203 ds (fun v0 v1=>asB v0 fun v2=>unn v1 ((K v2))) = K v2:=(aH h _).trans rfl
theorem xH {ds v2 v8:List D} (h:V 137 ds = some (.os (1,0) v2,[.op [.os (5,0) v8]])) (K:List D->List D->Option Ret):ac V 137 ds (fun v0 v1=>aI (1,0) v0 fun v2=>unc v1 fun v3 v4=>bH v3 fun v5=>unc v5 fun v6 v7=>aI (5,0) v6 fun v8=>unn v7 (unn v4 ((K v2 v8)))) = K v2 v8:=(aH h _).trans rfl
theorem IK {ds:List D} {v5:Int} {v8:Bool} (h:V 227 ds = some (.tup [.int .i64 v5,.bool v8],[])) (K:Int->Bool->Option Ret):ac V 227 ds (fun v0 v1=>Qh v0 fun v5 v8=>(unn v1 ((K v5 v8)))) = K v5 v8:=(aH h _).trans rfl
theorem Fg {ds:List D} {v2:Bool} (h:V 130 ds = some (.bool v2,[])) (K:Bool->Option Ret):ac V 130 ds (fun v0 v1=>asB v0 fun v2=>unn v1 ((K v2))) = K v2:=(aH h _).trans rfl
theorem wC {ds:List D} {v2:Bool} (h:V 177 ds = some (.bool v2,[])) (K:Bool->Option Ret):ac V 177 ds (fun v0 v1=>asB v0 fun v2=>unn v1 ((K v2))) = K v2:=(aH h _).trans rfl
end Go.Eng
/-! nodes and pools: when they are right,on both sides -/
namespace Go.Eng
open Go.Proofs Go.Proofs.Tryz

theorem cj (b c : Bool) (l : List D) : br b (some (D.bool c,l)) (some (D.bool false,l)) = some (D.bool (b && c),l) := by cases b <;> rfl
theorem Ol (b c : Bool) (l : List D) : br b (some (D.bool true,l)) (some (D.bool c,l)) = some (D.bool (b || c),l) := by cases b <;> rfl
theorem tC (b c : Bool) (l : List D) : br b (some (D.bool false,l)) (some (D.bool c,l)) = some (D.bool (!b && c),l) := by cases b <;> rfl

structure Nd where
 kind : Int
 n : Int
 s : ByteArray
 a : Int
 b : Int
noncomputable abbrev eN (x : Nd) : D := .agg [.int .i64 x.kind,.int .i64 x.n,.str x.s,.int .i64 x.a,.int .i64 x.b]
section
variable {R : Type}
theorem pQ (x : Nd) (K : Int -> Int -> ByteArray -> Int -> Int -> Option R) : tk1 (eN x) (fun n4 n7 s10 n13 n16 => (K n4 n7 s10 n13 n16)) = K x.kind x.n x.s x.a x.b := rfl
theorem Sn (x : Nd) (K : Int -> Option R) : asAgg (eN x) (fun l => az l 0 fun y => asI .i64 y fun n => K n) = K x.kind := rfl
theorem SC (x : Nd) (K : ByteArray -> Option R) : asAgg (eN x) (fun l => az l 2 fun y => asS y fun n => K n) = K x.s := rfl
theorem SA (x : Nd) (K : Int -> Option R) : asAgg (eN x) (fun l => az l 3 fun y => asI .i64 y fun n => K n) = K x.a := rfl
theorem SG (x : Nd) (K : Int -> Option R) : asAgg (eN x) (fun l => az l 4 fun y => asI .i64 y fun n => K n) = K x.b := rfl
end

theorem bW (n lo hi : Int) : V 58 [.int .i64 n,.int .i64 lo,.int .i64 hi] = some (.bool (wi n lo hi),[]) := (BH n lo hi).trans Af
theorem dP (n lo hi : Int) : V 62 [.int .i64 n,.int .i64 lo,.int .i64 hi] = some (.bool (wi n lo hi),[]) := (JF n lo hi).trans Af
theorem Kw (a b : Int) : V 116 [.int .i64 a,.int .i64 b] = some (.int .i64 (mnI a b),[]) := by
 rw [FA]
 unfold mnI
 by_cases h : a < b
 ·rw [aC (decide_eq_true h),if_neg (by omega)]
 ·rw [av (decide_eq_false h)]
  by_cases h2 : b < a
  ·rw [if_pos h2]
  ·rw [if_neg h2,show b = a by omega]

noncomputable def nmB (c : Int) : Bool := (decide (c >= 97) && decide (c <= 122)) || [43,45,42,60,61,63,33,47].any fun x => c == x
theorem yc {l : List Int} (hl : l.length < 4611686018427387904) (c : Int) : ∀ (k i : Nat),i + k = l.length -> dr (l.map (D.int .u8)) c (ni (l.map (D.int .u8)).length) (i : Int) = some (.int .i64 (f7 (fun x => c == x) l i),[])
 | 0,i,hi => by
  rw [fI,av (by rw [lnM]; exact dc (by omega)),jE (by omega)]
 | k + 1,i,hi => by
  obtain ⟨x,hx⟩ := aE (l := l) (i := i) (by omega)
  have ih := yc hl c k (i + 1) (by omega)
  rw [fI,aC (by rw [lnM]; exact cm (by omega)),au (by rw [lnM]; exact bj (by omega)),Int.toNat_natCast,aq hx,ak]
  cases h : c == x with
  | true => rw [am,jz hx h]
  | false => rw [al,dd (by omega),ih,iC hx h]
theorem OZ {l : List Int} {c : Int} : decide (uK (fun x => c == x) l >= 0) = l.any fun x => c == x := by
 unfold uK
 cases h : l.findIdx? fun x => c == x with
 | none =>
  have := List.findIdx?_eq_none_iff.1 h
  symm
  simpa [List.any_eq_false] using this
 | some k =>
  have h2 : (l.any fun x => c == x) = true := by
   rw [List.findIdx?_eq_some_iff_getElem] at h
   obtain ⟨hk,h3,_⟩ := h
   exact List.any_eq_true.2 ⟨l[k],List.getElem_mem hk,h3⟩
  rw [h2]
  simp
theorem I0 {l : List Int} (hl : l.length < 4611686018427387904) (c : Int) : V 203 [.rs (1,0) (l.map (D.int .u8)),.int .u8 c] = some (.bool (l.any fun x => c == x),[]) := by
 have h : V 221 [.rs (1,0) (l.map (D.int .u8)),.int .u8 c] = some (.int .i64 (uK (fun x => c == x) l),[]) := by
  rw [nk,<- iu]
  exact yc hl c l.length 0 (Nat.zero_add _)
 rw [kZ,lv h,OZ]
theorem Cq (c : Int) : V 177 [.int .u8 c] = some (.bool (nmB c),[]) := by
 have h := I0 (l := [43,45,42,60,61,63,33,47]) (by simp) c
 simp only [List.map_cons,List.map_nil] at h
 rw [uh,au (by decide),jR h]
 unfold nmB
 cases decide (c >= 97) <;> cases decide (c <= 122) <;> rfl
theorem te (c : Int) : V 180 [.int .u8 c] = some (.bool (nmB c),[]) := by
 rw [uL]
 simp only [Ol,nmB,List.any_cons,List.any_nil,Bool.or_false]
 cases decide (c >= 97) <;> cases decide (c <= 122) <;> rfl

noncomputable def CP (s : ByteArray) : Nat -> Nat -> Bool
 | _,0 => true
 | i,k + 1 => nmB (bt s i) && CP s (i + 1) k
noncomputable def qQ (s : ByteArray) : Bool := wi s.size 1 12 && CP s 0 s.size
theorem pr {s : ByteArray} (hl : s.size < 4611686018427387904) : ∀ (k i : Nat),i + k = s.size -> gc s (ni s.size) (i : Int) = some (.bool (CP s i k),[])
 | 0,i,hi => by rw [lz,av (dc (by omega))]; rfl
 | k + 1,i,hi => by
  rw [lz,aC (cm (by omega)),au (bj (by omega)),wC (Cq _),dd (by omega),pr hl k (i + 1) (by omega),tC,Bool.not_not]
  rfl
theorem pN {s : ByteArray} (hl : s.size < 4611686018427387904) : ∀ (k i : Nat),i + k = s.size -> gf s (i : Int) = some (.bool (CP s i k && wi s.size 1 12),[])
 | 0,i,hi => by rw [mr,av (dc (by omega)),fg (dP _ _ _)]; rfl
 | k + 1,i,hi => by
  rw [mr,aC (cm (by omega)),au (bj (by omega)),o5 (te _),dd (by omega),pN hl k (i + 1) (by omega),tC,Bool.not_not,<- Bool.and_assoc]
  rfl
theorem mA {s : ByteArray} (hl : s.size < 4611686018427387904) : V 124 [.str s] = some (.bool (qQ s),[]) := by
 have h : gc s (ni s.size) 0 = _ := pr hl s.size 0 (Nat.zero_add _)
 rw [DZ,ck (bW _ _ _),h,tC,Bool.not_not]
 rfl
theorem jp {s : ByteArray} (hl : s.size < 4611686018427387904) : V 128 [.str s] = some (.bool (qQ s),[]) := by
 have h : gf s 0 = _ := pN hl s.size 0 (Nat.zero_add _)
 rw [Dc,h,Bool.and_comm]
 rfl

noncomputable def nz (s : ByteArray) : Bool := ax s ⟨#[]⟩
noncomputable def okN (x : Nd) (h : Int) : Bool :=
 if x.kind = 1 then wi x.n 0 0 && (nz x.s && (x.a == 0 && x.b == 0))
 else if x.kind = 2 then wi x.n 0 1 && (nz x.s && (x.a == 0 && x.b == 0))
 else if x.kind = 3 then wi x.n (-1000000000) 1000000000 && (nz x.s && (x.a == 0 && x.b == 0))
 else if x.kind = 4 then wi x.n 0 0 && (qQ x.s && (x.a == 0 && x.b == 0))
 else if x.kind = 5 then wi x.n 0 0 && (nz x.s && (wi x.a 0 (h - 1) && wi x.b 0 (h - 1)))
 else if x.kind = 6 then wi x.n 0 1000000000 && (nz x.s && (wi x.a 0 (h - 1) && x.b == 0))
 else if x.kind = 7 then wi x.n 0 0 && (nz x.s && (wi x.a 0 (h - 1) && x.b == 0))
 else if x.kind = 8 then wi x.n 0 99 && (nz x.s && (x.a == 0 && x.b == 0))
 else if x.kind = 9 then wi x.n 0 1000000000 && (nz x.s && (x.a == 0 && x.b == 0))
 else false
theorem QH (n : Int) : wi n 0 0 = (n == 0) := by
 unfold wi
 by_cases h : n = 0
 ·subst h; rfl
 ·have : (n == 0) = false := by simp [h]
  rw [this]
  simp; omega

theorem zz {x : Nd} (hs : x.s.size < 4611686018427387904) {h : Int} (h0 : -4611686018427387904 < h) (h1 : h < 4611686018427387904) : V 126 [eN x,.int .i64 h] = some (.bool (okN x h),[]) := by
 rw [DK,w64 (n := h - 1) (by omega) (by omega)]
 unfold okN
 by_cases e1 : x.kind = 1
 ·rw [aC (by simp [e1]),if_pos e1,ck (bW _ _ _)]; simp only [cj]; rfl
 rw [av (by simp [e1]),if_neg e1]
 by_cases e2 : x.kind = 2
 ·rw [aC (by simp [e2]),if_pos e2,ck (bW _ _ _)]; simp only [cj]; rfl
 rw [av (by simp [e2]),if_neg e2]
 by_cases e3 : x.kind = 3
 ·rw [aC (by simp [e3]),if_pos e3,ck (bW _ _ _)]; simp only [cj]; rfl
 rw [av (by simp [e3]),if_neg e3]
 by_cases e4 : x.kind = 4
 ·rw [aC (by simp [e4]),if_pos e4,Fp (mA hs),ck (bW _ _ _)]; simp only [cj]
 rw [av (by simp [e4]),if_neg e4]
 by_cases e5 : x.kind = 5
 ·rw [aC (by simp [e5]),if_pos e5,ck (bW _ _ _),ck (bW _ _ _),ck (bW _ _ _)]; simp only [cj]; rfl
 rw [av (by simp [e5]),if_neg e5]
 by_cases e6 : x.kind = 6
 ·rw [aC (by simp [e6]),if_pos e6,ck (bW _ _ _),ck (bW _ _ _)]; simp only [cj]; rfl
 rw [av (by simp [e6]),if_neg e6]
 by_cases e7 : x.kind = 7
 ·rw [aC (by simp [e7]),if_pos e7,ck (bW _ _ _),ck (bW _ _ _)]; simp only [cj]; rfl
 rw [av (by simp [e7]),if_neg e7]
 by_cases e8 : x.kind = 8
 ·rw [aC (by simp [e8]),if_pos e8,ck (bW _ _ _)]; simp only [cj]; rfl
 rw [av (by simp [e8]),if_neg e8]
 by_cases e9 : x.kind = 9
 ·rw [aC (by simp [e9]),if_pos e9,ck (bW _ _ _)]; simp only [cj]; rfl
 rw [av (by simp [e9]),if_neg e9]

theorem Qe {x : Nd} (hs : x.s.size < 4611686018427387904) {h : Int} (h0 : -4611686018427387904 < h) (h1 : h < 4611686018427387904) : V 130 [eN x,.int .i64 h] = some (.bool (okN x h),[]) := by
 rw [DC,w64 (n := h - 1) (by omega) (by omega),fg (dP _ _ _),fg (dP _ _ _)]
 unfold okN
 have hss : ax x.s x.s = true := by rw [kV]; simp
 by_cases e1 : x.kind = 1
 ·rw [aC (by simp [e1]),if_pos e1,e1,QH]; simp [nz]
 rw [av (by simp [e1]),if_neg e1]
 by_cases e2 : x.kind = 2
 ·rw [aC (by simp [e2]),if_pos e2,e2,fg (dP _ _ _)]; simp only [cj]; simp [nz]
 rw [av (by simp [e2]),if_neg e2]
 by_cases e3 : x.kind = 3
 ·rw [aC (by simp [e3]),if_pos e3,e3,fg (dP _ _ _)]; simp only [cj]; simp [nz]
 rw [av (by simp [e3]),if_neg e3]
 by_cases e4 : x.kind = 4
 ·rw [aC (by simp [e4]),if_pos e4,e4,vu (jp hs),QH,hss]; simp only [cj]
  cases qQ x.s <;> cases x.n == 0 <;> simp
 rw [av (by simp [e4]),if_neg e4]
 by_cases e5 : x.kind = 5
 ·rw [aC (by simp [e5]),if_pos e5,QH]; simp only [cj]
  show some (D.bool (_ && (_ && (_ && nz x.s))),_) = _
  cases wi x.a 0 (h - 1) <;> cases wi x.b 0 (h - 1) <;> cases x.n == 0 <;> cases nz x.s <;> rfl
 rw [av (by simp [e5]),if_neg e5]
 by_cases e6 : x.kind = 6
 ·rw [aC (by simp [e6]),if_pos e6,fg (dP _ _ _)]; simp only [cj]
  show some (D.bool (_ && (_ && (_ && nz x.s))),_) = _
  cases wi x.a 0 (h - 1) <;> cases wi x.n 0 1000000000 <;> cases x.b == 0 <;> cases nz x.s <;> rfl
 rw [av (by simp [e6]),if_neg e6]
 by_cases e7 : x.kind = 7
 ·rw [aC (by simp [e7]),if_pos e7,QH]; simp only [cj]
  show some (D.bool (_ && (_ && (_ && nz x.s))),_) = _
  cases wi x.a 0 (h - 1) <;> cases x.n == 0 <;> cases x.b == 0 <;> cases nz x.s <;> rfl
 rw [av (by simp [e7]),if_neg e7]
 by_cases e8 : x.kind = 8
 ·rw [aC (by simp [e8]),if_pos e8,e8,fg (dP _ _ _)]; simp only [cj]; simp [nz]
 rw [av (by simp [e8]),if_neg e8]
 by_cases e9 : x.kind = 9
 ·rw [aC (by simp [e9]),if_pos e9,e9,fg (dP _ _ _)]; simp only [cj]; simp [nz]
 rw [av (by simp [e9]),if_neg e9]

noncomputable abbrev eP (p : List Nd) : D := .agg [.rs (5,0) (p.map eN)]
noncomputable abbrev oP (p : List Nd) : D := .agg [.os (5,0) (p.map eN)]
noncomputable abbrev rP (p : List Nd) : D := .op [.os (5,0) (p.map eN)]
noncomputable def fW (p : List Nd) : Prop := ∀ x ∈ p,x.s.size < 4611686018427387904
noncomputable def mt (p : List Nd) : Nat -> Nat -> Bool
 | _,0 => true
 | i,k + 1 => (match p[i]? with | some x => okN x i | none => true) && mt p (i + 1) k
noncomputable def bu (p : List Nd) : Bool := mt p 0 p.length && decide ((p.length : Int) <= 3000)
theorem qi {p : List Nd} (hf : fW p) (hl : p.length < 4611686018427387904) : ∀ (k i : Nat),i + k = p.length -> iw (p.map eN) (ni (p.map eN).length) (i : Int) (p.map eN) = some (.bool (mt p i k && decide ((p.length : Int) <= 3000)),[])
 | 0,i,hi => by
  rw [lV,av (by rw [lnM]; exact dc (by omega)),lnM]; rfl
 | k + 1,i,hi => by
  obtain ⟨x,hx⟩ := aE (l := p) (i := i) (by omega)
  rw [lV,aC (by rw [lnM]; exact cm (by omega)),au (by rw [lnM]; exact bj (by omega)),Int.toNat_natCast,aq hx,pQ,Iq (zz (hf x (List.mem_of_getElem? hx)) (by omega) (by omega)),dd (by omega),qi hf hl k (i + 1) (by omega),tC,Bool.not_not,<- Bool.and_assoc]
  simp only [mt,hx]
theorem pE {p : List Nd} (hf : fW p) (hl : p.length < 4611686018427387904) : ∀ (k i : Nat),i + k = p.length -> iq (i : Int) (p.map eN) = some (.bool (mt p i k && decide ((p.length : Int) <= 3000)),[])
 | 0,i,hi => by
  rw [lM,av (by rw [lnM]; exact dc (by omega)),lnM]; rfl
 | k + 1,i,hi => by
  obtain ⟨x,hx⟩ := aE (l := p) (i := i) (by omega)
  rw [lM,aC (by rw [lnM]; exact cm (by omega)),au (by rw [lnM]; exact bj (by omega)),Int.toNat_natCast,aq hx,pQ,Fg (Qe (hf x (List.mem_of_getElem? hx)) (by omega) (by omega)),dd (by omega),pE hf hl k (i + 1) (by omega),tC,Bool.not_not,<- Bool.and_assoc]
  simp only [mt,hx]
theorem gE {p : List Nd} (hf : fW p) (hl : p.length < 4611686018427387904) : V 55 [eP p] = some (.bool (bu p),[]) := by
 rw [Ck]; exact qi hf hl p.length 0 (Nat.zero_add _)
theorem de {p : List Nd} (hf : fW p) (hl : p.length < 4611686018427387904) : V 60 [eP p] = some (.bool (bu p),[]) := by
 rw [DB]; exact pE hf hl p.length 0 (Nat.zero_add _)
end Go.Eng
/-! what is reached,on both sides -/
namespace Go.Eng
open Go.Proofs Go.Proofs.Tryz

theorem AY {α : Type} {l : List α} {p : α -> Bool} : decide (uK p l >= 0) = l.any p := by
 unfold uK
 cases h : l.findIdx? p with
 | none =>
  have := List.findIdx?_eq_none_iff.1 h
  symm
  simpa [List.any_eq_false] using this
 | some k =>
  have h2 : l.any p = true := by
   rw [List.findIdx?_eq_some_iff_getElem] at h
   obtain ⟨hk,h3,_⟩ := h
   exact List.any_eq_true.2 ⟨l[k],List.getElem_mem hk,h3⟩
  rw [h2]
  simp

noncomputable abbrev eI : Int -> D := D.int .i64
theorem wi_iff {n lo hi : Int} : wi n lo hi = true ↔ lo <= n /\ n <= hi := by simp [wi]

theorem xz {p : List Nd} : ∀ {k i j : Nat} {x : Nd},mt p i k = true -> i <= j -> j < i + k -> p[j]? = some x -> okN x j = true
 | 0,i,j,x,_,h1,h2,_ => by omega
 | k + 1,i,j,x,h,h1,h2,hx => by
  simp only [mt,Bool.and_eq_true] at h
  by_cases e : i = j
  ·subst e; rw [hx] at h; exact h.1
  ·exact xz h.2 (by omega) (by omega) hx
theorem eH {p : List Nd} (h : bu p = true) {j : Nat} {x : Nd} (hx : p[j]? = some x) : okN x j = true := by
 simp only [bu,Bool.and_eq_true] at h
 exact xz h.1 (Nat.zero_le _) (by have := bw hx; omega) hx
theorem bJ {p : List Nd} (h : bu p = true) : p.length <= 3000 := by
 simp only [bu,Bool.and_eq_true,decide_eq_true_eq] at h; omega
theorem fj {x : Nd} {h : Int} (ho : okN x h = true) (hk : x.kind = 5) : 0 <= x.a /\ x.a < h /\ 0 <= x.b /\ x.b < h := by
 simp [okN,hk,wi] at ho; omega
theorem f4 {x : Nd} {h : Int} (ho : okN x h = true) (hk : x.kind = 6 \/ x.kind = 7) : 0 <= x.a /\ x.a < h := by
 rcases hk with hk | hk <;> simp [okN,hk,wi] at ho <;> omega

noncomputable def dl (p : List Nd) (rs : List Int) : Bool := rs.all fun r => wi r 0 ((p.length : Int) - 1)
theorem lj {p : List Nd} (hl : p.length < 4611686018427387904) (r : Int) : V 56 [eP p,.int .i64 r] = some (.bool (wi r 0 ((p.length : Int) - 1)),[]) := by
 rw [Bu,ck (bW _ _ _),lnM,w64 (by simp only [ni]; omega) (by simp only [ni]; omega)]
theorem mg {p : List Nd} (hl : p.length < 4611686018427387904) (r : Int) : V 61 [eP p,.int .i64 r] = some (.bool (wi r 0 ((p.length : Int) - 1)),[]) := by
 rw [Ek,fg (dP _ _ _),lnM,w64 (by simp only [ni]; omega) (by simp only [ni]; omega)]
noncomputable def cR (x : Nd) (m : List Bool) : List Bool := if x.kind = 5 then (m.set x.a.toNat true).set x.b.toNat true else if x.kind = 6 \/ x.kind = 7 then m.set x.a.toNat true else m
noncomputable def cQ (p : List Nd) : Nat -> List Bool -> List Bool
 | 0,m => m
 | k + 1,m => cQ p k (match p[k]?,m[k]? with | some x,some true => cR x m | _,_ => m)
noncomputable def nT (rs : List Int) (m : List Bool) : List Bool := rs.foldl (fun m r => m.set r.toNat true) m
noncomputable def f8 (p : List Nd) (rs : List Int) : List Bool := cQ p p.length (nT rs (List.replicate p.length false))
theorem q0 (x : Nd) (m : List Bool) : (cR x m).length = m.length := by
 unfold cR
 split
 ·simp
 ·split <;> simp
theorem pZ {p : List Nd} : ∀ (k : Nat) (m : List Bool),(cQ p k m).length = m.length
 | 0,m => rfl
 | k + 1,m => by
  simp only [cQ]
  rw [pZ k]
  split
  ·exact q0 _ _
  ·rfl
theorem mF : ∀ (rs : List Int) (m : List Bool),(nT rs m).length = m.length
 | [],m => rfl
 | r :: rs,m => by
  have := mF rs (m.set r.toNat true)
  simpa [nT] using this
theorem ff {n : Int} {l : Nat} (h0 : 0 <= n) (h1 : n < l) : (decide (0 <= n) && decide (n < ni l)) = true := by
 simp only [ni,Bool.and_eq_true,decide_eq_true_eq]; omega
theorem gP {α : Type} {l : List α} {n : Int} (h0 : 0 <= n) (h1 : n < l.length) : ∃ x,l[n.toNat]? = some x := aE (by omega)
theorem jl {m : List Bool} {j : Nat} : List.set (m.map D.bool) j (D.bool true) = (m.set j true).map D.bool := by rw [List.map_set]

theorem eo {p : List Nd} (hp : bu p = true) : ∀ (k : Nat) (m : List Bool) (i : Int),i = (k : Int) - 1 -> k <= p.length -> m.length = p.length -> dE i (p.map eN) (m.map D.bool) = some (.os (1,0) ((cQ p k m).map D.bool),[])
 | 0,m,i,hi,hk,hm => by
  rw [nc,av (decide_eq_false (by omega))]; rfl
 | k + 1,m,i,hi,hk,hm => by
  have hl := bJ hp
  have ei : i = (k : Int) := by omega
  subst ei
  obtain ⟨x,hx⟩ := aE (l := p) (i := k) (by omega)
  obtain ⟨b,hb⟩ := aE (l := m) (i := k) (by omega)
  have ho := eH hp hx
  have hw : IntKind.wrap .i64 ((k : Int) - 1) = (k : Int) - 1 := w64 (by omega) (by omega)
  rw [nc,aC (decide_eq_true (by omega)),au (by rw [lnM]; exact bj (by omega)),Int.toNat_natCast,aq hb,ap,hw]
  simp only [cQ,hx,hb]
  cases b with
  | false => rw [Bool.not_false,am]; exact eo hp k m _ rfl (by omega) hm
  | true =>
   show _ = some (D.os (1,0) ((cQ p k (cR x m)).map D.bool),[])
   rw [Bool.not_true,al,au (by rw [lnM]; exact bj (by omega)),aq hx,pQ]
   by_cases h5 : x.kind = 5
   ·obtain ⟨a0,a1,b0,b1⟩ := fj ho h5
    obtain ⟨u,hu⟩ := gP (l := m) (n := x.a) a0 (by omega)
    obtain ⟨v,hv⟩ := gP (l := m.set x.a.toNat true) (n := x.b) b0 (by simp; omega)
    rw [aC (by simp [h5]),au (by rw [List.length_map]; exact ff a0 (by omega)),aq hu,aU,jl,au (by rw [List.length_map]; exact ff b0 (by simp; omega)),aq hv,aU,jl]
    simp only [cR,h5,if_true]
    exact eo hp k _ _ rfl (by omega) (by simp; omega)
   rw [av (by simp [h5])]
   by_cases h6 : x.kind = 6
   ·obtain ⟨a0,a1⟩ := f4 ho (.inl h6)
    obtain ⟨u,hu⟩ := gP (l := m) (n := x.a) a0 (by omega)
    rw [aC (by simp [h6]),aC (by simp [h6]),au (by rw [List.length_map]; exact ff a0 (by omega)),aq hu,aU,jl]
    have e : cR x m = m.set x.a.toNat true := by simp [cR,h6]
    rw [e]
    exact eo hp k _ _ rfl (by omega) (by simp; omega)
   rw [av (by simp [h6])]
   by_cases h7 : x.kind = 7
   ·obtain ⟨a0,a1⟩ := f4 ho (.inr h7)
    obtain ⟨u,hu⟩ := gP (l := m) (n := x.a) a0 (by omega)
    rw [aC (by simp [h7]),au (by rw [List.length_map]; exact ff a0 (by omega)),aq hu,aU,jl]
    have e : cR x m = m.set x.a.toNat true := by simp [cR,h7]
    rw [e]
    exact eo hp k _ _ rfl (by omega) (by simp; omega)
   rw [av (by simp [h7])]
   have e : cR x m = m := by simp [cR,h5,h6,h7]
   rw [e]
   exact eo hp k _ _ rfl (by omega) hm
theorem eu {p : List Nd} (hp : bu p = true) : ∀ (k : Nat) (m : List Bool) (i : Int),i = (k : Int) - 1 -> k <= p.length -> m.length = p.length -> c8 i (p.map eN) (m.map D.bool) = some (.os (1,0) ((cQ p k m).map D.bool),[])
 | 0,m,i,hi,hk,hm => by
  rw [kO,av (decide_eq_false (by omega))]; rfl
 | k + 1,m,i,hi,hk,hm => by
  have hl := bJ hp
  have ei : i = (k : Int) := by omega
  subst ei
  obtain ⟨x,hx⟩ := aE (l := p) (i := k) (by omega)
  obtain ⟨b,hb⟩ := aE (l := m) (i := k) (by omega)
  have ho := eH hp hx
  have hw : IntKind.wrap .i64 ((k : Int) - 1) = (k : Int) - 1 := w64 (by omega) (by omega)
  rw [kO,aC (decide_eq_true (by omega)),au (by rw [lnM]; exact bj (by omega)),Int.toNat_natCast,aq hx,pQ,au (by rw [lnM]; exact bj (by omega)),aq hb,ap,hw]
  simp only [cQ,hx,hb]
  cases b with
  | false => rw [Bool.not_false,am]; exact eu hp k m _ rfl (by omega) hm
  | true =>
   show _ = some (D.os (1,0) ((cQ p k (cR x m)).map D.bool),[])
   rw [Bool.not_true,al]
   by_cases h5 : x.kind = 5
   ·obtain ⟨a0,a1,b0,b1⟩ := fj ho h5
    obtain ⟨u,hu⟩ := gP (l := m) (n := x.a) a0 (by omega)
    obtain ⟨v,hv⟩ := gP (l := m.set x.a.toNat true) (n := x.b) b0 (by simp; omega)
    rw [aC (by simp [h5]),au (by rw [List.length_map]; exact ff a0 (by omega)),aq hu,aU,jl,au (by rw [List.length_map]; exact ff b0 (by simp; omega)),aq hv,aU,jl]
    simp only [cR,h5,if_true]
    exact eu hp k _ _ rfl (by omega) (by simp; omega)
   rw [av (by simp [h5])]
   by_cases h6 : x.kind = 6
   ·obtain ⟨a0,a1⟩ := f4 ho (.inl h6)
    obtain ⟨u,hu⟩ := gP (l := m) (n := x.a) a0 (by omega)
    rw [aC (by simp [h6]),aC (by simp [h6]),au (by rw [List.length_map]; exact ff a0 (by omega)),aq hu,aU,jl]
    have e : cR x m = m.set x.a.toNat true := by simp [cR,h6]
    rw [e]
    exact eu hp k _ _ rfl (by omega) (by simp; omega)
   rw [av (by simp [h6])]
   by_cases h7 : x.kind = 7
   ·obtain ⟨a0,a1⟩ := f4 ho (.inr h7)
    obtain ⟨u,hu⟩ := gP (l := m) (n := x.a) a0 (by omega)
    rw [aC (by simp [h7]),au (by rw [List.length_map]; exact ff a0 (by omega)),aq hu,aU,jl]
    have e : cR x m = m.set x.a.toNat true := by simp [cR,h7]
    rw [e]
    exact eu hp k _ _ rfl (by omega) (by simp; omega)
   rw [av (by simp [h7])]
   have e : cR x m = m := by simp [cR,h5,h6,h7]
   rw [e]
   exact eu hp k _ _ rfl (by omega) hm

theorem pI {p : List Nd} (hp : bu p = true) {l : List Int} (h2 : l.length < 4611686018427387904) (hr : dl p l = true) : ∀ (k i : Nat) (m : List Bool),i + k = l.length -> m.length = p.length -> gG (l.map eI) (ni (l.map eI).length) (i : Int) (p.map eN) (m.map D.bool) = some (.os (1,0) ((cQ p p.length (nT (l.drop i) m)).map D.bool),[])
 | 0,i,m,hi,hm => by
  have hl := bJ hp
  rw [mT,av (by rw [lnM]; exact dc (by omega)),List.drop_of_length_le (by omega),lnM,w64 (by simp only [ni]; omega) (by simp only [ni]; omega)]
  exact eo hp p.length m _ rfl (Nat.le_refl _) hm
 | k + 1,i,m,hi,hm => by
  obtain ⟨x,hx⟩ := aE (l := l) (i := i) (by omega)
  have hx2 := wi_iff.1 (List.all_eq_true.1 hr x (List.mem_of_getElem? hx))
  obtain ⟨u,hu⟩ := gP (l := m) (n := x) hx2.1 (by omega)
  rw [mT,aC (by rw [lnM]; exact cm (by omega)),au (by rw [lnM]; exact bj (by omega)),Int.toNat_natCast,aq hx,ak,au (by rw [lnM]; exact ff hx2.1 (by omega)),aq hu,aU,jl,dd (by omega),cX hx]
  exact pI hp h2 hr k (i + 1) _ (by omega) (by simp; omega)
theorem px {p : List Nd} (hp : bu p = true) {l : List Int} (h2 : l.length < 4611686018427387904) (hr : dl p l = true) : ∀ (k i : Nat) (m : List Bool),i + k = l.length -> m.length = p.length -> fJ (l.map eI) (i : Int) (p.map eN) (m.map D.bool) = some (.os (1,0) ((cQ p p.length (nT (l.drop i) m)).map D.bool),[])
 | 0,i,m,hi,hm => by
  have hl := bJ hp
  rw [kF,av (by rw [lnM]; exact dc (by omega)),List.drop_of_length_le (by omega),lnM,w64 (by simp only [ni]; omega) (by simp only [ni]; omega)]
  exact eu hp p.length m _ rfl (Nat.le_refl _) hm
 | k + 1,i,m,hi,hm => by
  obtain ⟨x,hx⟩ := aE (l := l) (i := i) (by omega)
  have hx2 := wi_iff.1 (List.all_eq_true.1 hr x (List.mem_of_getElem? hx))
  obtain ⟨u,hu⟩ := gP (l := m) (n := x) hx2.1 (by omega)
  rw [kF,aC (by rw [lnM]; exact cm (by omega)),au (by rw [lnM]; exact bj (by omega)),Int.toNat_natCast,aq hx,ak,au (by rw [lnM]; exact ff hx2.1 (by omega)),aq hu,aU,jl,dd (by omega),cX hx]
  exact px hp h2 hr k (i + 1) _ (by omega) (by simp; omega)
theorem wM {α : Type} {f : α -> D} {l : List α} (h : l.length <= 4294967296) : (decide (0 <= ni (l.map f).length) && decide (ni (l.map f).length <= LIM)) = true := by
 rw [Bool.and_eq_true]
 exact ⟨decide_eq_true (by simp only [ni]; omega),decide_eq_true (by rw [bh,lnM]; simp only [ni]; omega)⟩
theorem AL {n : Nat} : List.replicate (Int.toNat (ni n)) (D.bool false) = (List.replicate n false).map D.bool := by simp [ni]
theorem QE {p : List Nd} (hp : bu p = true) {l : List Int} (h2 : l.length < 4611686018427387904) (hr : dl p l = true) : V 189 [eP p,.rs (1,0) (l.map eI)] = some (.os (1,0) ((f8 p l).map D.bool),[]) := by
 have hl := bJ hp
 have h : gG (l.map eI) (ni (l.map eI).length) 0 (p.map eN) ((List.replicate p.length false).map D.bool) = _ := pI hp h2 hr l.length 0 _ (Nat.zero_add _) (by simp)
 have e : (p.map eN).length = p.length := lnM _
 rw [FF,au (wM (by omega)),AL,e,h]; rfl
theorem MR {p : List Nd} (hp : bu p = true) {l : List Int} (h2 : l.length < 4611686018427387904) (hr : dl p l = true) : V 149 [eP p,.rs (1,0) (l.map eI)] = some (.os (1,0) ((f8 p l).map D.bool),[]) := by
 have hl := bJ hp
 have h : fJ (l.map eI) 0 (p.map eN) ((List.replicate p.length false).map D.bool) = _ := px hp h2 hr l.length 0 _ (Nat.zero_add _) (by simp)
 have e : (p.map eN).length = p.length := lnM _
 rw [yW,au (wM (by omega)),AL,e,h]; rfl
end Go.Eng
/-! what is moved into another pool,on both sides -/
namespace Go.Eng
open Go.Proofs Go.Proofs.Tryz

theorem Lu {p : List Nd} (h : p.length < 4294967296) (x : D) : decide (ni (p.map eN ++ [x]).length <= LIM) = true :=
 decide_eq_true (by rw [bh]; simp only [ni,lnA,lnM,lnC,lnN]; omega)
theorem Lv {p : List Nd} (h : p.length < 4294967296) (x : Nd) : V 157 [rP p,eN x] = some (.int .i64 p.length,[rP (p ++ [x])]) := by
 rw [yL,au (Lu h _),aU]
 have : IntKind.wrap .i64 (ni (p.map eN ++ [eN x]).length - 1) = p.length := by
  rw [w64 (by simp only [ni]; omega) (by simp only [ni,lnA,lnM,lnC,lnN]; omega)]
  simp [ni]
 rw [this]; simp
theorem jr {p : List Nd} (h : p.length < 4294967296) (x : Nd) : V 158 [rP p,eN x] = some (.int .i64 p.length,[rP (p ++ [x])]) := by
 rw [GG,au (Lu h _),aU]
 have : IntKind.wrap .i64 (ni (p.map eN ++ [eN x]).length - 1) = p.length := by
  rw [w64 (by simp only [ni]; omega) (by simp only [ni,lnA,lnM,lnC,lnN]; omega)]
  simp [ni]
 rw [this]; simp

noncomputable def bV (pre : List Int) (x : Nd) : Nd :=
 if x.kind = 5 then ⟨x.kind,x.n,x.s,pre.getD x.a.toNat 0,pre.getD x.b.toNat 0⟩
 else if x.kind = 6 \/ x.kind = 7 then ⟨x.kind,x.n,x.s,pre.getD x.a.toNat 0,x.b⟩ else x
noncomputable def fF (d : Int) (q : List Nd) (m : List Bool) : Nat -> List Int -> List Nd -> List Int × List Nd
 | 0,pre,acc => (pre,acc)
 | k + 1,pre,acc => match q[pre.length]?,m[pre.length]? with
  | some x,some true => fF d q m k (pre ++ [(acc.length : Int)]) (acc ++ [bV pre x])
  | _,_ => fF d q m k (pre ++ [d]) acc
theorem DA {pre r : List Int} {v u : Int} {i : Nat} (h : pre.length = i) : (pre ++ u :: r).set i v = pre ++ v :: r := by
 subst h; simp
theorem Dv {pre r : List Int} {u : Int} {i : Nat} (h : pre.length = i) : (pre ++ u :: r)[i]? = some u := by
 subst h; simp
theorem jv {pre r : List Int} {j : Nat} (h : j < pre.length) : (pre ++ r)[j]? = pre[j]? := List.getElem?_append_left h
theorem ma {l pre : List Int} {n : Int} (h0 : 0 <= n) (h1 : n < pre.length) (h : ∀ j,j < pre.length -> l[j]? = pre[j]?) : ∃ u,l[n.toNat]? = some u /\ pre[n.toNat]? = some u := by
 obtain ⟨u,hu⟩ := aE (l := pre) (i := n.toNat) (by omega)
 exact ⟨u,by rw [h _ (by omega),hu],hu⟩
theorem fe {q : List Nd} (hp : bu q = true) {m : List Bool} (hm : m.length = q.length) : ∀ (k i : Nat) (pre : List Int) (acc : List Nd),pre.length = i -> i + k = q.length -> acc.length + k < 4294967296 ->
  ce (q.map eN) (ni (q.map eN).length) (i : Int) ((pre ++ List.replicate k 0).map eI) (m.map D.bool) (acc.map eN) = some (.os (1,0) ((fF (-1) q m k pre acc).1.map eI),[rP (fF (-1) q m k pre acc).2])
 | 0,i,pre,acc,hpre,hi,hc => by
  rw [il,av (by rw [lnM]; exact dc (by omega))]
  simp [fF]
 | k + 1,i,pre,acc,hpre,hi,hc => by
  have hl := bJ hp
  obtain ⟨x,hx⟩ := aE (l := q) (i := i) (by omega)
  obtain ⟨b,hb⟩ := aE (l := m) (i := i) (by omega)
  have ho := eH hp hx
  have s1 : List.set ((pre ++ List.replicate (k + 1) 0).map eI) i (eI (-1)) = (pre ++ (-1) :: List.replicate k 0).map eI := by
   rw [<- List.map_set,List.replicate_succ,DA hpre]
  have s2 : ∀ v : Int,List.set ((pre ++ (-1) :: List.replicate k 0).map eI) i (eI v) = (pre ++ [v] ++ List.replicate k 0).map eI := by
   intro v; rw [<- List.map_set,DA hpre]; simp
  have hz : (pre ++ List.replicate (k + 1) 0)[i]? = some 0 := by rw [List.replicate_succ,Dv hpre]
  have hz2 : (pre ++ (-1) :: List.replicate k 0)[i]? = some (-1) := Dv hpre
  rw [il,aC (by rw [lnM]; exact cm (by omega)),au (by rw [lnM]; exact bj (by omega)),Int.toNat_natCast,aq hx,pQ,au (by rw [lnM]; exact bj (by simp; omega)),aq hz,aU,s1,au (by rw [lnM]; exact bj (by omega)),aq hb,ap]
  cases b with
  | false =>
   rw [Bool.not_false,am,dd (by omega)]
   have ih := fe hp hm k (i + 1) (pre ++ [-1]) acc (by simp [hpre]) (by omega) (by omega)
   simp only [fF,hpre,hx,hb]
   simpa using ih
  | true =>
   rw [Bool.not_true,al]
   by_cases h5 : x.kind = 5
   ·obtain ⟨a0,a1,b0,b1⟩ := fj ho h5
    obtain ⟨u,hu,hu'⟩ := ma (l := (pre ++ (-1) :: List.replicate k 0)) (pre := pre) a0 (by omega) (by intro j hj; exact jv hj)
    obtain ⟨v,hv,hv'⟩ := ma (l := (pre ++ (-1) :: List.replicate k 0)) (pre := pre) b0 (by omega) (by intro j hj; exact jv hj)
    have e : bV pre x = ⟨x.kind,x.n,x.s,u,v⟩ := by simp [bV,h5,hu',hv']
    rw [aC (by simp [h5]),au (by rw [List.length_map]; exact ff a0 (by simp; omega)),aq hu,ak,au (by rw [List.length_map]; exact ff b0 (by simp; omega)),aq hv,ak]
    have ha := Lv (p := acc) (by omega) ⟨x.kind,x.n,x.s,u,v⟩
    have ih := fe hp hm k (i + 1) (pre ++ [(acc.length : Int)]) (acc ++ [⟨x.kind,x.n,x.s,u,v⟩]) (by simp [hpre]) (by omega) (by simp; omega)
    rw [lQ ha,au (by rw [lnM]; exact bj (by simp; omega)),aq hz2,aU,s2,dd (by omega)]
    simp only [fF,hpre,hx,hb,e]
    exact ih
   rw [av (by simp [h5])]
   by_cases h6 : x.kind = 6
   ·obtain ⟨a0,a1⟩ := f4 ho (.inl h6)
    obtain ⟨u,hu,hu'⟩ := ma (l := (pre ++ (-1) :: List.replicate k 0)) (pre := pre) a0 (by omega) (by intro j hj; exact jv hj)
    have e : bV pre x = ⟨x.kind,x.n,x.s,u,x.b⟩ := by simp [bV,h6,hu']
    rw [aC (by simp [h6]),aC (by simp [h6]),au (by rw [List.length_map]; exact ff a0 (by simp; omega)),aq hu,ak]
    have ha := Lv (p := acc) (by omega) ⟨x.kind,x.n,x.s,u,x.b⟩
    have ih := fe hp hm k (i + 1) (pre ++ [(acc.length : Int)]) (acc ++ [⟨x.kind,x.n,x.s,u,x.b⟩]) (by simp [hpre]) (by omega) (by simp; omega)
    rw [lQ ha,au (by rw [lnM]; exact bj (by simp; omega)),aq hz2,aU,s2,dd (by omega)]
    simp only [fF,hpre,hx,hb,e]
    exact ih
   rw [av (by simp [h6])]
   by_cases h7 : x.kind = 7
   ·obtain ⟨a0,a1⟩ := f4 ho (.inr h7)
    obtain ⟨u,hu,hu'⟩ := ma (l := (pre ++ (-1) :: List.replicate k 0)) (pre := pre) a0 (by omega) (by intro j hj; exact jv hj)
    have e : bV pre x = ⟨x.kind,x.n,x.s,u,x.b⟩ := by simp [bV,h7,hu']
    rw [aC (by simp [h7]),au (by rw [List.length_map]; exact ff a0 (by simp; omega)),aq hu,ak]
    have ha := Lv (p := acc) (by omega) ⟨x.kind,x.n,x.s,u,x.b⟩
    have ih := fe hp hm k (i + 1) (pre ++ [(acc.length : Int)]) (acc ++ [⟨x.kind,x.n,x.s,u,x.b⟩]) (by simp [hpre]) (by omega) (by simp; omega)
    rw [lQ ha,au (by rw [lnM]; exact bj (by simp; omega)),aq hz2,aU,s2,dd (by omega)]
    simp only [fF,hpre,hx,hb,e]
    exact ih
   rw [av (by simp [h7])]
   ·have e : bV pre x = x := by simp [bV,h5,h6,h7]
    have ha := Lv (p := acc) (by omega) x
    have ih := fe hp hm k (i + 1) (pre ++ [(acc.length : Int)]) (acc ++ [x]) (by simp [hpre]) (by omega) (by simp; omega)
    rw [lQ ha,au (by rw [lnM]; exact bj (by simp; omega)),aq hz2,aU,s2,dd (by omega)]
    simp only [fF,hpre,hx,hb,e]
    exact ih
theorem ft {q : List Nd} (hp : bu q = true) {m : List Bool} (hm : m.length = q.length) : ∀ (k i : Nat) (pre : List Int) (acc : List Nd),pre.length = i -> i + k = q.length -> acc.length + k < 4294967296 ->
  dg (m.map D.bool) (i : Int) (q.map eN) ((pre ++ List.replicate k 0).map eI) (acc.map eN) = some (.os (1,0) ((fF 0 q m k pre acc).1.map eI),[rP (fF 0 q m k pre acc).2])
 | 0,i,pre,acc,hpre,hi,hc => by
  rw [lJ,av (by rw [lnM]; exact dc (by omega))]
  simp [fF]
 | k + 1,i,pre,acc,hpre,hi,hc => by
  have hl := bJ hp
  obtain ⟨x,hx⟩ := aE (l := q) (i := i) (by omega)
  obtain ⟨b,hb⟩ := aE (l := m) (i := i) (by omega)
  have ho := eH hp hx
  have s2 : ∀ v : Int,List.set ((pre ++ List.replicate (k + 1) 0).map eI) i (eI v) = (pre ++ [v] ++ List.replicate k 0).map eI := by
   intro v; rw [<- List.map_set,List.replicate_succ,DA hpre]; simp
  have hz2 : (pre ++ List.replicate (k + 1) 0)[i]? = some 0 := by rw [List.replicate_succ,Dv hpre]
  rw [lJ,aC (by rw [lnM]; exact cm (by omega)),au (by rw [lnM]; exact bj (by omega)),Int.toNat_natCast,aq hb,ap]
  cases b with
  | false =>
   rw [Bool.not_false,am,dd (by omega)]
   have ih := ft hp hm k (i + 1) (pre ++ [0]) acc (by simp [hpre]) (by omega) (by omega)
   simp only [fF,hpre,hx,hb]
   simpa [List.replicate_succ] using ih
  | true =>
   rw [Bool.not_true,al,au (by rw [lnM]; exact bj (by omega)),aq hx,pQ]
   by_cases h5 : x.kind = 5
   ·obtain ⟨a0,a1,b0,b1⟩ := fj ho h5
    obtain ⟨u,hu,hu'⟩ := ma (l := (pre ++ List.replicate (k + 1) 0)) (pre := pre) a0 (by omega) (by intro j hj; exact jv hj)
    obtain ⟨v,hv,hv'⟩ := ma (l := (pre ++ List.replicate (k + 1) 0)) (pre := pre) b0 (by omega) (by intro j hj; exact jv hj)
    have e : bV pre x = ⟨x.kind,x.n,x.s,u,v⟩ := by simp [bV,h5,hu',hv']
    rw [aC (by simp [h5]),au (by rw [List.length_map]; exact ff a0 (by simp; omega)),aq hu,ak,au (by rw [List.length_map]; exact ff b0 (by simp; omega)),aq hv,ak]
    have ha := jr (p := acc) (by omega) ⟨x.kind,x.n,x.s,u,v⟩
    have ih := ft hp hm k (i + 1) (pre ++ [(acc.length : Int)]) (acc ++ [⟨x.kind,x.n,x.s,u,v⟩]) (by simp [hpre]) (by omega) (by simp; omega)
    rw [eZ ha,au (by rw [lnM]; exact bj (by simp; omega)),aq hz2,aU,s2,dd (by omega)]
    simp only [fF,hpre,hx,hb,e]
    exact ih
   rw [av (by simp [h5])]
   by_cases h6 : x.kind = 6
   ·obtain ⟨a0,a1⟩ := f4 ho (.inl h6)
    obtain ⟨u,hu,hu'⟩ := ma (l := (pre ++ List.replicate (k + 1) 0)) (pre := pre) a0 (by omega) (by intro j hj; exact jv hj)
    have e : bV pre x = ⟨x.kind,x.n,x.s,u,x.b⟩ := by simp [bV,h6,hu']
    rw [aC (by simp [h6]),aC (by simp [h6]),au (by rw [List.length_map]; exact ff a0 (by simp; omega)),aq hu,ak]
    have ha := jr (p := acc) (by omega) ⟨x.kind,x.n,x.s,u,x.b⟩
    have ih := ft hp hm k (i + 1) (pre ++ [(acc.length : Int)]) (acc ++ [⟨x.kind,x.n,x.s,u,x.b⟩]) (by simp [hpre]) (by omega) (by simp; omega)
    rw [eZ ha,au (by rw [lnM]; exact bj (by simp; omega)),aq hz2,aU,s2,dd (by omega)]
    simp only [fF,hpre,hx,hb,e]
    exact ih
   rw [av (by simp [h6])]
   by_cases h7 : x.kind = 7
   ·obtain ⟨a0,a1⟩ := f4 ho (.inr h7)
    obtain ⟨u,hu,hu'⟩ := ma (l := (pre ++ List.replicate (k + 1) 0)) (pre := pre) a0 (by omega) (by intro j hj; exact jv hj)
    have e : bV pre x = ⟨x.kind,x.n,x.s,u,x.b⟩ := by simp [bV,h7,hu']
    rw [aC (by simp [h7]),au (by rw [List.length_map]; exact ff a0 (by simp; omega)),aq hu,ak]
    have ha := jr (p := acc) (by omega) ⟨x.kind,x.n,x.s,u,x.b⟩
    have ih := ft hp hm k (i + 1) (pre ++ [(acc.length : Int)]) (acc ++ [⟨x.kind,x.n,x.s,u,x.b⟩]) (by simp [hpre]) (by omega) (by simp; omega)
    rw [eZ ha,au (by rw [lnM]; exact bj (by simp; omega)),aq hz2,aU,s2,dd (by omega)]
    simp only [fF,hpre,hx,hb,e]
    exact ih
   rw [av (by simp [h7])]
   ·have e : bV pre x = x := by simp [bV,h5,h6,h7]
    have ha := jr (p := acc) (by omega) x
    have ih := ft hp hm k (i + 1) (pre ++ [(acc.length : Int)]) (acc ++ [x]) (by simp [hpre]) (by omega) (by simp; omega)
    rw [eZ ha,au (by rw [lnM]; exact bj (by simp; omega)),aq hz2,aU,s2,dd (by omega)]
    simp only [fF,hpre,hx,hb,e]
    exact ih
end Go.Eng
/-! what is kept: both sides keep the same -/
namespace Go.Eng
open Go.Proofs Go.Proofs.Tryz

theorem gJ (p : List Nd) (rs : List Int) : (f8 p rs).length = p.length := by
 unfold f8; rw [pZ,mF]; simp
noncomputable def gW (d : Int) (q : List Nd) (rs : List Int) (acc : List Nd) : List Int × List Nd := fF d q (f8 q rs) q.length [] acc
theorem GI {n : Nat} : List.replicate (Int.toNat (ni n)) (D.int .i64 0) = (List.replicate n (0 : Int)).map eI := by simp [ni]
theorem Pm {q acc : List Nd} (hp : bu q = true) {rs : List Int} (h2 : rs.length < 4611686018427387904) (hr : dl q rs = true) (hc : acc.length + q.length < 4294967296) :
  V 137 [rP acc,eP q,.rs (1,0) (rs.map eI)] = some (.os (1,0) ((gW (-1) q rs acc).1.map eI),[rP (gW (-1) q rs acc).2]) := by
 have e : (q.map eN).length = q.length := lnM _
 have h := fe hp (gJ q rs) q.length 0 [] acc rfl (Nat.zero_add _) hc
 rw [List.nil_append] at h
 rw [tK,au (wM (by omega)),JZ (QE hp h2 hr)]
 have h0 : List.replicate (Int.toNat (ni (q.map eN).length)) (D.int .i64 0) = (List.replicate q.length (0 : Int)).map eI := by rw [e]; exact GI
 rw [h0]
 exact h
theorem OL {q acc : List Nd} (hp : bu q = true) {rs : List Int} (hc : acc.length + q.length < 4294967296) :
  V 148 [rP acc,eP q,.rs (1,0) ((f8 q rs).map D.bool)] = some (.os (1,0) ((gW 0 q rs acc).1.map eI),[rP (gW 0 q rs acc).2]) := by
 have e : (q.map eN).length = q.length := lnM _
 have h := ft hp (gJ q rs) q.length 0 [] acc rfl (Nat.zero_add _) hc
 rw [List.nil_append] at h
 have h0 : List.replicate (Int.toNat (ni (q.map eN).length)) (D.int .i64 0) = (List.replicate q.length (0 : Int)).map eI := by rw [e]; exact GI
 rw [Cz,au (wM (by omega)),h0]
 exact h

theorem lK (d : Int) (q : List Nd) (m : List Bool) : ∀ (k : Nat) (pre : List Int) (acc : List Nd),(fF d q m k pre acc).1.length = pre.length + k
 | 0,pre,acc => rfl
 | k + 1,pre,acc => by
  simp only [fF]
  split
  ·rw [lK d q m k]; simp; omega
  ·rw [lK d q m k]; simp; omega
theorem xu (d : Int) (q : List Nd) (m : List Bool) : ∀ (k : Nat) (pre : List Int) (acc : List Nd),(fF d q m k pre acc).2.length <= acc.length + k
 | 0,pre,acc => Nat.le_refl _
 | k + 1,pre,acc => by
  simp only [fF]
  split
  ·have := xu d q m k (pre ++ [(acc.length : Int)]) (acc ++ [bV pre ‹Nd›]); simp at this; omega
  ·have := xu d q m k (pre ++ [d]) acc; omega

noncomputable def dv (d : Int) (q : List Nd) (rs : List Int) : List Nd × List Int := ((gW d q rs []).2,rs.map fun r => (gW d q rs []).1.getD r.toNat 0)
theorem KU {l : List Int} (h : l.length < 4294967296) (x : D) : decide (ni (l.map eI ++ [x]).length <= LIM) = true :=
 decide_eq_true (by rw [bh]; simp only [ni,lnA,lnM,lnC,lnN]; omega)
theorem pK {n : Nat} {a : List Int} (ha : a.length = n) {p : List D} {l : List Int} (h2 : l.length < 4294967296) (hr : ∀ r ∈ l,0 <= r /\ r < (n : Int)) : ∀ (k i : Nat) (out : List Int),i + k = l.length -> out.length = i -> j9 (l.map eI) (ni (l.map eI).length) (i : Int) (a.map eI) (out.map eI) p = some (.tup [.agg [.os (5,0) p],.os (1,0) ((out ++ (l.drop i).map fun r => a.getD r.toNat 0).map eI)],[])
 | 0,i,out,hi,ho => by
  rw [pb,av (by rw [lnM]; exact dc (by omega)),List.drop_of_length_le (by omega)]; simp
 | k + 1,i,out,hi,ho => by
  obtain ⟨x,hx⟩ := aE (l := l) (i := i) (by omega)
  have hx2 := hr x (List.mem_of_getElem? hx)
  obtain ⟨u,hu⟩ := gP (l := a) (n := x) hx2.1 (by omega)
  have e : out.map eI ++ [D.int .i64 u] = (out ++ [u]).map eI := by simp
  have eg : a.getD x.toNat 0 = u := by simp [hu]
  rw [pb,aC (by rw [lnM]; exact cm (by omega)),au (by rw [lnM]; exact bj (by omega)),Int.toNat_natCast,aq hx,ak,au (by rw [lnM]; exact ff hx2.1 (by omega)),aq hu,ak,au (KU (by omega) _),aU,dd (by omega),e,cX hx,List.map_cons,eg]
  have ih := pK ha (p := p) h2 hr k (i + 1) (out ++ [u]) (by omega) (by simp; omega)
  rw [List.append_assoc] at ih
  exact ih
theorem pD {n : Nat} {a : List Int} (ha : a.length = n) {p : List D} {l : List Int} (h2 : l.length < 4294967296) (hr : ∀ r ∈ l,0 <= r /\ r < (n : Int)) : ∀ (k i : Nat) (out : List Int),i + k = l.length -> out.length = i -> iU (l.map eI) (i : Int) (a.map eI) (out.map eI) p = some (.tup [.agg [.os (5,0) p],.os (1,0) ((out ++ (l.drop i).map fun r => a.getD r.toNat 0).map eI)],[])
 | 0,i,out,hi,ho => by
  rw [ml,av (by rw [lnM]; exact dc (by omega)),List.drop_of_length_le (by omega)]; simp
 | k + 1,i,out,hi,ho => by
  obtain ⟨x,hx⟩ := aE (l := l) (i := i) (by omega)
  have hx2 := hr x (List.mem_of_getElem? hx)
  obtain ⟨u,hu⟩ := gP (l := a) (n := x) hx2.1 (by omega)
  have e : out.map eI ++ [D.int .i64 u] = (out ++ [u]).map eI := by simp
  have eg : a.getD x.toNat 0 = u := by simp [hu]
  rw [ml,aC (by rw [lnM]; exact cm (by omega)),au (by rw [lnM]; exact bj (by omega)),Int.toNat_natCast,aq hx,ak,au (by rw [lnM]; exact ff hx2.1 (by omega)),aq hu,ak,au (KU (by omega) _),aU,dd (by omega),e,cX hx,List.map_cons,eg]
  have ih := pD ha (p := p) h2 hr k (i + 1) (out ++ [u]) (by omega) (by simp; omega)
  rw [List.append_assoc] at ih
  exact ih
theorem lb {p : List Nd} {rs : List Int} (hr : dl p rs = true) : ∀ r ∈ rs,0 <= r /\ r < (p.length : Int) := by
 intro r h
 have := wi_iff.1 (List.all_eq_true.1 hr r h)
 omega
theorem Ru {q : List Nd} (hp : bu q = true) {rs : List Int} (h2 : rs.length < 4294967296) (hr : dl q rs = true) :
  V 66 [eP q,.rs (1,0) (rs.map eI)] = some (.tup [oP (dv (-1) q rs).1,.os (1,0) ((dv (-1) q rs).2.map eI)],[]) := by
 have hl := bJ hp
 have hm : V 137 [.op [.os (5,0) []],eP q,.rs (1,0) (rs.map eI)] = _ := Pm (acc := []) hp (rs := rs) (by omega) hr (by simp; omega)
 have h := pK (lK (-1) q (f8 q rs) q.length [] []) (p := (gW (-1) q rs []).2.map eN) h2 (by simpa using lb hr) rs.length 0 [] (Nat.zero_add _) rfl
 rw [JQ,xH hm]
 exact h
theorem PZ {q : List Nd} (hp : bu q = true) {rs : List Int} (h2 : rs.length < 4294967296) (hr : dl q rs = true) :
  V 86 [eP q,.rs (1,0) (rs.map eI)] = some (.tup [oP (dv 0 q rs).1,.os (1,0) ((dv 0 q rs).2.map eI)],[]) := by
 have hl := bJ hp
 have hm : V 148 [.op [.os (5,0) []],eP q,.rs (1,0) ((f8 q rs).map D.bool)] = _ := OL (acc := []) hp (rs := rs) (by simp; omega)
 have h := pD (lK 0 q (f8 q rs) q.length [] []) (p := (gW 0 q rs []).2.map eN) h2 (by simpa using lb hr) rs.length 0 [] (Nat.zero_add _) rfl
 rw [DR,Cr (MR hp (by omega) hr),FQ hm]
 exact h

noncomputable def On (m : List Bool) (n : Int) : Prop := m[n.toNat]? = some true
theorem xp {m : List Bool} {j i : Nat} (h : m[j]? = some true) : (m.set i true)[j]? = some true := by
 by_cases e : i = j
 ·subst e; simp [bw h]
 ·rw [List.getElem?_set_ne e]; exact h
theorem xm {m : List Bool} {i : Nat} (h : i < m.length) : (m.set i true)[i]? = some true := by simp [h]
theorem Md {x : Nd} {m : List Bool} {j : Nat} (h : m[j]? = some true) : (cR x m)[j]? = some true := by
 unfold cR
 split
 ·exact xp (xp h)
 ·split
  ·exact xp h
  ·exact h
theorem lt {p : List Nd} : ∀ (k : Nat) {m : List Bool} {j : Nat},m[j]? = some true -> (cQ p k m)[j]? = some true
 | 0,m,j,h => h
 | k + 1,m,j,h => by
  simp only [cQ]
  apply lt k
  split
  ·exact Md h
  ·exact h
theorem Mq {p : List Nd} (hp : bu p = true) {k : Nat} {x : Nd} (hx : p[k]? = some x) {m : List Bool} {j : Nat} (h : k <= j) : (cR x m)[j]? = m[j]? := by
 have ho := eH hp hx
 unfold cR
 split
 ·rename_i h5
  have := fj ho h5
  rw [List.getElem?_set_ne (by omega),List.getElem?_set_ne (by omega)]
 ·split
  ·rename_i h6
   have := f4 ho h6
   rw [List.getElem?_set_ne (by omega)]
  ·rfl
theorem yk {p : List Nd} (hp : bu p = true) : ∀ (k : Nat) {m : List Bool} {j : Nat},k <= j -> (cQ p k m)[j]? = m[j]?
 | 0,m,j,h => rfl
 | k + 1,m,j,h => by
  simp only [cQ]
  rw [yk hp k (by omega)]
  split
  ·rename_i x hx _; exact Mq hp ‹_› (by omega)
  ·rfl
noncomputable def Jr (p : List Nd) (m : List Bool) : Prop := ∀ (i : Nat) (x : Nd),p[i]? = some x -> m[i]? = some true -> (x.kind = 5 -> On m x.a /\ On m x.b) /\ (x.kind = 6 \/ x.kind = 7 -> On m x.a)
theorem qn {p : List Nd} (hp : bu p = true) : ∀ (k : Nat) {m : List Bool},m.length = p.length -> ∀ (i : Nat) (x : Nd),i < k -> p[i]? = some x -> (cQ p k m)[i]? = some true -> (x.kind = 5 -> On (cQ p k m) x.a /\ On (cQ p k m) x.b) /\ (x.kind = 6 \/ x.kind = 7 -> On (cQ p k m) x.a)
 | 0,m,hm,i,x,hi,_,_ => by omega
 | k + 1,m,hm,i,x,hi,hx,hr => by
  by_cases e : i = k
  ·subst e
   have ho := eH hp hx
   rw [cQ] at hr ⊢
   have hmi : m[i]? = some true := by
    rw [yk hp i (Nat.le_refl _)] at hr
    split at hr
    ·assumption
    ·exact hr
   rw [hx,hmi]
   show (_ -> On (cQ p i (cR x m)) x.a /\ On (cQ p i (cR x m)) x.b) /\ (_ -> On (cQ p i (cR x m)) x.a)
   have hlt := bw hx
   refine ⟨fun h5 => ?_,fun h6 => ?_⟩
   ·have := fj ho h5
    have ea : (cR x m)[x.a.toNat]? = some true := by
     simp only [cR,h5,if_true]
     exact xp (xm (by omega))
    have eb : (cR x m)[x.b.toNat]? = some true := by
     simp only [cR,h5,if_true]
     exact xm (by simp; omega)
    exact ⟨lt i ea,lt i eb⟩
   ·have := f4 ho h6
    have ea : (cR x m)[x.a.toNat]? = some true := by
     have h5 : ¬ x.kind = 5 := by omega
     simp only [cR,h5,h6,if_false,if_true]
     exact xm (by omega)
    exact lt i ea
  ·rw [cQ] at hr ⊢
   refine qn hp k ?_ i x (by omega) hx hr
   split
   ·rw [q0]; exact hm
   ·exact hm
theorem jk {p : List Nd} (hp : bu p = true) (rs : List Int) : Jr p (f8 p rs) := by
 intro i x hx hr
 exact qn hp p.length (by rw [mF]; simp) i x (bw hx) hx hr
theorem M8 {rs : List Int} : ∀ {m : List Bool} {r : Int},(r ∈ rs /\ r.toNat < m.length) \/ m[r.toNat]? = some true -> (nT rs m)[r.toNat]? = some true := by
 induction rs with
 | nil => intro m r h; rcases h with h | h; exact absurd h.1 (by simp); exact h
 | cons q rs ih =>
  intro m r h
  show (nT rs (m.set q.toNat true))[r.toNat]? = some true
  apply ih
  rcases h with ⟨h,hl⟩ | h
  ·rcases List.mem_cons.1 h with rfl | h
   ·right; simp [hl]
   ·left; exact ⟨h,by simpa using hl⟩
  ·right; exact xp h
theorem pJ {p : List Nd} {rs : List Int} (hr : dl p rs = true) : ∀ r ∈ rs,On (f8 p rs) r := by
 intro r h
 have := lb hr r h
 exact lt _ (M8 (.inl ⟨h,by simp; omega⟩))

theorem uA {q : List Nd} (hp : bu q = true) {m : List Bool} (hc : Jr q m) (hm : m.length = q.length) (d d' : Int) : ∀ (k : Nat) (pre pre' : List Int) (acc : List Nd),pre.length = pre'.length -> pre.length + k = q.length -> (∀ j : Nat,m[j]? = some true -> pre[j]? = pre'[j]?) ->
  (fF d q m k pre acc).2 = (fF d' q m k pre' acc).2 /\ ∀ j : Nat,m[j]? = some true -> (fF d q m k pre acc).1[j]? = (fF d' q m k pre' acc).1[j]?
 | 0,pre,pre',acc,hl,hk,h => ⟨rfl,h⟩
 | k + 1,pre,pre',acc,hl,hk,h => by
  obtain ⟨x,hx⟩ := aE (l := q) (i := pre.length) (by omega)
  obtain ⟨b,hb⟩ := aE (l := m) (i := pre.length) (by omega)
  have step : ∀ (u u' : Int),(b = true -> u = u') -> ∀ j : Nat,m[j]? = some true -> (pre ++ [u])[j]? = (pre' ++ [u'])[j]? := by
   intro u u' huu j hj
   rcases Nat.lt_trichotomy j pre.length with h1 | h1 | h1
   ·rw [List.getElem?_append_left h1,List.getElem?_append_left (by omega)]; exact h j hj
   ·subst h1
    rw [hb] at hj; cases hj
    rw [List.getElem?_append_right (Nat.le_refl _),hl,List.getElem?_append_right (Nat.le_refl _),huu rfl]
   ·rw [List.getElem?_eq_none (by simp; omega),List.getElem?_eq_none (by simp; omega)]
  have hb' := hb
  have hx' := hx
  rw [hl] at hb' hx'
  simp only [fF,hx,hb,hx',hb']
  cases b with
  | false => exact uA hp hc hm d d' k _ _ acc (by simp; omega) (by simp; omega) (step d d' (fun h => by cases h))
  | true =>
   have hcl := hc _ x hx hb
   have e : bV pre x = bV pre' x := by
    unfold bV
    split
    ·rename_i h5
     have h1 := h _ (hcl.1 h5).1
     have h2 := h _ (hcl.1 h5).2
     simp only [List.getD_eq_getElem?_getD,h1,h2]
    ·split
     ·rename_i h6
      have h1 := h _ (hcl.2 h6)
      simp only [List.getD_eq_getElem?_getD,h1]
     ·rfl
   have ih := uA hp hc hm d d' k (pre ++ [(acc.length : Int)]) (pre' ++ [(acc.length : Int)]) (acc ++ [bV pre x]) (by simp; omega) (by simp; omega) (step _ _ (fun _ => rfl))
   rw [e] at ih
   simp only [e]
   exact ih
theorem IZ {q : List Nd} (hp : bu q = true) {rs : List Int} (hr : dl q rs = true) (d d' : Int) : dv d q rs = dv d' q rs := by
 have h := uA hp (jk hp rs) (gJ q rs) d d' q.length [] [] [] rfl (Nat.zero_add _) (fun _ _ => rfl)
 unfold dv
 refine Prod.ext h.1 ?_
 apply List.map_congr_left
 intro r hm
 have := h.2 r.toNat (pJ hr r hm)
 simp only [List.getD_eq_getElem?_getD]
 exact congrArg (fun o => Option.getD o 0) this
end Go.Eng
/-! decimal digits,on both sides -/
namespace Go.Eng
open Go.Proofs Go.Proofs.Tryz

theorem Rx (n : Nat) : Int.tdiv (n : Int) 10 = ((n / 10 : Nat) : Int) := by
 rw [Int.tdiv_eq_ediv_of_nonneg (by omega)]; omega
theorem RE (n : Nat) : Int.tmod (n : Int) 10 = ((n % 10 : Nat) : Int) := by
 rw [Int.tmod_eq_emod_of_nonneg (by omega)]; omega
theorem LG {a b : List UInt8} (ha : a.length <= 1000) (hb : b.length <= 1000) : decide (ni ((mk a).size + (mk b).size) <= LIM) = true :=
 decide_eq_true (by rw [bh,af,af]; simp only [ni]; omega)
theorem yl {n : Nat} (h : n < 1000000000000000000) : (nq n).length <= 20 := by
 have := IA 18 n (by omega)
 omega
theorem Qb {d : Nat} (h : d < 10) : IntKind.wrap .u8 (IntKind.wrap .i64 (48 + (d : Int))) = 48 + (d : Int) := by
 rw [w64 (by omega) (by omega),sR (by omega) (by omega)]
theorem Gd : ∀ (n : Nat) (acc : List UInt8),n < 1000000000000000000 -> acc.length + (if n = 0 then [] else nq n).length <= 1000 -> gq (n : Int) (mk acc) = some (.str (mk ((if n = 0 then [] else nq n) ++ acc)),[]) := by
 intro n
 induction n using Nat.strongRecOn with
 | _ n ih =>
  intro acc hn hl
  by_cases h0 : n = 0
  ·subst h0
   rw [j3,av (by rfl),if_pos rfl]; rfl
  ·have hd : nq n = (if n / 10 = 0 then [] else nq (n / 10)) ++ [UInt8.ofNat (48 + n % 10)] := by
    by_cases h : n < 10
    ·rw [eK h,if_pos (by omega),show n % 10 = n by omega]; rfl
    ·rw [pn h,if_neg (by omega)]
   rw [if_neg h0,hd] at hl
   simp only [lnA,lnC,lnN] at hl
   rw [j3,aC (decide_eq_true (by omega)),au (by decide),RE,Qb (by omega),JW]
   have e : UInt8.ofNat (48 + ((n % 10 : Nat) : Int)).toNat = UInt8.ofNat (48 + n % 10) := by congr 1
   rw [e,au (LG (by simp) (by omega)),au (by decide),Rx,w64 (by omega) (by omega),zH,ih (n / 10) (by omega) _ (by omega) (by simp only [lnA,lnC,lnN]; omega),if_neg h0,hd]
   simp
theorem tz {n : Nat} (h : n < 1000000000000000000) : V 202 [.int .i64 (n : Int)] = some (.str (mk (nq n)),[]) := by
 rw [pC,av (decide_eq_false (by omega))]
 by_cases h0 : n = 0
 ·subst h0
  rw [aC (by rfl),eK (by omega)]; rfl
 ·have := Gd n [] h (by have := yl h; rw [if_neg h0]; simp; omega)
  rw [if_neg h0,List.append_nil] at this
  rw [av (by simp; omega)]
  exact this
theorem xR {n : Int} (h : n.natAbs < 1000000000000000000) : V 202 [.int .i64 n] = some (.str (mk (oC n)),[]) := by
 by_cases h0 : n < 0
 ·have hd := tz h
  rw [pC,aC (decide_eq_true h0),show (0 : Int) - n = (n.natAbs : Int) by omega,w64 (by omega) (by omega),mC hd]
  rw [<- show mk [45] = ⟨#[45]⟩ from rfl,au (LG (a := [45]) (by simp) (by have := yl h; omega)),zH,oC,if_pos h0]
  rfl
 ·have := tz h
  rw [show (n.natAbs : Int) = n by omega] at this
  rw [this,oC,if_neg h0]
end Go.Eng
/-! what is written of a value: the reference's side -/
namespace Go.Eng
open Go.Proofs Go.Proofs.Tryz

noncomputable def Sa (x : Nd) : List UInt8 :=
 if x.kind = 1 then [40,41]
 else if x.kind = 2 then (if x.n = 1 then [35,116] else [35,102])
 else if x.kind = 3 then oC x.n
 else if x.kind = 4 then x.s.data.toList
 else if x.kind = 6 then [35,102,117,110] ++ oC x.n
 else if x.kind = 7 then [35,107,111,110,116] ++ oC x.n
 else if x.kind = 8 then [35,112,114,105,109] ++ oC x.n
 else [35,112,105,100] ++ oC x.n
noncomputable def wr (p : List Nd) : Nat -> Bool -> Nat -> List UInt8 -> List UInt8
 | 0,_,_,out => out
 | g + 1,false,v,out => if out.length > 400 then out else
  match p[v]? with
  | some x => if x.kind = 5 then wr p g true x.b.toNat (wr p g false x.a.toNat (out ++ [40])) else out ++ Sa x
  | none => out
 | g + 1,true,v,out =>
  match p[v]? with
  | some x => if x.kind = 5 /\ out.length <= 400 then wr p g true x.b.toNat (wr p g false x.a.toNat (out ++ [32]))
   else if x.kind = 1 then out ++ [41] else wr p g false v (out ++ [32,46,32]) ++ [41]
  | none => out
theorem PB {s : ByteArray} (h : qQ s = true) : s.size <= 12 := by
 simp only [qQ,Bool.and_eq_true,wi,decide_eq_true_eq] at h; omega
theorem Pa {x : Nd} {h : Int} (ho : okN x h = true) (hk : x.kind = 4) : qQ x.s = true := by
 simp [okN,hk] at ho; exact ho.2.1
theorem NV {x : Nd} {h : Int} (ho : okN x h = true) : 1 <= x.kind /\ x.kind <= 9 := by
 unfold okN at ho
 repeat' split at ho
 all_goals (first | omega | (cases ho))
end Go.Eng
/-! what is written of a value: the program's side,as plain lists -/
namespace Go.Eng
open Go.Proofs Go.Proofs.Tryz

end Go.Eng
/-! what is written of a value: the program's side -/
namespace Go.Eng
open Go.Proofs Go.Proofs.Tryz

theorem lit (l : List UInt8) : (ByteArray.mk l.toArray) = mk l := rfl
end Go.Eng
/-! code and machines: when they are right,on both sides -/
namespace Go.Eng
open Go.Proofs Go.Proofs.Tryz
set_option maxHeartbeats 4000000

structure In where
 op : Int
 n : Int
 i : Int
 s : ByteArray
structure Df where
 name : ByteArray
 at' : Int
 args : Int
structure Cd where
 pool : List Nd
 list : List In
 defs : List Df
noncomputable abbrev eIn (x : In) : D := .agg [.int .i64 x.op,.int .i64 x.n,.int .i64 x.i,.str x.s]
noncomputable abbrev eDf (x : Df) : D := .agg [.str x.name,.int .i64 x.at',.int .i64 x.args]
noncomputable abbrev eCd (c : Cd) : D := .agg [.rs (5,0) (c.pool.map eN),.rs (4,0) (c.list.map eIn),.rs (3,0) (c.defs.map eDf)]
noncomputable abbrev oCd (c : Cd) : D := .agg [.os (5,0) (c.pool.map eN),.os (4,0) (c.list.map eIn),.os (3,0) (c.defs.map eDf)]
structure FitsC (c : Cd) : Prop where
 pool : fW c.pool
 plen : c.pool.length < 4611686018427387904
 list : ∀ x ∈ c.list,x.s.size < 4611686018427387904
 llen : c.list.length < 4611686018427387904
 defs : ∀ x ∈ c.defs,x.name.size < 4611686018427387904
 dlen : c.defs.length < 4611686018427387904
section
variable {R : Type}
end
noncomputable def pc (c : Cd) (s : ByteArray) : Int := uK (fun d : Df => ax d.name s) c.defs
theorem re {l : List Df} (hl : l.length < 4611686018427387904) (s : ByteArray) : ∀ (k i : Nat),i + k = l.length -> fG (l.map eDf) s (ni (l.map eDf).length) (i : Int) = some (.int .i64 (f7 (fun d : Df => ax d.name s) l i),[])
 | 0,i,hi => by
  rw [i6,jE (by omega)]
  simp (disch := first | omega | (simp only [lnA,lnC,lnN,lnM,af,aa]; omega)) only [↓al,cZ,lnM,aa]
 | k + 1,i,hi => by
  obtain ⟨x,hx⟩ := aE (l := l) (i := i) (by omega)
  have ih := re hl s k (i + 1) (by omega)
  have hd : V 179 [eDf x,.bp [.str s]] = some (.bool (ax x.name s),[]) := by rw [NU]
  have hw : IntKind.wrap IntKind.i64 ((i : Int) + 1) = ((i + 1 : Nat) : Int) := dd (by omega)
  rw [i6]
  cases h : ax x.name s with
  | true => rw [jz hx h]; rw [h] at hd; simp (disch := first | omega | (simp only [lnA,lnC,lnN,lnM,af,aa]; omega)) only [↓ae,ah,↓am,↓ay,↓aj,↓ai,↓ak,↓ap,↓aF,↓aw,↓aR,aW,Bool.and_true,lnM,aa,↓aq hx,hd]
  | false =>
   rw [h] at hd
   rw [iC hx h,<- ih,lnM]; simp (disch := first | omega | (simp only [lnA,lnC,lnN,lnM,af,aa]; omega)) only [↓ae,ah,↓am,↓al,↓ay,↓aj,↓ai,↓ak,↓ap,↓aF,↓aw,↓aR,aW,Bool.and_true,aa,↓aq hx,hd,hw]
theorem sC {c : Cd} (hf : FitsC c) (s : ByteArray) : V 125 [eCd c,.str s] = some (.int .i64 (pc c s),[]) := by
 have h := re hf.dlen s c.defs.length 0 (Nat.zero_add _)
 rw [iu,Int.natCast_zero] at h
 have h2 : V 178 [.rs (3,0) (c.defs.map eDf),.fn 179 [.bp [.str s]]] = some (.int .i64 (pc c s),[]) := by
  rw [vh]; exact h
 rw [GV]
 simp (disch := first | omega | (simp only [lnA,lnC,lnN,lnM,af,aa]; omega)) only [↓ae,ah,↓aj,↓ak,h2]
theorem q8 {l : List Df} (hl : l.length < 4611686018427387904) (s : ByteArray) (p q : List D) : ∀ (k i : Nat),i + k = l.length -> jo s (i : Int) p q (l.map eDf) = some (.int .i64 (f7 (fun d : Df => ax d.name s) l i),[])
 | 0,i,hi => by
  rw [nG,jE (by omega)]
  simp (disch := first | omega | (simp only [lnA,lnC,lnN,lnM,af,aa]; omega)) only [↓al,cZ,lnM,aa]
 | k + 1,i,hi => by
  obtain ⟨x,hx⟩ := aE (l := l) (i := i) (by omega)
  have ih := q8 hl s p q k (i + 1) (by omega)
  have hw : IntKind.wrap IntKind.i64 ((i : Int) + 1) = ((i + 1 : Nat) : Int) := dd (by omega)
  rw [nG]
  cases h : ax x.name s with
  | true => rw [jz hx h]; simp (disch := first | omega | (simp only [lnA,lnC,lnN,lnM,af,aa]; omega)) only [↓am,↓ay,↓aF,↓aw,↓qz,qz,↓aR,aW,Bool.and_true,lnM,aa,↓aq hx,h]
  | false => rw [iC hx h,<- ih]; simp (disch := first | omega | (simp only [lnA,lnC,lnN,lnM,af,aa]; omega)) only [↓am,↓al,↓ay,↓aF,↓aw,↓qz,qz,↓aR,aW,Bool.and_true,lnM,aa,↓aq hx,h,hw]
theorem s6 {c : Cd} (hf : FitsC c) (s : ByteArray) : V 129 [eCd c,.str s] = some (.int .i64 (pc c s),[]) := by
 have h := q8 hf.dlen s (c.pool.map eN) (c.list.map eIn) c.defs.length 0 (Nat.zero_add _)
 rw [iu,Int.natCast_zero] at h
 rw [GN]
 exact h

noncomputable def Jn (c : Cd) (x : In) (k : Int) : Bool :=
 if x.op = 1 then wi x.n 0 ((c.pool.length : Int) - 1) && (x.i == 0 && nz x.s)
 else if x.op = 2 then wi x.n 0 20 && (wi x.i 0 3 && nz x.s)
 else if x.op = 3 then x.n == 0 && (x.i == 0 && qQ x.s)
 else if x.op = 4 \/ x.op = 5 then wi x.n (k + 1) (c.list.length : Int) && (x.i == 0 && nz x.s)
 else if x.op = 6 then wi x.n (k + 1) ((c.list.length : Int) - 1) && (wi x.i 0 4 && nz x.s)
 else if x.op = 7 then x.n == 0 && (wi x.i 0 4 && nz x.s)
 else if x.op = 8 \/ x.op = 9 then x.n == 0 && (x.i == 0 && nz x.s)
 else false
theorem Q7 (n k h : Int) : wi n (k + 1) h = (decide (n > k) && decide (n <= h)) := by
 unfold wi
 congr 1
theorem RF (n k h : Int) : wi n (k + 1) (h - 1) = (decide (n > k) && decide (n < h)) := by
 unfold wi
 congr 1
 exact decide_eq_decide.2 (by omega)
theorem xa {c : Cd} (hf : FitsC c) {k : Nat} {x : In} (hx : c.list[k]? = some x) : V 123 [eCd c,.int .i64 (k : Int)] = some (.bool (Jn c x k),[]) := by
 have hk := bw hx
 have hl := hf.llen
 have hp := hf.plen
 have hs := hf.list x (List.mem_of_getElem? hx)
 rw [y8]
 unfold Jn
 have hnm := mA hs
 have hnode := lj hp x.n
 by_cases h1 : x.op = 1
 ·rw [if_pos h1]; simp (disch := first | omega | (simp only [lnA,lnC,lnN,lnM,af,aa]; omega)) only [↓ae,ah,↓am,↓ay,↓aj,↓ai,↓ak,↓ap,↓aF,↓aw,↓aR,aW,bc,Bool.and_true,lnM,aa,↓aq hx,hnode]; simp only [cj]; rfl
 rw [if_neg h1]
 by_cases h2 : x.op = 2
 ·rw [if_pos h2]; simp (disch := first | omega | (simp only [lnA,lnC,lnN,lnM,af,aa]; omega)) only [↓ae,ah,↓am,↓al,↓ay,↓aj,↓ai,↓ak,↓ap,↓aF,↓aw,↓aR,aW,bc,bg,Bool.and_true,lnM,aa,↓aq hx,bW]; simp only [cj]; rfl
 rw [if_neg h2]
 by_cases h3 : x.op = 3
 ·rw [if_pos h3]; simp (disch := first | omega | (simp only [lnA,lnC,lnN,lnM,af,aa]; omega)) only [↓ae,ah,↓am,↓al,↓ay,↓aj,↓ai,↓ak,↓ap,↓aF,↓aw,↓aR,aW,bc,bg,Bool.and_true,lnM,aa,↓aq hx,hnm]; simp only [cj]
 rw [if_neg h3]
 by_cases h4 : x.op = 4
 ·rw [if_pos (.inl h4)]; simp (disch := first | omega | (simp only [lnA,lnC,lnN,lnM,af,aa]; omega)) only [↓ae,ah,↓am,↓al,↓ay,↓aj,↓ai,↓ak,↓ap,↓aF,↓aw,↓aR,aW,bc,bg,Bool.and_true,lnM,wS,aa,↓aq hx,bW]; simp only [cj]; rfl
 by_cases h5 : x.op = 5
 ·rw [if_pos (.inr h5)]; simp (disch := first | omega | (simp only [lnA,lnC,lnN,lnM,af,aa]; omega)) only [↓ae,ah,↓am,↓al,↓ay,↓aj,↓ai,↓ak,↓ap,↓aF,↓aw,↓aR,aW,bc,bg,Bool.and_true,lnM,wS,aa,↓aq hx,bW]; simp only [cj]; rfl
 rw [if_neg (by omega)]
 by_cases h6 : x.op = 6
 ·rw [if_pos h6]; simp (disch := first | omega | (simp only [lnA,lnC,lnN,lnM,af,aa]; omega)) only [↓ae,ah,↓am,↓al,↓ay,↓aj,↓ai,↓ak,↓ap,↓aF,↓aw,↓aR,aW,bc,bg,Bool.and_true,lnM,wS,aa,↓aq hx,bW]; simp only [cj]; rfl
 rw [if_neg h6]
 by_cases h7 : x.op = 7
 ·rw [if_pos h7]; simp (disch := first | omega | (simp only [lnA,lnC,lnN,lnM,af,aa]; omega)) only [↓ae,ah,↓am,↓al,↓ay,↓aj,↓ai,↓ak,↓ap,↓aF,↓aw,↓aR,aW,bc,bg,Bool.and_true,lnM,aa,↓aq hx,bW]; simp only [cj]; rfl
 rw [if_neg h7]
 by_cases h8 : x.op = 8
 ·rw [if_pos (.inl h8)]; simp (disch := first | omega | (simp only [lnA,lnC,lnN,lnM,af,aa]; omega)) only [↓am,↓al,↓ay,↓aj,↓ai,↓ak,↓aF,↓aw,↓aR,aW,bc,bg,Bool.and_true,lnM,aa,↓aq hx]; simp only [cj]; rfl
 by_cases h9 : x.op = 9
 ·rw [if_pos (.inr h9)]; simp (disch := first | omega | (simp only [lnA,lnC,lnN,lnM,af,aa]; omega)) only [↓am,↓al,↓ay,↓aj,↓ai,↓ak,↓aF,↓aw,↓aR,aW,bc,bg,Bool.and_true,lnM,aa,↓aq hx]; simp only [cj]; rfl
 rw [if_neg (by omega)]
 simp (disch := first | omega | (simp only [lnA,lnC,lnN,lnM,af,aa]; omega)) only [↓al,↓ay,↓aj,↓ai,↓ak,↓aF,↓aw,↓aR,aW,bg,Bool.and_true,lnM,aa,↓aq hx]
theorem M9 {c : Cd} (hf : FitsC c) {k : Nat} {x : In} (hx : c.list[k]? = some x) : V 127 [eCd c,.int .i64 (k : Int)] = some (.bool (Jn c x k),[]) := by
 have hk := bw hx
 have hl := hf.llen
 have hp := hf.plen
 have hs := hf.list x (List.mem_of_getElem? hx)
 have hself : ax x.s x.s = true := by rw [kV]; simp
 rw [y7]
 unfold Jn
 have hnm := jp hs
 have hnode := mg hp x.n
 by_cases h1 : x.op = 1
 ·rw [if_pos h1]; simp (disch := first | omega | (simp only [lnA,lnC,lnN,lnM,af,aa]; omega)) only [↓ae,ah,↓am,↓ay,↓aj,↓ai,↓ak,↓ap,↓aF,↓aw,↓aR,aW,bc,Bool.true_and,Bool.and_true,lnM,aa,↓aq hx,hnode]; simp only [cj]
  show some (D.bool (_ && nz x.s && _),_) = _
  cases wi x.n 0 ((c.pool.length : Int) - 1) <;> cases x.i == 0 <;> cases nz x.s <;> rfl
 rw [if_neg h1]
 by_cases h2 : x.op = 2
 ·rw [if_pos h2]; simp (disch := first | omega | (simp only [lnA,lnC,lnN,lnM,af,aa]; omega)) only [↓ae,ah,↓am,↓al,↓ay,↓aj,↓ai,↓ak,↓ap,↓aF,↓aw,↓aR,aW,bc,bg,Bool.and_true,lnM,aa,↓aq hx,dP]; simp only [cj]
  show some (D.bool (nz x.s && _),_) = _
  cases wi x.n 0 20 <;> cases wi x.i 0 3 <;> cases nz x.s <;> rfl
 rw [if_neg h2]
 by_cases h3 : x.op = 3
 ·rw [if_pos h3]; simp (disch := first | omega | (simp only [lnA,lnC,lnN,lnM,af,aa]; omega)) only [↓ae,ah,↓am,↓al,↓ay,↓aj,↓ai,↓ak,↓ap,↓aF,↓aw,↓aR,aW,bc,bg,Bool.true_and,Bool.and_true,lnM,aa,↓aq hx,hnm,hself]; simp only [cj]
  cases x.n == 0 <;> cases x.i == 0 <;> cases qQ x.s <;> rfl
 rw [if_neg h3]
 by_cases h4 : x.op = 4
 ·rw [if_pos (.inl h4),Q7]; simp (disch := first | omega | (simp only [lnA,lnC,lnN,lnM,af,aa]; omega)) only [↓am,↓al,↓ay,↓aj,↓ai,↓ak,↓aF,↓aw,↓aR,aW,bc,bg,Bool.true_and,Bool.and_true,lnM,aa,↓aq hx]; simp only [cj]
  show some (D.bool (_ && nz x.s && _),_) = _
  cases decide (x.n > (k : Int)) <;> cases decide (x.n <= (c.list.length : Int)) <;> cases x.i == 0 <;> cases nz x.s <;> rfl
 by_cases h5 : x.op = 5
 ·rw [if_pos (.inr h5),Q7]; simp (disch := first | omega | (simp only [lnA,lnC,lnN,lnM,af,aa]; omega)) only [↓am,↓al,↓ay,↓aj,↓ai,↓ak,↓aF,↓aw,↓aR,aW,bc,bg,Bool.true_and,Bool.and_true,lnM,aa,↓aq hx]; simp only [cj]
  show some (D.bool (_ && nz x.s && _),_) = _
  cases decide (x.n > (k : Int)) <;> cases decide (x.n <= (c.list.length : Int)) <;> cases x.i == 0 <;> cases nz x.s <;> rfl
 rw [if_neg (by omega)]
 by_cases h6 : x.op = 6
 ·rw [if_pos h6,RF]; simp (disch := first | omega | (simp only [lnA,lnC,lnN,lnM,af,aa]; omega)) only [↓ae,ah,↓am,↓al,↓ay,↓aj,↓ai,↓ak,↓ap,↓aF,↓aw,↓aR,aW,bc,bg,Bool.and_true,lnM,aa,↓aq hx,dP]; simp only [cj]
  show some (D.bool (nz x.s && _),_) = _
  cases decide (x.n > (k : Int)) <;> cases decide (x.n < (c.list.length : Int)) <;> cases wi x.i 0 4 <;> cases nz x.s <;> rfl
 rw [if_neg h6]
 by_cases h7 : x.op = 7
 ·rw [if_pos h7]; simp (disch := first | omega | (simp only [lnA,lnC,lnN,lnM,af,aa]; omega)) only [↓ae,ah,↓am,↓al,↓ay,↓aj,↓ai,↓ak,↓ap,↓aF,↓aw,↓aR,aW,bc,bg,Bool.true_and,Bool.and_true,lnM,aa,↓aq hx,dP]; simp only [cj]
  show some (D.bool (_ && nz x.s && _),_) = _
  cases x.n == 0 <;> cases wi x.i 0 4 <;> cases nz x.s <;> rfl
 rw [if_neg h7]
 by_cases h8 : x.op = 8
 ·rw [if_pos (.inl h8)]; simp (disch := first | omega | (simp only [lnA,lnC,lnN,lnM,af,aa]; omega)) only [↓am,↓al,↓ay,↓aj,↓ai,↓ak,↓aF,↓aw,↓aR,aW,bc,bg,Bool.true_and,Bool.and_true,lnM,aa,↓aq hx]; rfl
 by_cases h9 : x.op = 9
 ·rw [if_pos (.inr h9)]; simp (disch := first | omega | (simp only [lnA,lnC,lnN,lnM,af,aa]; omega)) only [↓am,↓al,↓ay,↓aj,↓ai,↓ak,↓aF,↓aw,↓aR,aW,bc,bg,Bool.true_and,Bool.and_true,lnM,aa,↓aq hx]; rfl
 rw [if_neg (by omega)]
 simp (disch := first | omega | (simp only [lnA,lnC,lnN,lnM,af,aa]; omega)) only [↓al,↓ay,↓aj,↓ai,↓ak,↓aF,↓aw,↓aR,aW,bg,Bool.and_true,lnM,aa,↓aq hx]

noncomputable def na (c : Cd) : Nat -> Nat -> Bool
 | _,0 => true
 | i,k + 1 => (match c.list[i]? with | some x => Jn c x i | none => true) && na c (i + 1) k
noncomputable def Re (c : Cd) (d : Df) (i : Int) : Bool := qQ d.name && (pc c d.name == i && (wi d.at' 0 ((c.list.length : Int) - 1) && wi d.args 0 4))
noncomputable def jB (c : Cd) : Nat -> Nat -> Bool
 | _,0 => true
 | i,k + 1 => (match c.defs[i]? with | some d => Re c d i | none => true) && jB c (i + 1) k
noncomputable def gx (c : Cd) : Bool := bu c.pool && (decide (c.list.length <= 400) && (decide (c.defs.length <= 20) && (na c 0 c.list.length && jB c 0 c.defs.length)))
theorem pw {c : Cd} (hf : FitsC c) : ∀ (k i : Nat),i + k = c.defs.length -> gL (c.defs.map eDf) (ni (c.defs.map eDf).length) (i : Int) (c.pool.map eN) (c.list.map eIn) (c.defs.map eDf) = some (.bool (jB c i k),[])
 | 0,i,hi => by
  have hd := hf.dlen
  rw [kr]
  simp (disch := first | omega | (simp only [lnA,lnC,lnN,lnM,af,aa]; omega)) only [↓al,cZ,lnM,aa]
  rfl
 | k + 1,i,hi => by
  have hd := hf.dlen
  have hll := hf.llen
  obtain ⟨x,hx⟩ := aE (l := c.defs) (i := i) (by omega)
  have ih := pw hf k (i + 1) (by omega)
  rw [lnM] at ih
  have hw : IntKind.wrap IntKind.i64 ((i : Int) + 1) = ((i + 1 : Nat) : Int) := dd (by omega)
  have hdf := sC hf x.name
  have hnm := mA (hf.defs x (List.mem_of_getElem? hx))
  rw [kr]
  simp only [jB,hx,Re]
  cases e1 : qQ x.name with
  | false => rw [e1] at hnm; simp (disch := first | omega | (simp only [lnA,lnC,lnN,lnM,af,aa]; omega)) only [↓ae,ah,↓am,↓ay,↓aj,↓ai,↓ak,↓ap,↓aF,↓aw,↓aR,aW,Bool.and_true,Bool.false_and,Bool.not_false,lnM,aa,↓aq hx,hnm]
  | true =>
   rw [e1] at hnm
   by_cases e2 : pc c x.name = (i : Int)
   ·rw [e2] at hdf
    simp (disch := first | omega | (simp only [lnA,lnC,lnN,lnM,af,aa]; omega)) only [↓ae,ah,↓am,↓al,↓ay,↓aj,↓ai,↓ak,↓ap,↓aF,↓aw,↓aR,aW,bc,pu,Bool.true_and,Bool.and_true,Bool.not_true,lnM,wS,aa,↓aq hx,hnm,hdf,e2,bW,hw,ih]
    cases wi x.at' 0 ((c.list.length : Int) - 1) <;> cases wi x.args 0 4 <;> rfl
   ·simp (disch := first | omega | (simp only [lnA,lnC,lnN,lnM,af,aa]; omega)) only [↓ae,ah,↓am,↓al,↓ay,↓aj,↓ai,↓ak,↓ap,↓aF,↓aw,↓aR,aW,bg,pi,Bool.and_true,Bool.false_and,Bool.and_false,Bool.not_true,lnM,aa,↓aq hx,hnm,hdf]
theorem qg {c : Cd} (hf : FitsC c) : ∀ (k i : Nat),i + k = c.defs.length -> ir (i : Int) (c.pool.map eN) (c.list.map eIn) (c.defs.map eDf) = some (.bool (jB c i k),[])
 | 0,i,hi => by
  have hd := hf.dlen
  rw [lY]
  simp (disch := first | omega | (simp only [lnA,lnC,lnN,lnM,af,aa]; omega)) only [↓al,cZ,lnM,aa]
  rfl
 | k + 1,i,hi => by
  have hd := hf.dlen
  have hll := hf.llen
  obtain ⟨x,hx⟩ := aE (l := c.defs) (i := i) (by omega)
  have ih := qg hf k (i + 1) (by omega)
  have hw : IntKind.wrap IntKind.i64 ((i : Int) + 1) = ((i + 1 : Nat) : Int) := dd (by omega)
  have hdf := s6 hf x.name
  have hnm := jp (hf.defs x (List.mem_of_getElem? hx))
  rw [lY]
  simp only [jB,hx,Re]
  cases e1 : qQ x.name with
  | false => rw [e1] at hnm; simp (disch := first | omega | (simp only [lnA,lnC,lnN,lnM,af,aa]; omega)) only [↓ae,ah,↓am,↓ay,↓aj,↓ai,↓ak,↓ap,↓aF,↓aw,↓aR,aW,Bool.and_true,Bool.false_and,Bool.not_false,lnM,aa,↓aq hx,hnm]
  | true =>
   rw [e1] at hnm
   by_cases e2 : pc c x.name = (i : Int)
   ·rw [e2] at hdf
    simp (disch := first | omega | (simp only [lnA,lnC,lnN,lnM,af,aa]; omega)) only [↓ae,ah,↓am,↓al,↓ay,↓aj,↓ai,↓ak,↓ap,↓aF,↓aw,↓aR,aW,bc,pu,Bool.true_and,Bool.and_true,Bool.not_true,lnM,wS,aa,↓aq hx,hnm,hdf,e2,dP,hw,ih]
    cases wi x.at' 0 ((c.list.length : Int) - 1) <;> cases wi x.args 0 4 <;> rfl
   ·simp (disch := first | omega | (simp only [lnA,lnC,lnN,lnM,af,aa]; omega)) only [↓ae,ah,↓am,↓al,↓ay,↓aj,↓ai,↓ak,↓ap,↓aF,↓aw,↓aR,aW,bg,pi,Bool.and_true,Bool.false_and,Bool.and_false,Bool.not_true,lnM,aa,↓aq hx,hnm,hdf]
theorem ru {c : Cd} (hf : FitsC c) : ∀ (k i : Nat),i + k = c.list.length -> iK (ni (c.list.map eIn).length) (i : Int) (c.pool.map eN) (c.list.map eIn) (c.defs.map eDf) = some (.bool (na c i k && jB c 0 c.defs.length),[])
 | 0,i,hi => by
  have hll := hf.llen
  have h := pw hf c.defs.length 0 (Nat.zero_add _)
  rw [Int.natCast_zero,lnM] at h
  rw [ly]
  simp (disch := first | omega | (simp only [lnA,lnC,lnN,lnM,af,aa]; omega)) only [↓al,cZ,lnM,aa,h]
  rfl
 | k + 1,i,hi => by
  have hll := hf.llen
  obtain ⟨x,hx⟩ := aE (l := c.list) (i := i) (by omega)
  have ih := ru hf k (i + 1) (by omega)
  rw [lnM] at ih
  have hw : IntKind.wrap IntKind.i64 ((i : Int) + 1) = ((i + 1 : Nat) : Int) := dd (by omega)
  have hi := xa hf hx
  rw [ly]
  simp only [na,hx]
  cases e1 : Jn c x i with
  | false => rw [e1] at hi; simp (disch := first | omega | (simp only [lnA,lnC,lnN,lnM,af,aa]; omega)) only [↓ae,ah,↓am,↓aj,↓ap,aW,Bool.false_and,Bool.not_false,lnM,aa,hi]
  | true => rw [e1] at hi; simp (disch := first | omega | (simp only [lnA,lnC,lnN,lnM,af,aa]; omega)) only [↓ae,ah,↓am,↓al,↓aj,↓ap,aW,Bool.true_and,Bool.not_true,lnM,aa,hi,hw,ih]
theorem rl {c : Cd} (hf : FitsC c) : ∀ (k i : Nat),i + k = c.list.length -> i0 (i : Int) (c.pool.map eN) (c.list.map eIn) (c.defs.map eDf) = some (.bool (na c i k && jB c 0 c.defs.length),[])
 | 0,i,hi => by
  have hll := hf.llen
  have h := qg hf c.defs.length 0 (Nat.zero_add _)
  rw [Int.natCast_zero] at h
  rw [lU]
  simp (disch := first | omega | (simp only [lnA,lnC,lnN,lnM,af,aa]; omega)) only [↓al,cZ,lnM,aa,h]
  rfl
 | k + 1,i,hi => by
  have hll := hf.llen
  obtain ⟨x,hx⟩ := aE (l := c.list) (i := i) (by omega)
  have ih := rl hf k (i + 1) (by omega)
  have hw : IntKind.wrap IntKind.i64 ((i : Int) + 1) = ((i + 1 : Nat) : Int) := dd (by omega)
  have hi := M9 hf hx
  rw [lU]
  simp only [na,hx]
  cases e1 : Jn c x i with
  | false => rw [e1] at hi; simp (disch := first | omega | (simp only [lnA,lnC,lnN,lnM,af,aa]; omega)) only [↓ae,ah,↓am,↓aj,↓ap,aW,Bool.false_and,Bool.not_false,lnM,aa,hi]
  | true => rw [e1] at hi; simp (disch := first | omega | (simp only [lnA,lnC,lnN,lnM,af,aa]; omega)) only [↓ae,ah,↓am,↓al,↓aj,↓ap,aW,Bool.true_and,Bool.not_true,lnM,aa,hi,hw,ih]
theorem rn {c : Cd} (hf : FitsC c) : V 54 [eCd c] = some (.bool (gx c),[]) := by
 have hp := gE hf.pool hf.plen
 have h := ru hf c.list.length 0 (Nat.zero_add _)
 rw [Int.natCast_zero,lnM] at h
 rw [CZ]
 unfold gx
 cases e1 : bu c.pool with
 | false => rw [e1] at hp; simp (disch := first | omega | (simp only [lnA,lnC,lnN,lnM,af,aa]; omega)) only [↓ae,ah,↓am,↓aj,↓ap,Bool.false_and,Bool.not_false,hp]
 | true =>
  rw [e1] at hp
  by_cases e2 : c.list.length <= 400
  ·by_cases e3 : c.defs.length <= 20
   ·simp (disch := first | omega | (simp only [lnA,lnC,lnN,lnM,af,aa]; omega)) only [↓ae,ah,↓al,↓aj,↓ap,aW,cZ,Bool.true_and,Bool.not_true,lnM,aa,hp,h]
   ·simp (disch := first | omega | (simp only [lnA,lnC,lnN,lnM,af,aa]; omega)) only [↓ae,ah,↓am,↓al,↓aj,↓ap,aW,cZ,Bool.false_and,Bool.and_false,Bool.not_true,lnM,aa,hp]
  ·simp (disch := first | omega | (simp only [lnA,lnC,lnN,lnM,af,aa]; omega)) only [↓ae,ah,↓am,↓al,↓aj,↓ap,aW,cZ,Bool.false_and,Bool.and_false,Bool.not_true,lnM,aa,hp]
theorem mG {c : Cd} (hf : FitsC c) : V 59 [eCd c] = some (.bool (gx c),[]) := by
 have hp := de hf.pool hf.plen
 have h := rl hf c.list.length 0 (Nat.zero_add _)
 rw [Int.natCast_zero] at h
 rw [DP]
 unfold gx
 cases e1 : bu c.pool with
 | false => rw [e1] at hp; simp (disch := first | omega | (simp only [lnA,lnC,lnN,lnM,af,aa]; omega)) only [↓ae,ah,↓am,↓aj,↓ap,Bool.false_and,Bool.not_false,hp]
 | true =>
  rw [e1] at hp
  by_cases e2 : c.list.length <= 400
  ·by_cases e3 : c.defs.length <= 20
   ·simp (disch := first | omega | (simp only [lnA,lnC,lnN,lnM,af,aa]; omega)) only [↓ae,ah,↓al,↓aj,↓ap,aW,cZ,Bool.true_and,Bool.not_true,lnM,aa,hp,h]
   ·simp (disch := first | omega | (simp only [lnA,lnC,lnN,lnM,af,aa]; omega)) only [↓ae,ah,↓am,↓al,↓aj,↓ap,aW,cZ,Bool.false_and,Bool.and_false,Bool.not_true,lnM,aa,hp]
  ·simp (disch := first | omega | (simp only [lnA,lnC,lnN,lnM,af,aa]; omega)) only [↓ae,ah,↓am,↓al,↓aj,↓ap,aW,cZ,Bool.false_and,Bool.and_false,Bool.not_true,lnM,aa,hp]

structure Mc where
 pool : List Nd
 at' : Int
 s : Int
 e : Int
 d : Int
 state : Int
 ask : Int
 arg : Int
noncomputable abbrev eMc (m : Mc) : D := .agg [.rs (5,0) (m.pool.map eN),.int .i64 m.at',.int .i64 m.s,.int .i64 m.e,.int .i64 m.d,.int .i64 m.state,.int .i64 m.ask,.int .i64 m.arg]
noncomputable abbrev oMc (m : Mc) : D := .agg [.os (5,0) (m.pool.map eN),.int .i64 m.at',.int .i64 m.s,.int .i64 m.e,.int .i64 m.d,.int .i64 m.state,.int .i64 m.ask,.int .i64 m.arg]
noncomputable def CL (p : List Nd) (v : Int) : Bool := wi v 0 ((p.length : Int) - 1)
noncomputable def Qm (c : Cd) (m : Mc) : Bool :=
 if m.state = 0 then wi m.at' 0 ((c.list.length : Int) - 1) && (m.ask == 0 && m.arg == 0)
 else if m.state = 1 then wi m.at' 0 ((c.list.length : Int) - 1) && (wi m.ask 13 19 && ((m.ask != 18) && CL m.pool m.arg))
 else if m.state = 2 then m.at' == 0 && (m.ask == 0 && CL m.pool m.arg)
 else if m.state = 3 then m.at' == 0 && (wi m.ask 1 7 && m.arg == 0)
 else false
noncomputable def J4 (c : Cd) (m : Mc) : Bool := gx c && (bu m.pool && (CL m.pool m.s && (CL m.pool m.e && (CL m.pool m.d && Qm c m))))
theorem MA {c : Cd} (hl : c.list.length < 4611686018427387904) (n : Int) : V 57 [eCd c,.int .i64 n] = some (.bool (wi n 0 ((c.list.length : Int) - 1)),[]) := by
 rw [zm]
 simp (disch := first | omega | (simp only [lnA,lnC,lnN,lnM,af,aa]; omega)) only [↓ae,ah,↓aj,↓ap,lnM,wS,aa,bW]
theorem um {c : Cd} (hf : FitsC c) {m : Mc} (hm : fW m.pool) (hl : m.pool.length < 4611686018427387904) : V 14 [eCd c,eMc m] = some (.bool (J4 c m),[]) := by
 have hc := rn hf
 have hp := gE hm hl
 have h1 := lj hl m.s
 have h2 := lj hl m.e
 have h3 := lj hl m.d
 have h4 := lj hl m.arg
 have h5 := MA hf.llen m.at'
 rw [ww]
 unfold J4 CL
 cases e1 : gx c with
 | false => rw [e1] at hc; simp (disch := first | omega | (simp only [lnA,lnC,lnN,lnM,af,aa]; omega)) only [↓ae,ah,↓am,↓aj,↓ap,Bool.false_and,Bool.not_false,hc]
 | true =>
 rw [e1] at hc
 cases e2 : bu m.pool with
 | false => rw [e2] at hp; simp (disch := first | omega | (simp only [lnA,lnC,lnN,lnM,af,aa]; omega)) only [↓ae,ah,↓am,↓al,↓aj,↓ap,Bool.false_and,Bool.and_false,Bool.not_true,Bool.not_false,hc,hp]
 | true =>
 rw [e2] at hp
 cases e3 : wi m.s 0 ((m.pool.length : Int) - 1) with
 | false => rw [e3] at h1; simp (disch := first | omega | (simp only [lnA,lnC,lnN,lnM,af,aa]; omega)) only [↓ae,ah,↓am,↓al,↓aj,↓ap,Bool.false_and,Bool.and_false,Bool.not_true,Bool.not_false,hc,hp,h1]
 | true =>
 rw [e3] at h1
 cases e4 : wi m.e 0 ((m.pool.length : Int) - 1) with
 | false => rw [e4] at h2; simp (disch := first | omega | (simp only [lnA,lnC,lnN,lnM,af,aa]; omega)) only [↓ae,ah,↓am,↓al,↓aj,↓ap,Bool.false_and,Bool.and_false,Bool.not_true,Bool.not_false,hc,hp,h1,h2]
 | true =>
 rw [e4] at h2
 cases e5 : wi m.d 0 ((m.pool.length : Int) - 1) with
 | false => rw [e5] at h3; simp (disch := first | omega | (simp only [lnA,lnC,lnN,lnM,af,aa]; omega)) only [↓ae,ah,↓am,↓al,↓aj,↓ap,Bool.false_and,Bool.and_false,Bool.not_true,Bool.not_false,hc,hp,h1,h2,h3]
 | true =>
 rw [e5] at h3
 unfold Qm CL
 by_cases s0 : m.state = 0
 ·rw [if_pos s0]; simp (disch := first | omega | (simp only [lnA,lnC,lnN,lnM,af,aa]; omega)) only [↓ae,ah,↓am,↓al,↓aj,↓ap,bc,Bool.true_and,Bool.not_true,hc,hp,h1,h2,h3,h5]; simp only [cj]
 rw [if_neg s0]
 by_cases s1 : m.state = 1
 ·rw [if_pos s1]; simp (disch := first | omega | (simp only [lnA,lnC,lnN,lnM,af,aa]; omega)) only [↓ae,ah,↓am,↓al,↓aj,↓ap,bc,bg,Bool.true_and,Bool.not_true,hc,hp,h1,h2,h3,h4,h5,bW]; simp only [cj]
 rw [if_neg s1]
 by_cases s2 : m.state = 2
 ·rw [if_pos s2]; simp (disch := first | omega | (simp only [lnA,lnC,lnN,lnM,af,aa]; omega)) only [↓ae,ah,↓am,↓al,↓aj,↓ap,bc,bg,Bool.true_and,Bool.not_true,hc,hp,h1,h2,h3,h4]; simp only [cj]
 rw [if_neg s2]
 by_cases s3 : m.state = 3
 ·rw [if_pos s3]; simp (disch := first | omega | (simp only [lnA,lnC,lnN,lnM,af,aa]; omega)) only [↓ae,ah,↓am,↓al,↓aj,↓ap,bc,bg,Bool.true_and,Bool.not_true,hc,hp,h1,h2,h3,bW]; simp only [cj]
 rw [if_neg s3]
 simp (disch := first | omega | (simp only [lnA,lnC,lnN,lnM,af,aa]; omega)) only [↓ae,ah,↓al,↓aj,↓ap,bg,Bool.and_false,Bool.not_true,hc,hp,h1,h2,h3]
theorem uf {c : Cd} (hf : FitsC c) {m : Mc} (hm : fW m.pool) (hl : m.pool.length < 4611686018427387904) : V 15 [eCd c,eMc m] = some (.bool (J4 c m),[]) := by
 have hll := hf.llen
 have hc := mG hf
 have hp := de hm hl
 have h1 := mg hl m.s
 have h2 := mg hl m.e
 have h3 := mg hl m.d
 have h4 := mg hl m.arg
 rw [wK]
 unfold J4 CL
 cases e1 : gx c with
 | false => rw [e1] at hc; simp (disch := first | omega | (simp only [lnA,lnC,lnN,lnM,af,aa]; omega)) only [↓ae,ah,↓am,↓aj,↓ap,Bool.false_and,Bool.not_false,hc]
 | true =>
 rw [e1] at hc
 cases e2 : bu m.pool with
 | false => rw [e2] at hp; simp (disch := first | omega | (simp only [lnA,lnC,lnN,lnM,af,aa]; omega)) only [↓ae,ah,↓am,↓al,↓aj,↓ap,Bool.false_and,Bool.and_false,Bool.not_true,Bool.not_false,hc,hp]
 | true =>
 rw [e2] at hp
 cases e3 : wi m.s 0 ((m.pool.length : Int) - 1) with
 | false => rw [e3] at h1; simp (disch := first | omega | (simp only [lnA,lnC,lnN,lnM,af,aa]; omega)) only [↓ae,ah,↓am,↓al,↓aj,↓ap,Bool.false_and,Bool.and_false,Bool.not_true,Bool.not_false,hc,hp,h1]
 | true =>
 rw [e3] at h1
 cases e4 : wi m.e 0 ((m.pool.length : Int) - 1) with
 | false => rw [e4] at h2; simp (disch := first | omega | (simp only [lnA,lnC,lnN,lnM,af,aa]; omega)) only [↓ae,ah,↓am,↓al,↓aj,↓ap,Bool.false_and,Bool.and_false,Bool.not_true,Bool.not_false,hc,hp,h1,h2]
 | true =>
 rw [e4] at h2
 cases e5 : wi m.d 0 ((m.pool.length : Int) - 1) with
 | false => rw [e5] at h3; simp (disch := first | omega | (simp only [lnA,lnC,lnN,lnM,af,aa]; omega)) only [↓ae,ah,↓am,↓al,↓aj,↓ap,Bool.false_and,Bool.and_false,Bool.not_true,Bool.not_false,hc,hp,h1,h2,h3]
 | true =>
 rw [e5] at h3
 unfold Qm CL
 by_cases s0 : m.state = 0
 ·rw [if_pos s0]; simp (disch := first | omega | (simp only [lnA,lnC,lnN,lnM,af,aa]; omega)) only [↓ae,ah,↓am,↓al,↓aj,↓ap,bc,Bool.true_and,Bool.not_true,lnM,wS,aa,hc,hp,h1,h2,h3,dP]; simp only [cj]
 rw [if_neg s0]
 by_cases s1 : m.state = 1
 ·rw [if_pos s1]; simp (disch := first | omega | (simp only [lnA,lnC,lnN,lnM,af,aa]; omega)) only [↓ae,ah,↓am,↓al,↓aj,↓ap,bc,bg,Bool.true_and,Bool.not_true,lnM,wS,aa,hc,hp,h1,h2,h3,h4,dP]; simp only [cj]
 rw [if_neg s1]
 by_cases s2 : m.state = 2
 ·rw [if_pos s2]; simp (disch := first | omega | (simp only [lnA,lnC,lnN,lnM,af,aa]; omega)) only [↓ae,ah,↓am,↓al,↓aj,↓ap,bc,bg,Bool.true_and,Bool.not_true,lnM,wS,aa,hc,hp,h1,h2,h3,h4,dP]; simp only [cj]
 rw [if_neg s2]
 by_cases s3 : m.state = 3
 ·rw [if_pos s3]; simp (disch := first | omega | (simp only [lnA,lnC,lnN,lnM,af,aa]; omega)) only [↓ae,ah,↓am,↓al,↓aj,↓ap,bc,bg,Bool.true_and,Bool.not_true,lnM,wS,aa,hc,hp,h1,h2,h3,dP]; simp only [cj]
 rw [if_neg s3]
 simp (disch := first | omega | (simp only [lnA,lnC,lnN,lnM,af,aa]; omega)) only [↓ae,ah,↓al,↓aj,↓ap,bg,Bool.and_false,Bool.not_true,lnM,wS,aa,hc,hp,h1,h2,h3,dP]
end Go.Eng
/-! numbers and texts as bytes,on both sides -/
namespace Go.Eng
open Go.Proofs Go.Proofs.Tryz

noncomputable def cD (n : Nat) : List UInt8 := if n <= 127 then [UInt8.ofNat n] else UInt8.ofNat (n % 128 + 128) :: cD (n / 128)
termination_by n
theorem ja {n : Nat} (h : n <= 127) : cD n = [UInt8.ofNat n] := by rw [cD,if_pos h]
theorem pW {n : Nat} (h : ¬ n <= 127) : cD n = UInt8.ofNat (n % 128 + 128) :: cD (n / 128) := by rw [cD,if_neg h]
theorem Fq : ∀ (k n : Nat),n < 128 ^ (k + 1) -> (cD n).length <= k + 1
 | 0,n,h => by rw [ja (by simp at h; omega)]; simp
 | k + 1,n,h => by
  by_cases h1 : n <= 127
  ·rw [ja h1]; simp
  ·rw [pW h1]
   have := Fq k (n / 128) (by rw [Nat.pow_succ] at h; omega)
   simp; omega
theorem ch {n : Nat} (h : n < 4611686018427387904) : (cD n).length <= 9 := Fq 8 n (by have : (128 : Nat) ^ (8 + 1) = 9223372036854775808 := rfl; omega)
theorem RL {n : Nat} (h : n < 256) : eU (UInt8.ofNat n) = D.int .u8 (n : Int) := by
 have : (UInt8.ofNat n).toNat = n := by simp; omega
 simp only [eU,this]
theorem wT (n : Nat) : Int.tmod (n : Int) 128 = ((n % 128 : Nat) : Int) := by rw [Int.tmod_eq_emod_of_nonneg (by omega)]; omega
theorem Lz (n : Nat) : Int.tdiv (n : Int) 128 = ((n / 128 : Nat) : Int) := by rw [Int.tdiv_eq_ediv_of_nonneg (by omega)]; omega
theorem La {l : List UInt8} (h : l.length < 4294967296) (x : D) : decide (ni (l.map eU ++ [x]).length <= LIM) = true :=
 decide_eq_true (by rw [bh]; simp only [ni,lnA,lnM,lnC,lnN]; omega)
theorem DI {l : List UInt8} {n : Nat} (h : n < 256) : l.map eU ++ [D.int .u8 (n : Int)] = (l ++ [UInt8.ofNat n]).map eU := by
 rw [List.map_append,List.map_cons,List.map_nil,RL h]
theorem zx : ∀ (n : Nat) (out : List UInt8),n < 4611686018427387904 -> out.length + (cD n).length < 4294967296 -> iG (n : Int) (out.map eU) = some (.os (1,0) ((out ++ cD n).map eU),[]) := by
 intro n
 induction n using Nat.strongRecOn with
 | _ n ih =>
  intro out hn hl
  rw [t6]
  by_cases h : n <= 127
  ·rw [av (decide_eq_false (by omega)),sR (by omega) (by omega),au (La (by omega) _),aU,DI (by omega),ja h]
  ·rw [pW h] at hl ⊢
   rw [lnC] at hl
   have e : ((n % 128 : Nat) : Int) + 128 = ((n % 128 + 128 : Nat) : Int) := by omega
   rw [aC (decide_eq_true (by omega)),au (by decide),wT,w64 (by omega) (by omega),sR (by omega) (by omega),au (La (by omega) _),aU,au (by decide),e,DI (by omega),Lz,w64 (by omega) (by omega),ih (n / 128) (by omega) _ (by omega) (by simp; omega)]
   simp
theorem zf : ∀ (n : Nat) (out : List UInt8),n < 4611686018427387904 -> out.length + (cD n).length < 4294967296 -> iJ (n : Int) (out.map eU) = some (.os (1,0) ((out ++ cD n).map eU),[]) := by
 intro n
 induction n using Nat.strongRecOn with
 | _ n ih =>
  intro out hn hl
  rw [tP]
  by_cases h : n <= 127
  ·rw [av (decide_eq_false (by omega)),sR (by omega) (by omega),au (La (by omega) _),aU,DI (by omega),ja h]
  ·rw [pW h] at hl ⊢
   rw [lnC] at hl
   have e : ((n % 128 : Nat) : Int) + 128 = ((n % 128 + 128 : Nat) : Int) := by omega
   rw [aC (decide_eq_true (by omega)),au (by decide),wT,w64 (by omega) (by omega),sR (by omega) (by omega),au (La (by omega) _),aU,au (by decide),e,DI (by omega),Lz,w64 (by omega) (by omega),ih (n / 128) (by omega) _ (by omega) (by simp; omega)]
   simp
theorem rA {n : Nat} (h : n < 4611686018427387904) : V 67 [.int .i64 (n : Int)] = some (.os (1,0) ((cD n).map eU),[]) := by
 rw [CR,av (decide_eq_false (by omega))]
 exact zx n [] h (by have := ch h; simp; omega)
theorem rx {n : Nat} (h : n < 4611686018427387904) : V 69 [.int .i64 (n : Int)] = some (.os (1,0) ((cD n).map eU),[]) := by
 rw [Bx,av (decide_eq_false (by omega))]
 exact zf n [] h (by have := ch h; simp; omega)
noncomputable def sG (s : List UInt8) : List UInt8 := cD s.length ++ s
theorem yB {s : List UInt8} (h : s.length < 4294967200) : V 138 [.str (mk s)] = some (.os (1,0) ((sG s).map eU),[]) := by
 have hn := rA (n := s.length) (by omega)
 have hp := ch (n := s.length) (by omega)
 rw [yV,af]
 simp (disch := first | omega | (simp only [lnA,lnC,lnN,lnM,af,aa]; omega)) only [↓ae,ah,↓ay,↓aj,↓aJ,↓aU,aW,lnM,lnA,bh,aa,hn,qw,dI]
 rfl
theorem xD {s : List UInt8} (h : s.length < 4294967200) : V 139 [.str (mk s)] = some (.os (1,0) ((sG s).map eU),[]) := by
 have hn := rx (n := s.length) (by omega)
 have hp := ch (n := s.length) (by omega)
 rw [yU,af]
 simp (disch := first | omega | (simp only [lnA,lnC,lnN,lnM,af,aa]; omega)) only [↓ae,ah,↓ay,↓aj,↓aJ,↓aU,aW,lnM,lnA,bh,aa,hn,qw,dI]
 rfl

noncomputable def mu : Nat -> List UInt8 -> Option (Nat × Nat)
 | 0,_ => none
 | _ + 1,[] => none
 | f + 1,d :: r => if d.toNat < 128 then (if d.toNat = 0 /\ f < 8 then none else some (d.toNat,1)) else
  match mu f r with
  | some (v,c) => some (d.toNat % 128 + 128 * v,c + 1)
  | none => none
theorem xA : ∀ (f : Nat) (l : List UInt8) (v c : Nat),mu f l = some (v,c) -> v < 128 ^ f /\ 1 <= c /\ c <= l.length
 | 0,l,v,c,h => by cases h
 | f + 1,[],v,c,h => by cases h
 | f + 1,d :: r,v,c,h => by
  simp only [mu] at h
  have hp : 0 < 128 ^ f := Nat.pow_pos (by omega)
  split at h
  ·split at h
   ·cases h
   ·cases h
    rw [Nat.pow_succ,lnC]; omega
  ·split at h
   ·rename_i v' c' e
    cases h
    have := xA f r v' c' e
    rw [Nat.pow_succ,lnC]; omega
   ·cases h
theorem Rl {p q k : Nat} (hp : p < 2 ^ k) (h : p + q * 2 ^ k < 9223372036854775808) : IntKind.wrap .i64 (ni (BitVec.toNat (BitVec.ofInt (IntKind.bits .i64) (p : Int) ||| BitVec.ofInt (IntKind.bits .i64) ((q * 2 ^ k : Nat) : Int)))) = ((p + q * 2 ^ k : Nat) : Int) := by
 have e1 : BitVec.toNat (BitVec.ofInt (IntKind.bits .i64) (p : Int)) = p := by
  show BitVec.toNat (BitVec.ofInt 64 (p : Int)) = p
  rw [BitVec.toNat_ofInt]; omega
 have e2 : BitVec.toNat (BitVec.ofInt (IntKind.bits .i64) ((q * 2 ^ k : Nat) : Int)) = q * 2 ^ k := by
  show BitVec.toNat (BitVec.ofInt 64 ((q * 2 ^ k : Nat) : Int)) = q * 2 ^ k
  rw [BitVec.toNat_ofInt]; omega
 have e3 : p ||| q * 2 ^ k = p + q * 2 ^ k := by
  have := Nat.shiftLeft_add_eq_or_of_lt hp q
  rw [Nat.shiftLeft_eq] at this
  rw [Nat.or_comm,<- this,Nat.add_comm]
 rw [BitVec.toNat_or,e1,e2,e3]
 exact IntWalk.i64_in _ (by simp only [ni]; omega)
noncomputable abbrev noN : D := .tup [.int .i64 0,.int .i64 0,.bool false]
noncomputable def uI (b : List UInt8) (at' k acc : Nat) : D := match mu (9 - k) (b.drop (at' + k)) with
 | some (v,c) => .tup [.int .i64 ((acc + v * 128 ^ k : Nat) : Int),.int .i64 ((at' + k + c : Nat) : Int),.bool true]
 | none => noN
theorem NJ (k : Nat) : 128 ^ k = 2 ^ (7 * k) := by rw [Nat.pow_mul]
theorem Lh {k : Nat} (h : k <= 9) : 128 ^ k <= 9223372036854775808 := by
 have : 128 ^ k <= 128 ^ 9 := Nat.pow_le_pow_right (by omega) h
 have e : (128 : Nat) ^ 9 = 9223372036854775808 := rfl
 omega
theorem Ga {b : List UInt8} {at' k acc : Nat} {d : UInt8} (hd : b[at' + k]? = some d) (hk : k < 9) (h128 : ¬ d.toNat < 128) : uI b at' k acc = uI b at' (k + 1) (acc + d.toNat % 128 * 128 ^ k) := by
 unfold uI
 obtain ⟨f,hf⟩ : ∃ f,9 - k = f + 1 := ⟨8 - k,by omega⟩
 have hf2 : 9 - (k + 1) = f := by omega
 rw [hf,hf2,cX hd]
 simp only [mu,if_neg h128,Nat.add_assoc]
 cases e : mu f (b.drop (at' + (k + 1))) with
 | none => rfl
 | some p =>
  obtain ⟨v,c⟩ := p
  have e1 : acc + (d.toNat % 128 + 128 * v) * 128 ^ k = acc + (d.toNat % 128 * 128 ^ k + v * 128 ^ (k + 1)) := by
   rw [Nat.add_mul,Nat.pow_succ]
   have : 128 * v * 128 ^ k = v * (128 ^ k * 128) := by rw [Nat.mul_comm 128 v,Nat.mul_assoc,Nat.mul_comm 128]
   omega
  have e2 : k + (c + 1) = k + (1 + c) := by omega
  simp only [e1,e2]
theorem Lf {b : List UInt8} {at' k acc : Nat} {d : UInt8} (hd : b[at' + k]? = some d) (hk : k < 9) (h128 : d.toNat < 128) : uI b at' k acc = if d.toNat = 0 /\ 0 < k then noN else .tup [.int .i64 ((acc + d.toNat * 128 ^ k : Nat) : Int),.int .i64 ((at' + k + 1 : Nat) : Int),.bool true] := by
 unfold uI
 obtain ⟨f,hf⟩ : ∃ f,9 - k = f + 1 := ⟨8 - k,by omega⟩
 rw [hf,cX hd]
 simp only [mu,if_pos h128]
 by_cases h : d.toNat = 0 /\ 0 < k
 ·rw [if_pos ⟨h.1,by omega⟩,if_pos h]
 ·rw [if_neg (fun h' => h ⟨h'.1,by omega⟩),if_neg h]
theorem nA {b : List UInt8} {at' k acc : Nat} (h : b.length <= at' + k \/ 9 <= k) : uI b at' k acc = noN := by
 unfold uI
 rcases h with h | h
 ·rw [List.drop_of_length_le h]
  cases 9 - k <;> rfl
 ·have : 9 - k = 0 := by omega
  rw [this]; rfl
theorem Q0 (d : UInt8) : d.toNat < 256 := d.toNat_lt
theorem EF {acc k : Nat} {d : UInt8} (_ : k < 9) (ha : acc < 128 ^ k) : acc + d.toNat % 128 * 128 ^ k < 128 ^ (k + 1) := by
 have h2 : d.toNat % 128 * 128 ^ k <= 127 * 128 ^ k := Nat.mul_le_mul_right _ (by omega)
 rw [Nat.pow_succ]; omega
theorem vT {n : Int} (h1 : -9223372036854775808 <= n) (h2 : n <= 9223372036854775807) : IntKind.wrap IntKind.i64 n = n := IntWalk.i64_in n (by omega)
theorem q7 {b : List UInt8} (hb : b.length < 4611686018427387904) (at' : Nat) (ha : at' <= b.length) : ∀ (f k acc : Nat),f + k = 9 -> acc < 128 ^ k -> iz (b.map eU) (at' : Int) (acc : Int) (k : Int) = some (uI b at' k acc,[])
 | 0,k,acc,hk,hacc => by
  rw [lF,av (decide_eq_false (by omega)),nA (.inr (by omega))]
 | f + 1,k,acc,hk,hacc => by
  have hw : IntKind.wrap IntKind.i64 ((at' : Int) + (k : Int)) = ((at' + k : Nat) : Int) := by rw [vT (by omega) (by omega)]; omega
  rw [lF,aC (decide_eq_true (by omega)),hw]
  by_cases hlt : at' + k < b.length
  ·obtain ⟨d,hd⟩ := aE hlt
   have hd2 := Q0 d
   have h9 := Lh (k := k + 1) (by omega)
   have hdl := EF (d := d) (by omega) hacc
   have e7 : IntKind.wrap IntKind.i64 (7 * (k : Int)) = ((7 * k : Nat) : Int) := by rw [w64 (by omega) (by omega)]; omega
   have emin : min (7 * k) (IntKind.bits .i64) = 7 * k := by
    show min (7 * k) 64 = 7 * k
    omega
   have epow : ((d.toNat % 128 : Nat) : Int) * 2 ^ (7 * k) = ((d.toNat % 128 * 2 ^ (7 * k) : Nat) : Int) := by
    rw [Int.natCast_mul,Int.natCast_pow]; rfl
   have hq : d.toNat % 128 * 2 ^ (7 * k) < 9223372036854775808 := by rw [<- NJ]; omega
   have hor := Rl (p := acc) (q := d.toNat % 128) (k := 7 * k) (by rw [<- NJ]; exact hacc) (by rw [<- NJ]; omega)
   rw [<- NJ] at hor
   rw [aC (by rw [lnM]; exact cm hlt),au (by rw [lnM]; exact bj hlt),Int.toNat_natCast,aq hd,ak,au (by decide),e7,au (by simp; omega),wT,w64 (n := ((d.toNat % 128 : Nat) : Int)) (by omega) (by omega),Int.toNat_natCast,emin,epow,vT (n := ((d.toNat % 128 * 2 ^ (7 * k) : Nat) : Int)) (by omega) (by omega),<- NJ,hor]
   have hn1 : IntKind.wrap IntKind.i64 (((at' + k : Nat) : Int) + 1) = ((at' + k + 1 : Nat) : Int) := dd (by omega)
   by_cases h128 : d.toNat < 128
   ·have em : d.toNat % 128 = d.toNat := Nat.mod_eq_of_lt h128
    rw [aC (decide_eq_true (by omega)),Lf hd (by omega) h128,hn1,em]
    by_cases h0 : d.toNat = 0
    ·rw [aC (by simp [h0])]
     by_cases hk0 : 0 < k
     ·rw [aC (decide_eq_true (by omega)),if_pos ⟨h0,hk0⟩]
     ·rw [av (decide_eq_false (by omega)),if_neg (fun h => hk0 h.2)]
    ·rw [av (by simp only [beq_eq_false_iff_ne,ne_eq]; omega),if_neg (fun h => h0 h.1)]
   ·rw [av (decide_eq_false (by omega)),Ga hd (by omega) h128,dd (by omega)]
    exact q7 hb at' ha f (k + 1) _ (by omega) hdl
  ·rw [av (by rw [lnM]; exact dc (by omega)),nA (.inl (by omega))]
theorem ri {b : List UInt8} (hb : b.length < 4611686018427387904) (at' : Nat) (ha : at' <= b.length) : ∀ (f k acc : Nat) (u : Int),f + k = 9 -> acc < 128 ^ k -> (k < 9 -> u = ((128 ^ k : Nat) : Int)) -> iL (b.map eU) (at' : Int) (acc : Int) u (k : Int) = some (uI b at' k acc,[])
 | 0,k,acc,u,hk,hacc,hu => by
  rw [lZ,av (decide_eq_false (by omega)),nA (.inr (by omega))]
 | f + 1,k,acc,u,hk,hacc,hu => by
  have hw : IntKind.wrap IntKind.i64 ((at' : Int) + (k : Int)) = ((at' + k : Nat) : Int) := by rw [vT (by omega) (by omega)]; omega
  have hu := hu (by omega)
  subst hu
  rw [lZ,aC (decide_eq_true (by omega)),hw]
  by_cases hlt : at' + k < b.length
  ·obtain ⟨d,hd⟩ := aE hlt
   have hd2 := Q0 d
   have h9 := Lh (k := k + 1) (by omega)
   have hdl := EF (d := d) (by omega) hacc
   have ewd : IntKind.wrap IntKind.i64 (d.toNat : Int) = (d.toNat : Int) := w64 (by omega) (by omega)
   have em0 : ((d.toNat % 128 : Nat) : Int) * ((128 ^ k : Nat) : Int) = ((d.toNat % 128 * 128 ^ k : Nat) : Int) := by rw [Int.natCast_mul]
   have em1 : (acc : Int) + ((d.toNat % 128 * 128 ^ k : Nat) : Int) = ((acc + d.toNat % 128 * 128 ^ k : Nat) : Int) := by omega
   rw [aC (by rw [lnM]; exact cm hlt),au (by rw [lnM]; exact bj hlt),Int.toNat_natCast,aq hd,ak,au (by decide),ewd,wT,em0,vT (n := ((d.toNat % 128 * 128 ^ k : Nat) : Int)) (by omega) (by omega),em1,vT (n := ((acc + d.toNat % 128 * 128 ^ k : Nat) : Int)) (by omega) (by omega)]
   have hn1 : IntKind.wrap IntKind.i64 (((at' + k : Nat) : Int) + 1) = ((at' + k + 1 : Nat) : Int) := dd (by omega)
   by_cases h128 : d.toNat < 128
   ·have em : d.toNat % 128 = d.toNat := Nat.mod_eq_of_lt h128
    rw [aC (decide_eq_true (by omega)),Lf hd (by omega) h128,hn1,em]
    by_cases h0 : d.toNat = 0
    ·rw [aC (by simp [h0])]
     by_cases hk0 : 0 < k
     ·rw [aC (decide_eq_true (by omega)),if_pos ⟨h0,hk0⟩]
     ·rw [av (decide_eq_false (by omega)),if_neg (fun h => hk0 h.2)]
    ·rw [av (by simp only [beq_eq_false_iff_ne,ne_eq]; omega),if_neg (fun h => h0 h.1)]
   ·rw [av (decide_eq_false (by omega)),Ga hd (by omega) h128,dd (by omega)]
    refine ri hb at' ha f (k + 1) _ _ (by omega) hdl (fun h => ?_)
    have h8 : 128 ^ (k + 1) <= 128 ^ 8 := Nat.pow_le_pow_right (by omega) (by omega)
    have e8 : (128 : Nat) ^ 8 = 72057594037927936 := rfl
    have em : ((128 ^ k : Nat) : Int) * 128 = ((128 ^ (k + 1) : Nat) : Int) := by rw [Nat.pow_succ,Int.natCast_mul]; rfl
    rw [em,w64 (by omega) (by omega)]
  ·rw [av (by rw [lnM]; exact dc (by omega)),nA (.inl (by omega))]
theorem rc {b : List UInt8} (hb : b.length < 4611686018427387904) {at' : Nat} (ha : at' <= b.length) : V 140 [.rs (1,0) (b.map eU),.int .i64 (at' : Int)] = some (uI b at' 0 0,[]) := by
 have h := q7 hb at' ha 9 0 0 rfl (by decide)
 rw [Cm,lnM,w64 (n := ni b.length - 1) (by simp only [ni]; omega) (by simp only [ni]; omega)]
 by_cases hlt : at' < b.length
 ·have hwi : wi (at' : Int) 0 (ni b.length - 1) = true := wi_iff.2 ⟨by omega,by simp only [ni]; omega⟩
  rw [ck (bW _ _ _),hwi,Bool.not_true,al]
  exact h
 ·have hwi : wi (at' : Int) 0 (ni b.length - 1) = false := by
   cases e : wi (at' : Int) 0 (ni b.length - 1) with
   | false => rfl
   | true => have := wi_iff.1 e; simp only [ni] at this; omega
  rw [ck (bW _ _ _),hwi,Bool.not_false,am,nA (.inl (by omega))]
theorem qZ {b : List UInt8} (hb : b.length < 4611686018427387904) {at' : Nat} (ha : at' <= b.length) : V 173 [.rs (1,0) (b.map eU),.int .i64 (at' : Int)] = some (uI b at' 0 0,[]) := by
 have h := ri hb at' ha 9 0 0 1 rfl (by decide) (fun _ => rfl)
 rw [DG,lnM,av (decide_eq_false (by omega))]
 by_cases hlt : at' < b.length
 ·rw [av (decide_eq_false (by simp only [ni]; omega))]
  exact h
 ·rw [aC (decide_eq_true (by simp only [ni]; omega)),nA (.inl (by omega))]
end Go.Eng
/-! how great a value is,the program's side -/
namespace Go.Eng
open Go.Proofs Go.Proofs.Tryz

end Go.Eng
/-! what is moved is as it was: the plain side -/
namespace Go.Eng

noncomputable def fa (p : List Nd) : Prop := ∀ (j : Nat) (x : Nd),p[j]? = some x -> okN x j = true
theorem AM {p : List Nd} (h : fa p) : ∀ (k i : Nat),mt p i k = true
 | 0,i => rfl
 | k + 1,i => by
  simp only [mt,AM h k (i + 1),Bool.and_true]
  split
  ·exact h _ _ ‹_›
  ·rfl
theorem okPool_iff {p : List Nd} : bu p = true ↔ fa p /\ p.length <= 3000 := by
 constructor
 ·intro h; exact ⟨fun j x hx => eH h hx,bJ h⟩
 ·rintro ⟨h,hl⟩
  simp only [bu,AM h,Bool.true_and,decide_eq_true_eq]; omega
noncomputable def PF (q q' : List Nd) (m : List Bool) (to : List Int) : Prop := ∀ (i : Nat) (x : Nd),q[i]? = some x -> m[i]? = some true -> ∃ j : Nat,to[i]? = some (j : Int) /\ q'[j]? = some (bV to x)
theorem w9 {pre r : List Int} {x : Nd} {i : Nat} (ho : okN x i = true) (hp : i <= pre.length) : bV (pre ++ r) x = bV pre x := by
 have g : ∀ n : Int,0 <= n -> n < i -> (pre ++ r).getD n.toNat 0 = pre.getD n.toNat 0 := by
  intro n h0 h1
  simp only [List.getD_eq_getElem?_getD]
  rw [List.getElem?_append_left (by omega)]
 unfold bV
 split
 ·rename_i h5
  have := fj ho h5
  rw [g _ (by omega) (by omega),g _ (by omega) (by omega)]
 ·split
  ·rename_i h6
   have := f4 ho h6
   rw [g _ (by omega) (by omega)]
  ·rfl
theorem MC {pre : List Int} {x : Nd} {i h : Nat} (ho : okN x i = true) (h5 : x.kind = 5 -> ∃ a b : Nat,pre[x.a.toNat]? = some (a : Int) /\ pre[x.b.toNat]? = some (b : Int) /\ a < h /\ b < h)
  (h6 : x.kind = 6 \/ x.kind = 7 -> ∃ a : Nat,pre[x.a.toNat]? = some (a : Int) /\ a < h) : okN (bV pre x) h = true := by
 by_cases k5 : x.kind = 5
 ·obtain ⟨a,b,ha,hb,h1,h2⟩ := h5 k5
  simp only [bV,k5,if_true,List.getD_eq_getElem?_getD,ha,hb,Option.getD_some]
  simp [okN,k5] at ho ⊢
  exact ⟨ho.1,ho.2.1,wi_iff.2 ⟨by omega,by omega⟩,wi_iff.2 ⟨by omega,by omega⟩⟩
 ·by_cases k6 : x.kind = 6 \/ x.kind = 7
  ·obtain ⟨a,ha,h1⟩ := h6 k6
   simp only [bV,k5,k6,if_true,if_false,List.getD_eq_getElem?_getD,ha,Option.getD_some]
   rcases k6 with k6 | k6
   ·simp [okN,k6] at ho ⊢; exact ⟨ho.1,ho.2.1,wi_iff.2 ⟨by omega,by omega⟩,ho.2.2.2⟩
   ·simp [okN,k6] at ho ⊢; exact ⟨ho.1,ho.2.1,wi_iff.2 ⟨by omega,by omega⟩,ho.2.2.2⟩
  ·have k6' : ¬ x.kind = 6 := fun h => k6 (.inl h)
   have k7' : ¬ x.kind = 7 := fun h => k6 (.inr h)
   simp only [bV,k5,k6,if_false]
   simp only [okN,k5,k6',k7',if_false] at ho ⊢
   exact ho
theorem xT {q : List Nd} (hq : fa q) {m : List Bool} (hm : m.length = q.length) (hc : Jr q m) (d : Int) : ∀ (k : Nat) (pre : List Int) (acc : List Nd),pre.length + k = q.length -> fa acc ->
  (∀ (i : Nat) (x : Nd),i < pre.length -> q[i]? = some x -> m[i]? = some true -> ∃ j : Nat,pre[i]? = some (j : Int) /\ acc[j]? = some (bV pre x)) ->
  fa (fF d q m k pre acc).2 /\ PF q (fF d q m k pre acc).2 m (fF d q m k pre acc).1
 | 0,pre,acc,hk,ha,hi => by
  simp only [fF]
  exact ⟨ha,fun i x hx hmi => hi i x (by have := bw hx; omega) hx hmi⟩
 | k + 1,pre,acc,hk,ha,hi => by
  obtain ⟨x,hx⟩ := aE (l := q) (i := pre.length) (by omega)
  obtain ⟨b,hb⟩ := aE (l := m) (i := pre.length) (by omega)
  simp only [fF,hx,hb]
  have hox := hq _ _ hx
  have old : ∀ (u : Int) (acc' : List Nd),(∀ (j : Nat) (y : Nd),acc[j]? = some y -> acc'[j]? = some y) -> ∀ (i : Nat) (y : Nd),i < pre.length -> q[i]? = some y -> m[i]? = some true -> ∃ j : Nat,(pre ++ [u])[i]? = some (j : Int) /\ acc'[j]? = some (bV (pre ++ [u]) y) := by
   intro u acc' hacc i y hil hy hmi
   obtain ⟨j,h1,h2⟩ := hi i y hil hy hmi
   refine ⟨j,by rw [List.getElem?_append_left hil]; exact h1,?_⟩
   rw [w9 (hq _ _ hy) (by omega)]
   exact hacc _ _ h2
  cases b with
  | false =>
   refine xT hq hm hc d k (pre ++ [d]) acc (by simp; omega) ha ?_
   intro i y hil hy hmi
   by_cases e : i = pre.length
   ·subst e; rw [hb] at hmi; cases hmi
   ·exact old d acc (fun _ _ h => h) i y (by simp at hil; omega) hy hmi
  | true =>
   have hcx := hc _ _ hx hb
   have kid : ∀ n : Int,On m n -> 0 <= n -> n < pre.length -> ∃ a : Nat,pre[n.toNat]? = some (a : Int) /\ a < acc.length := by
    intro n hn h0 h1
    obtain ⟨y,hy⟩ := aE (l := q) (i := n.toNat) (by omega)
    obtain ⟨j,h2,h3⟩ := hi n.toNat y (by omega) hy hn
    exact ⟨j,h2,bw h3⟩
   have hok : okN (bV pre x) acc.length = true := MC hox
    (fun h5 => by
     have h := fj hox h5
     obtain ⟨a,ha1,ha2⟩ := kid x.a (hcx.1 h5).1 h.1 h.2.1
     obtain ⟨b,hb1,hb2⟩ := kid x.b (hcx.1 h5).2 h.2.2.1 h.2.2.2
     exact ⟨a,b,ha1,hb1,ha2,hb2⟩)
    (fun h6 => by
     have h := f4 hox h6
     exact kid x.a (hcx.2 h6) h.1 h.2)
   have ha' : fa (acc ++ [bV pre x]) := by
    intro j y hy
    by_cases e : j < acc.length
    ·rw [List.getElem?_append_left e] at hy; exact ha j y hy
    ·have hl := bw hy
     have : j = acc.length := by simp at hl; omega
     subst this
     simp at hy; subst hy; exact hok
   refine xT hq hm hc d k (pre ++ [(acc.length : Int)]) (acc ++ [bV pre x]) (by simp; omega) ha' ?_
   intro i y hil hy hmi
   by_cases e : i = pre.length
   ·subst e; rw [hx] at hy; cases hy
    refine ⟨acc.length,by simp,?_⟩
    rw [w9 hox (Nat.le_refl _)]; simp
   ·exact old _ _ (fun j z h => by rw [List.getElem?_append_left (bw h)]; exact h) i y (by simp at hil; omega) hy hmi
theorem J7 {q acc : List Nd} (hq : bu q = true) (ha : fa acc) (rs : List Int) (d : Int) : fa (gW d q rs acc).2 /\ PF q (gW d q rs acc).2 (f8 q rs) (gW d q rs acc).1 :=
 xT (okPool_iff.1 hq).1 (gJ q rs) (jk hq rs) d q.length [] acc (Nat.zero_add _) ha (fun i x h => absurd h (by simp))

theorem KC (to : List Int) (x : Nd) : (bV to x).kind = x.kind /\ (bV to x).n = x.n /\ (bV to x).s = x.s := by
 unfold bV
 split
 ·exact ⟨rfl,rfl,rfl⟩
 ·split <;> exact ⟨rfl,rfl,rfl⟩
end Go.Eng
/-! what is kept is all reached,and as great as it was: the plain side -/
namespace Go.Eng

inductive Rch (q : List Nd) (rs : List Int) : Nat -> Prop
 | root {r : Int} : r ∈ rs -> Rch q rs r.toNat
 | a {i : Nat} {x : Nd} : Rch q rs i -> q[i]? = some x -> (x.kind = 5 \/ x.kind = 6 \/ x.kind = 7) -> Rch q rs x.a.toNat
 | b {i : Nat} {x : Nd} : Rch q rs i -> q[i]? = some x -> x.kind = 5 -> Rch q rs x.b.toNat
theorem tZ {m : List Bool} {i j : Nat} (h : (m.set i true)[j]? = some true) : j = i \/ m[j]? = some true := by
 by_cases e : i = j
 ·exact .inl e.symm
 ·rw [List.getElem?_set_ne e] at h; exact .inr h
theorem rt {q : List Nd} {rs : List Int} : ∀ (k : Nat) {m : List Bool},(∀ j : Nat,m[j]? = some true -> Rch q rs j) -> ∀ j : Nat,(cQ q k m)[j]? = some true -> Rch q rs j
 | 0,m,h,j,hj => h j hj
 | k + 1,m,h,j,hj => by
  simp only [cQ] at hj
  refine rt k ?_ j hj
  intro i hi
  split at hi
  ·rename_i x hx hm
   have hk := h k hm
   unfold cR at hi
   split at hi
   ·rename_i h5
    rcases tZ hi with e | hi
    ·rw [e]; exact .b hk hx h5
    ·rcases tZ hi with e | hi
     ·rw [e]; exact .a hk hx (.inl h5)
     ·exact h i hi
   ·split at hi
    ·rename_i h6
     rcases tZ hi with e | hi
     ·rw [e]; exact .a hk hx (.inr h6)
     ·exact h i hi
    ·exact h i hi
  ·exact h i hi
theorem uc : ∀ {rs : List Int} {m : List Bool} {j : Nat},(nT rs m)[j]? = some true -> m[j]? = some true \/ ∃ r ∈ rs,r.toNat = j
 | [],m,j,h => .inl h
 | r :: rs,m,j,h => by
  have h' : (nT rs (m.set r.toNat true))[j]? = some true := h
  rcases uc h' with h | ⟨s,hs,e⟩
  ·rcases tZ h with e | h
   ·exact .inr ⟨r,by simp,e.symm⟩
   ·exact .inl h
  ·exact .inr ⟨s,by simp [hs],e⟩
theorem FI {q : List Nd} {rs : List Int} {j : Nat} (h : (f8 q rs)[j]? = some true) : Rch q rs j := by
 refine rt _ ?_ j h
 intro i hi
 rcases uc hi with h | ⟨r,hr,e⟩
 ·rw [List.getElem?_replicate] at h
  split at h <;> cases h
 ·rw [<- e]; exact .root hr
theorem pM {q : List Nd} (hq : bu q = true) {rs : List Int} (hr : dl q rs = true) {j : Nat} (h : Rch q rs j) : (f8 q rs)[j]? = some true := by
 induction h with
 | root hm => exact pJ hr _ hm
 | a h hx hk ih =>
  have hc := jk hq rs _ _ hx ih
  rcases hk with hk | hk
  ·exact (hc.1 hk).1
  ·exact hc.2 hk
 | b h hx hk ih => exact ((jk hq rs _ _ hx ih).1 hk).2

theorem vg (d : Int) {q : List Nd} {m : List Bool} (hm : m.length = q.length) : ∀ (k : Nat) (pre : List Int) (acc : List Nd),pre.length + k = q.length ->
  (∀ j : Nat,j < acc.length -> ∃ i : Nat,m[i]? = some true /\ pre[i]? = some (j : Int)) -> ∀ j : Nat,j < (fF d q m k pre acc).2.length -> ∃ i : Nat,m[i]? = some true /\ (fF d q m k pre acc).1[i]? = some (j : Int)
 | 0,pre,acc,hk,h,j,hj => h j hj
 | k + 1,pre,acc,hk,h,j,hj => by
  obtain ⟨x,hx⟩ := aE (l := q) (i := pre.length) (by omega)
  obtain ⟨b,hb⟩ := aE (l := m) (i := pre.length) (by omega)
  simp only [fF,hx,hb] at hj ⊢
  have old : ∀ (u : Int) (j : Nat),j < acc.length -> ∃ i : Nat,m[i]? = some true /\ (pre ++ [u])[i]? = some (j : Int) := by
   intro u j hj
   obtain ⟨i,h1,h2⟩ := h j hj
   exact ⟨i,h1,by rw [List.getElem?_append_left (bw h2)]; exact h2⟩
  cases b with
  | false => exact vg d hm k (pre ++ [d]) acc (by simp; omega) (old d) j hj
  | true =>
   refine vg d hm k (pre ++ [(acc.length : Int)]) (acc ++ [bV pre x]) (by simp; omega) ?_ j hj
   intro i hi
   by_cases e : i < acc.length
   ·exact old _ i e
   ·have : i = acc.length := by simp at hi; omega
    subst this
    exact ⟨pre.length,hb,by simp⟩
theorem Nq {q q' : List Nd} (hq : bu q = true) {rs : List Int} (hr : dl q rs = true) {to now : List Int} (hmv : PF q q' (f8 q rs) to) (hn : ∀ r ∈ rs,to.getD r.toNat 0 ∈ now) {i : Nat} (h : Rch q rs i) : ∀ j : Nat,to[i]? = some (j : Int) -> Rch q' now j := by
 have one : ∀ {i : Nat} {x : Nd},Rch q rs i -> q[i]? = some x -> ∃ j : Nat,to[i]? = some (j : Int) /\ q'[j]? = some (bV to x) := fun h hx => hmv _ _ hx (pM hq hr h)
 induction h with
 | root hm =>
  rename_i r
  intro j hj
  have e : to.getD r.toNat 0 = (j : Int) := by rw [List.getD_eq_getElem?_getD,hj]; rfl
  have := Rch.root (q := q') (hn r hm)
  rw [e] at this
  exact this
 | a h hx hk ih =>
  rename_i i x
  intro j hj
  obtain ⟨ji,e1,e2⟩ := one h hx
  have h' := ih ji e1
  have ea : (bV to x).a.toNat = j := by
   rcases hk with hk | hk
   ·simp only [bV,hk,if_true,List.getD_eq_getElem?_getD,hj,Option.getD_some,Int.toNat_natCast]
   ·have h5 : ¬ x.kind = 5 := by omega
    simp only [bV,h5,hk,if_true,if_false,List.getD_eq_getElem?_getD,hj,Option.getD_some,Int.toNat_natCast]
  rw [<- ea]
  exact .a h' e2 (by rw [(KC to x).1]; exact hk)
 | b h hx hk ih =>
  rename_i i x
  intro j hj
  obtain ⟨ji,e1,e2⟩ := one h hx
  have h' := ih ji e1
  have ea : (bV to x).b.toNat = j := by
   simp only [bV,hk,if_true,List.getD_eq_getElem?_getD,hj,Option.getD_some,Int.toNat_natCast]
  rw [<- ea]
  exact .b h' e2 (by rw [(KC to x).1]; exact hk)
noncomputable def ids (n : Nat) : List Int := (List.range n).map fun k : Nat => (k : Int)
theorem AV {n i : Nat} (h : i < n) : (ids (n))[i]? = some (i : Int) := by
 rw [ids,List.getElem?_map,List.getElem?_range h]; rfl
theorem M6 {x : Nd} {i : Nat} (ho : okN x i = true) : bV (ids (i)) x = x := by
 have g : ∀ n : Int,0 <= n -> n < i -> (ids (i)).getD n.toNat 0 = n := by
  intro n h0 h1
  rw [List.getD_eq_getElem?_getD,AV (by omega)]
  simp; omega
 unfold bV
 split
 ·rename_i h5
  have := fj ho h5
  rw [g _ (by omega) (by omega),g _ (by omega) (by omega)]
 ·split
  ·rename_i h6
   have := f4 ho h6
   rw [g _ (by omega) (by omega)]
  ·rfl
theorem GF (d : Int) {q : List Nd} (hq : fa q) {m : List Bool} (hm : ∀ j : Nat,j < q.length -> m[j]? = some true) : ∀ (k i : Nat),i + k = q.length ->
  fF d q m k (ids (i)) (q.take i) = (ids (q.length),q)
 | 0,i,h => by
  have : i = q.length := by omega
  subst this
  simp [fF]
 | k + 1,i,h => by
  obtain ⟨x,hx⟩ := aE (l := q) (i := i) (by omega)
  have hl : (ids (i)).length = i := by simp [ids]
  have ht : (q.take i).length = i := by simp; omega
  have ih := GF d hq hm k (i + 1) (by omega)
  have es : ids (i + 1) = ids i ++ [(i : Int)] := by simp [ids,List.range_succ]
  rw [es,KF hx] at ih
  simp only [fF,hl,hx,hm i (by omega),ht,M6 (hq _ _ hx)]
  exact ih
theorem rL {q : List Nd} (hq : bu q = true) {rs : List Int} (hr : dl q rs = true) (d d' : Int) : bu (dv d q rs).1 = true /\ dl (dv d q rs).1 (dv d q rs).2 = true /\ dv d' (dv d q rs).1 (dv d q rs).2 = dv d q rs := by
 obtain ⟨h1,h2⟩ := J7 hq (acc := []) (fun j x h => by simp at h) rs d
 have hlen := xu d q (f8 q rs) q.length [] []
 have hok : bu (gW d q rs []).2 = true := okPool_iff.2 ⟨h1,by have := bJ hq; have := hlen; simp [gW] at this ⊢; omega⟩
 have hto : ∀ r ∈ rs,∃ j : Nat,(gW d q rs []).1[r.toNat]? = some (j : Int) /\ j < (gW d q rs []).2.length := by
  intro r hm
  have hl := lb hr r hm
  obtain ⟨x,hx⟩ := aE (l := q) (i := r.toNat) (by omega)
  obtain ⟨j,e1,e2⟩ := h2 _ x hx (pJ hr r hm)
  exact ⟨j,e1,bw e2⟩
 have hgd : ∀ r ∈ rs,0 <= (gW d q rs []).1.getD r.toNat 0 /\ (gW d q rs []).1.getD r.toNat 0 < ((gW d q rs []).2.length : Int) := by
  intro r hm
  obtain ⟨j,e1,e2⟩ := hto r hm
  rw [List.getD_eq_getElem?_getD,e1]; simp; omega
 have hri : dl (dv d q rs).1 (dv d q rs).2 = true := by
  unfold dl dv
  rw [List.all_map,List.all_eq_true]
  intro r hm
  have := hgd r hm
  exact wi_iff.2 ⟨this.1,by simp only; omega⟩
 refine ⟨hok,hri,?_⟩
 have hall : ∀ j : Nat,j < (dv d q rs).1.length -> (f8 (dv d q rs).1 (dv d q rs).2)[j]? = some true := by
  intro j hj
  obtain ⟨i,hi,ht⟩ := vg d (gJ q rs) q.length [] [] (Nat.zero_add _) (fun j h => by simp at h) j hj
  exact pM hok hri (Nq hq hr h2 (fun r hm => List.mem_map.2 ⟨r,hm,rfl⟩) (FI hi) j ht)
 have hm := GF d' (okPool_iff.1 hok).1 hall (dv d q rs).1.length 0 (Nat.zero_add _)
 have e : gW d' (dv d q rs).1 (dv d q rs).2 [] = (ids ((dv d q rs).1.length),(dv d q rs).1) := hm
 have e2 : dv d' (dv d q rs).1 (dv d q rs).2 = ((dv d q rs).1,(dv d q rs).2.map fun r => (ids ((dv d q rs).1.length)).getD r.toNat 0) := by
  show (_,_) = _
  rw [e]
 rw [e2]
 refine Prod.ext rfl ?_
 show List.map _ (dv d q rs).2 = (dv d q rs).2
 have : ∀ r ∈ (dv d q rs).2,(ids ((dv d q rs).1.length)).getD r.toNat 0 = r := by
  intro r hm
  have := lb hri r hm
  rw [List.getD_eq_getElem?_getD,AV (by omega)]
  simp; omega
 rw [List.map_congr_left this,List.map_id']
end Go.Eng
