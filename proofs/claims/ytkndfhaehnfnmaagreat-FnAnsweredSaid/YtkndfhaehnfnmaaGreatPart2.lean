/- the program and the reference on plain data, part 2 -/
import Derived.Test.YtkndfhaehnfnmaaGreatPart1
import Derived.Test.YtkndfhaehnfnmaaGreatEngC
/-! the functions as the interpreter has them -/
namespace Go.Eng
open Go.Proofs Go.Proofs.Tryz
set_option maxRecDepth 100000
theorem Rz (p l d:List D) (h x:Int):V 215 [.op [.os (5,0) p,.os (4,0) l,.os (3,0) d,iN h],iN x] =
 grd (decide (0 <= x) && decide (x < ni p.length)) (cT p x.toNat fun a=>
 asAgg a fun b=>cT b 0 fun c=>
 asI .i64 c fun e=>br (e == 5)
 (
 jb V 228 [.agg [.rs (5,0) p],iN x] fun f g=>
 tk2 f fun i j=>(unn g (br (!j)
 (
 jb V 229 [.op [.os (5,0) p,.os (4,0) l,.os (3,0) d,iN h],.str ({ data:=#[109,97,105,110] }),.rs (1,0) [],.rs (1,0) [iN x]] fun k m=>
 iV k fun n=>unn n (unc m fun o q=>tk1 o fun r s t u=>(unn q (some ((.tup []),[.op [.os (5,0) r,.os (4,0) s,.os (3,0) t,iN u]])))))
 (
 grd (decide (0 <= 0) && decide (0 < ni i.length)) (cT i 0 fun k=>
 asI .i64 k fun m=>grd (decide (0 <= m) && decide (m < ni p.length)) (cT p m.toNat fun n=>
 asAgg n fun o=>cT o 0 fun q=>
 asI .i64 q fun r=>br (r != 4)
 (
 jb V 229 [.op [.os (5,0) p,.os (4,0) l,.os (3,0) d,iN h],.str ({ data:=#[109,97,105,110] }),.rs (1,0) [],.rs (1,0) [iN x]] fun s t=>
 iV s fun u=>unn u (unc t fun v w=>tk1 v fun y z A B=>(unn w (some ((.tup []),[.op [.os (5,0) y,.os (4,0) z,.os (3,0) A,iN B]])))))
 (
 grd (decide (0 <= 0) && decide (0 < ni i.length)) (cT i 0 fun s=>
 asI .i64 s fun t=>grd (decide (0 <= t) && decide (t < ni p.length)) (cT p t.toNat fun u=>
 asAgg u fun v=>cT v 2 fun w=>
 asS w fun y=>br (!kc y { data:=#[100,101,102,105,110,101] })
 (
 jb V 229 [.op [.os (5,0) p,.os (4,0) l,.os (3,0) d,iN h],.str ({ data:=#[109,97,105,110] }),.rs (1,0) [],.rs (1,0) [iN x]] fun z A=>
 iV z fun B=>unn B (unc A fun C E=>tk1 C fun F G H I=>(unn E (some ((.tup []),[.op [.os (5,0) F,.os (4,0) G,.os (3,0) H,iN I]])))))
 (
 br (decide (ni i.length < 3))
 (some ((.tup []),[.op [.os (5,0) p,.os (4,0) l,.os (3,0) d,iN (1)]]))
 (
 grd (decide (0 <= 1) && decide (1 < ni i.length)) (cT i 1 fun z=>
 asI .i64 z fun A=>grd (decide (0 <= A) && decide (A < ni p.length)) (cT p A.toNat fun B=>
 asAgg B fun C=>cT C 0 fun E=>
 asI .i64 E fun F=>br (F != 5)
 (some ((.tup []),[.op [.os (5,0) p,.os (4,0) l,.os (3,0) d,iN (1)]]))
 (
 grd (decide (0 <= 1) && decide (1 < ni i.length)) (cT i 1 fun G=>
 asI .i64 G fun H=>jb V 228 [.agg [.rs (5,0) p],iN H] fun I J=>
 tk2 I fun K L=>(unn J (br (!L)
 (some ((.tup []),[.op [.os (5,0) p,.os (4,0) l,.os (3,0) d,iN (1)]]))
 (
 grd (decide (0 <= 0) && decide (0 < ni K.length)) (cT K 0 fun M=>
 asI .i64 M fun N=>jb V 230 [.op [.os (5,0) p,.os (4,0) l,.os (3,0) d,iN h],iN N] fun O P=>
 tk8 O fun Q R=>(unc P fun S T=>tk1 S fun U W X Y=>(unn T (br (!R)
 (some ((.tup []),[.op [.os (5,0) U,.os (4,0) W,.os (3,0) X,iN (1)]]))
 (
 grd (cW K.length (some (1)) none) (jb V 231 [.op [.os (5,0) U,.os (4,0) W,.os (3,0) X,iN Y],(.rs (1,0) (part K (some (Int.toNat (1),List.length K - Int.toNat (1)))))] fun Z a0=>
 jl (1,0) Z fun a1=>unc a0 fun a2 a3=>tk1 a2 fun a4 a5 a6 a7=>(unn a3 (grd (cW i.length (some (2)) none) (jb V 229 [.op [.os (5,0) a4,.os (4,0) a5,.os (3,0) a6,iN a7],.str Q,.rs (1,0) a1,(.rs (1,0) (part i (some (Int.toNat (2),List.length i - Int.toNat (2)))))] fun a8 a9=>
 iV a8 fun b0=>unn b0 (unc a9 fun b1 b2=>tk1 b1 fun b3 b4 b5 b6=>(unn b2 (some ((.tup []),[.op [.os (5,0) b3,.os (4,0) b4,.os (3,0) b5,iN b6]])))))))))))))))))))))))))))))))
 (
 jb V 229 [.op [.os (5,0) p,.os (4,0) l,.os (3,0) d,iN h],.str ({ data:=#[109,97,105,110] }),.rs (1,0) [],.rs (1,0) [iN x]] fun f g=>
 iV f fun i=>unn i (unc g fun j k=>tk1 j fun m n o q=>(unn k (some ((.tup []),[.op [.os (5,0) m,.os (4,0) n,.os (3,0) o,iN q]])))))):=by
 exact (yD Tryz.func215 rfl _).trans (by kernel_rfl)
theorem Ft (p0:Int) (p1:Bool) (p2 p3:List D):zz p0 p1 p2 p3 =
 grd (decide (0 <= p0) && decide (p0 < ni p2.length)) (cT p2 p0.toNat fun a=>
 asAgg a fun b=>cT b 0 fun c=>
 asI .i64 c fun d=>br (d == 5)
 (
 jb V 88 [.op [.rs (5,0) p2,.os (1,0) p3]] fun e f=>
 asB e fun g=>unc f fun h i=>Cr h fun j k=>(unn i (br (!g)
 (
 br (!p1)
 (
 jb V 150 [.op [.rs (5,0) j,.os (1,0) k],.str ({ data:=#[32] })] fun l m=>
 iV l fun n=>unn n (unc m fun o p=>Cr o fun q r=>(unn p (grd (decide (0 <= p0) && decide (p0 < ni q.length)) (cT q p0.toNat fun s=>
 asAgg s fun t=>cT t 3 fun u=>
 asI .i64 u fun v=>jb V 87 [.op [.rs (5,0) q,.os (1,0) r],iN v] fun w x=>
 iV w fun y=>unn y (unc x fun z A=>Cr z fun B C=>(unn A (grd (decide (0 <= p0) && decide (p0 < ni B.length)) (cT B p0.toNat fun E=>
 asAgg E fun F=>cT F 4 fun G=>
 asI .i64 G fun H=>zz H false B C)))))))))
 (
 grd (decide (0 <= p0) && decide (p0 < ni j.length)) (cT j p0.toNat fun l=>
 asAgg l fun m=>cT m 3 fun n=>
 asI .i64 n fun o=>jb V 87 [.op [.rs (5,0) j,.os (1,0) k],iN o] fun p q=>
 iV p fun r=>unn r (unc q fun s t=>Cr s fun u v=>(unn t (grd (decide (0 <= p0) && decide (p0 < ni u.length)) (cT u p0.toNat fun w=>
 asAgg w fun x=>cT x 4 fun y=>
 asI .i64 y fun z=>zz z false u v)))))))
 (
 grd (decide (0 <= p0) && decide (p0 < ni j.length)) (cT j p0.toNat fun l=>
 asAgg l fun m=>cT m 0 fun n=>
 asI .i64 n fun o=>br (o != 1)
 (
 br (o != 5)
 (
 jb V 150 [.op [.rs (5,0) j,.os (1,0) k],.str ({ data:=#[32,46,32] })] fun p q=>
 iV p fun r=>unn r (unc q fun s t=>Cr s fun u v=>(unn t (jb V 87 [.op [.rs (5,0) u,.os (1,0) v],iN p0] fun w x=>
 iV w fun y=>unn y (unc x fun z A=>Cr z fun B C=>(unn A (some ((.tup []),[.op [.rs (5,0) B,.os (1,0) C]]))))))))
 (some ((.tup []),[.op [.rs (5,0) j,.os (1,0) k]])))
 (some ((.tup []),[.op [.rs (5,0) j,.os (1,0) k]])))))))
 (
 grd (decide (0 <= p0) && decide (p0 < ni p2.length)) (cT p2 p0.toNat fun e=>
 asAgg e fun f=>cT f 0 fun g=>
 asI .i64 g fun h=>br (h != 1)
 (
 br (h != 5)
 (
 jb V 150 [.op [.rs (5,0) p2,.os (1,0) p3],.str ({ data:=#[32,46,32] })] fun i j=>
 iV i fun k=>unn k (unc j fun l m=>Cr l fun n o=>(unn m (jb V 87 [.op [.rs (5,0) n,.os (1,0) o],iN p0] fun p q=>
 iV p fun r=>unn r (unc q fun s t=>Cr s fun u v=>(unn t (some ((.tup []),[.op [.rs (5,0) u,.os (1,0) v]]))))))))
 (some ((.tup []),[.op [.rs (5,0) p2,.os (1,0) p3]])))
 (some ((.tup []),[.op [.rs (5,0) p2,.os (1,0) p3]]))))):=by
 exact (yC _ _ _).trans (by kernel_rfl)
theorem Kz (a0_0:List D) (a0_1 a0_2:Int):V 201 [.op [.rs (1,0) a0_0,iN a0_1,iN a0_2]] =
 jb V 76 [.op [.rs (1,0) a0_0,iN a0_1,iN a0_2],iN (8)] fun a b=>
 asI .i64 a fun c=>unc b fun d e=>nC d fun f=>unc f fun g h=>kq (1,0) g fun i=>unc h fun j k=>asI .i64 j fun l=>unc k fun m n=>asI .i64 m fun o=>unn n (unn e (br (c == 0)
 (some ((.agg [iN (1),iN (0),.str ({ data:=#[] }),iN (0),iN (0)]),[.op [.rs (1,0) i,iN l,iN o]]))
 (
 br (c == 1)
 (
 jb V 76 [.op [.rs (1,0) i,iN l,iN o],iN (2)] fun p q=>
 asI .i64 p fun r=>unc q fun s t=>nC s fun u=>unc u fun v w=>kq (1,0) v fun x=>unc w fun y z=>asI .i64 y fun A=>unc z fun B C=>asI .i64 B fun E=>unn C (unn t (some ((.agg [iN (2),iN r,.str ({ data:=#[] }),iN (0),iN (0)]),[.op [.rs (1,0) x,iN A,iN E]]))))
 (
 br (c == 2)
 (
 jb V 75 [.op [.rs (1,0) i,iN l,iN o],(.rs (1,0) [.str ({ data:=#[97] }),.str ({ data:=#[98,99] }),.str ({ data:=#[120] }),.str ({ data:=#[102] }),.str ({ data:=#[43] }),.str ({ data:=#[108,105,115,116] })])] fun p q=>
 asS p fun r=>unc q fun s t=>nC s fun u=>unc u fun v w=>kq (1,0) v fun x=>unc w fun y z=>asI .i64 y fun A=>unc z fun B C=>asI .i64 B fun E=>unn C (unn t (some ((.agg [iN (4),iN (0),.str r,iN (0),iN (0)]),[.op [.rs (1,0) x,iN A,iN E]]))))
 (
 br (c == 3)
 (
 jb V 76 [.op [.rs (1,0) i,iN l,iN o],iN (5)] fun p q=>
 asI .i64 p fun r=>unc q fun s t=>nC s fun u=>unc u fun v w=>kq (1,0) v fun x=>unc w fun y z=>asI .i64 y fun A=>unc z fun B C=>asI .i64 B fun E=>unn C (unn t (some ((.agg [iN (9),iN r,.str ({ data:=#[] }),iN (0),iN (0)]),[.op [.rs (1,0) x,iN A,iN E]]))))
 (
 br (c == 4)
 (
 jb V 76 [.op [.rs (1,0) i,iN l,iN o],iN (5)] fun p q=>
 asI .i64 p fun r=>unc q fun s t=>nC s fun u=>unc u fun v w=>kq (1,0) v fun x=>unc w fun y z=>asI .i64 y fun A=>unc z fun B C=>asI .i64 B fun E=>unn C (unn t (some ((.agg [iN (8),iN r,.str ({ data:=#[] }),iN (0),iN (0)]),[.op [.rs (1,0) x,iN A,iN E]]))))
 (
 jb V 76 [.op [.rs (1,0) i,iN l,iN o],iN (12)] fun p q=>
 asI .i64 p fun r=>unc q fun s t=>nC s fun u=>unc u fun v w=>kq (1,0) v fun x=>unc w fun y z=>asI .i64 y fun A=>unc z fun B C=>asI .i64 B fun E=>unn C (unn t (some ((.agg [iN (3),(iN (w6 (r - 3))),.str ({ data:=#[] }),iN (0),iN (0)]),[.op [.rs (1,0) x,iN A,iN E]])))))))))):=by
 exact (yD Tryz.func201 rfl _).trans (by kernel_rfl)
theorem Lv (a0_0 a0_1 a0_2 a1_0:List D) (a1_1 a1_2 a1_3 a1_4 a1_5 a1_6 a1_7:Int):V 15 [.agg [.rs (5,0) a0_0,.rs (4,0) a0_1,.rs (3,0) a0_2],.agg [.rs (5,0) a1_0,iN a1_1,iN a1_2,iN a1_3,iN a1_4,iN a1_5,iN a1_6,iN a1_7]] =
 jb V 59 [.agg [.rs (5,0) a0_0,.rs (4,0) a0_1,.rs (3,0) a0_2]] fun a b=>
 asB a fun c=>unn b (br (!c)
 (some ((.bool false),[]))
 (
 jb V 60 [.agg [.rs (5,0) a1_0]] fun d e=>
 asB d fun f=>unn e (br (!f)
 (some ((.bool false),[]))
 (
 jb V 61 [.agg [.rs (5,0) a1_0],iN a1_2] fun g h=>
 asB g fun i=>unn h (br (!i)
 (some ((.bool false),[]))
 (
 jb V 61 [.agg [.rs (5,0) a1_0],iN a1_3] fun j k=>
 asB j fun l=>unn k (br (!l)
 (some ((.bool false),[]))
 (
 jb V 61 [.agg [.rs (5,0) a1_0],iN a1_4] fun m n=>
 asB m fun o=>unn n (br (!o)
 (some ((.bool false),[]))
 (
 jb V 62 [iN a1_1,iN (0),(iN (w6 (ni a0_1.length - 1)))] fun p q=>
 asB p fun r=>unn q (br (a1_5 == 0)
 (
 br r
 (
 br (a1_6 == 0)
 (some ((.bool (a1_7 == 0)),[]))
 (some ((.bool false),[])))
 (some ((.bool false),[])))
 (
 br (a1_5 == 1)
 (
 br r
 (
 jb V 62 [iN a1_6,iN (13),iN (19)] fun s t=>
 asB s fun u=>unn t (br u
 (
 br (a1_6 != 18)
 (
 jb V 61 [.agg [.rs (5,0) a1_0],iN a1_7] fun v w=>
 asB v fun x=>unn w (some ((.bool x),[])))
 (some ((.bool false),[])))
 (some ((.bool false),[]))))
 (some ((.bool false),[])))
 (
 br (a1_5 == 2)
 (
 br (a1_1 == 0)
 (
 br (a1_6 == 0)
 (
 jb V 61 [.agg [.rs (5,0) a1_0],iN a1_7] fun s t=>
 asB s fun u=>unn t (some ((.bool u),[])))
 (some ((.bool false),[])))
 (some ((.bool false),[])))
 (
 br (a1_5 == 3)
 (
 br (a1_1 == 0)
 (
 jb V 62 [iN a1_6,iN (1),iN (7)] fun s t=>
 asB s fun u=>unn t (br u
 (some ((.bool (a1_7 == 0)),[]))
 (some ((.bool false),[]))))
 (some ((.bool false),[])))
 (some ((.bool false),[])))))))))))))))):=by
 exact (yD Tryz.func15 rfl _).trans (by kernel_rfl)
theorem IL (p0:List D) (p1 p2:Int) (p3:List D):Cw p0 p1 p2 p3 =
 br (decide (p1 < ni p0.length))
 (
 grd (decide (0 <= p1) && decide (p1 < ni p0.length)) (cT p0 p1.toNat fun a=>
 asI .i64 a fun b=>jb V 215 [.op [.os (5,0) p3,.os (4,0) [],.os (3,0) [],iN p2],iN b] fun c d=>
 iV c fun e=>unn e (unc d fun f g=>tk1 f fun h i j k=>(unn g (br (k == 3)
 (some ((.tup [.agg [.os (5,0) [],.os (4,0) [],.os (3,0) []],iN (3),iN (0)]),[]))
 (
 br (k != 0)
 (some ((.tup [.agg [.os (5,0) [],.os (4,0) [],.os (3,0) []],iN k,iN p1]),[]))
 (Ap p0 (w6 (p1 + 1)) k h i j)))))))
 (
 jb V 59 [.agg [.rs (5,0) p3,.rs (4,0) [],.rs (3,0) []]] fun a b=>
 asB a fun c=>unn b (br (!c)
 (some ((.tup [.agg [.os (5,0) [],.os (4,0) [],.os (3,0) []],iN (3),iN (0)]),[]))
 (some ((.tup [.agg [.os (5,0) p3,.os (4,0) [],.os (3,0) []],iN (0),(iN (ni p0.length))]),[])))):=by
 exact (yC _ _ _).trans (by kernel_rfl)
theorem DF (p0:List D) (p1:Int) (p2:List D):Bx p0 p1 p2 =
 br (decide (p1 < ni p0.length))
 (
 grd (decide (0 <= p1) && decide (p1 < ni p0.length)) (cT p0 p1.toNat fun a=>
 asI .i64 a fun b=>jb V 61 [.agg [.rs (5,0) p2],iN b] fun c d=>
 asB c fun e=>unn d (br (!e)
 (some ((.tup [.agg [.os (5,0) [],.os (4,0) [],.os (3,0) []],iN (3),iN (0)]),[]))
 (Bx p0 (w6 (p1 + 1)) p2))))
 (
 jb V 147 [.agg [.rs (5,0) p2]] fun a b=>
 asAgg a fun c=>unc c fun d e=>jl (5,0) d fun f=>unn e (unn b (Cw p0 (0) (0) f))):=by
 exact (yC _ _ _).trans (by kernel_rfl)
theorem RC (p:List D) (m1 m2 m3 m4 m5 m6 m7 v:Int):V 95 [.op [.os (5,0) p,iN m1,iN m2,iN m3,iN m4,iN m5,iN m6,iN m7],iN v] =
 jb V 158 [.op [.os (5,0) p],(.agg [iN (5),iN (0),.str ({ data:=#[] }),iN v,iN m2])] fun a b=>
 asI .i64 a fun c=>unc b fun d e=>nC d fun f=>unc f fun g h=>jl (5,0) g fun i=>unn h (unn e (some ((.tup []),[.op [.os (5,0) i,iN m1,iN c,iN m3,iN m4,iN m5,iN m6,iN m7]]))):=by
 exact (yD Tryz.func95 rfl _).trans (by kernel_rfl)
theorem Qu (p q:List D) (v:Int):V 96 [.op [.os (5,0) p],.agg [.rs (5,0) q],iN v] =
 jb V 149 [.agg [.rs (5,0) q],.rs (1,0) [iN v]] fun a b=>
 jl (1,0) a fun c=>unn b (jb V 148 [.op [.os (5,0) p],(.agg [.rs (5,0) q]),.rs (1,0) c] fun d e=>
 jl (
 1,0) d fun f=>unc e fun g h=>nC g fun i=>unc i fun j k=>jl (5,0) j fun l=>unn k (unn h (grd (decide (0 <= v) && decide (v < ni f.length)) (cT f v.toNat fun m=>
 asI .i64 m fun n=>some ((iN n),[.op [.os (5,0) l]]))))):=by
 exact (yD Tryz.func96 rfl _).trans (by kernel_rfl)
theorem PZ (a0_0:List D) (a0_1 a0_2 a1_:Int):V 155 [.op [.rs (1,0) a0_0,iN a0_1,iN a0_2],iN a1_] =
 jb V 76 [.op [.rs (1,0) a0_0,iN a0_1,iN a0_2],iN a1_] fun a b=>
 asI .i64 a fun c=>unc b fun d e=>nC d fun f=>unc f fun g h=>kq (1,0) g fun i=>unc h fun j k=>asI .i64 j fun l=>unc k fun m n=>asI .i64 m fun o=>unn n (unn e (some ((.bool (c == 0)),[.op [.rs (1,0) i,iN l,iN o]]))):=by
 exact (yD Tryz.func155 rfl _).trans (by kernel_rfl)
theorem Dp (p0 p1:Int) (p2 p3 p4 p5:List D):zA p0 p1 p2 p3 p4 p5 =
 br (decide (p0 < ni p2.length))
 (
 br (p1 == 0)
 (Af p0 (0) p1 p2 p3 p4 p5)
 (some ((.os (1,0) p2),[.op [.os (5,0) p3,.os (4,0) p4,.os (3,0) p5,iN p1]])))
 (some ((.os (1,0) p2),[.op [.os (5,0) p3,.os (4,0) p4,.os (3,0) p5,iN p1]])):=by
 exact (yC _ _ _).trans (by kernel_rfl)
theorem EH (p0:ByteArray) (p1:Int) (p2:List D):BX p0 p1 p2 =
 br (decide (p1 <= 19))
 (
 grd (decide (0 <= p1) && decide (p1 < ni p2.length)) (cT p2 p1.toNat fun a=>
 asS a fun b=>br (kc b p0)
 (some ((iN p1),[]))
 (BX p0 (w6 (p1 + 1)) p2)))
 (some ((iN (0)),[])):=by
 exact (yC _ _ _).trans (by kernel_rfl)
theorem Rk (a0_0 a1_:List D):V 189 [.agg [.rs (5,0) a0_0],.rs (1,0) a1_] =
 grd (decide (0 <= ni a0_0.length) && decide (ni a0_0.length <= LIM)) (Bc a1_ (ni a1_.length) (0) a0_0 (List.replicate (Int.toNat (ni a0_0.length)) (D.bool false))):=by
 exact (yD Tryz.func189 rfl _).trans (by kernel_rfl)
theorem Qf (p l d:List D) (h:Int) (x e:List D):V 236 [.op [.os (5,0) p,.os (4,0) l,.os (3,0) d,iN h],.rs (1,0) x,.rs (1,1) e] =
 AH x e (0) h p l d:=by
 exact (yD Tryz.func236 rfl _).trans (by kernel_rfl)
theorem Rm (a0_0 a0_1 a0_2:List D) (a1_:ByteArray):V 129 [.agg [.rs (5,0) a0_0,.rs (4,0) a0_1,.rs (3,0) a0_2],.str a1_] =
 Cz a1_ (0) a0_0 a0_1 a0_2:=by
 exact (yD Tryz.func129 rfl _).trans (by kernel_rfl)
theorem Kt (l:List D) (s:ByteArray):V 178 [.rs (3,0) l,.fn 179 [.bp [.str s]]] =
 Am l s (ni l.length) (0):=by
 exact (yD Tryz.func178 rfl _).trans (by kernel_rfl)
theorem RA (a0_:List D) (a1_:ByteArray):V 248 [.rs (1,1) a0_,.str a1_] =
 Bh a0_ a1_ (0):=by
 exact (yD Tryz.func248 rfl _).trans (by kernel_rfl)

end Go.Eng
/-! the functions as the interpreter has them -/
namespace Go.Eng
open Go.Proofs Go.Proofs.Tryz
set_option maxRecDepth 100000
theorem Qi (p l d:List D) (h x:Int) (e:List D):V 244 [.op [.os (5,0) p,.os (4,0) l,.os (3,0) d,iN h],iN x,.rs (1,1) e] =
 br (h != 0)
 (some ((.tup []),[.op [.os (5,0) p,.os (4,0) l,.os (3,0) d,iN h]]))
 (
 grd (decide (0 <= x) && decide (x < ni p.length)) (cT p x.toNat fun a=>
 tk6 a fun b _ c _ _=>(br (b == 1)
 (
 br (b == 1)
 (
 jb V 237 [.op [.os (5,0) p,.os (4,0) l,.os (3,0) d,iN h],(.agg [iN (1),iN x,iN (0),.str ({ data:=#[] })])] fun f g=>
 asI .i64 f fun _=>unc g fun i j=>tk1 i fun k m n o=>(unn j (some ((.tup []),[.op [.os (5,0) k,.os (4,0) m,.os (3,0) n,iN o]]))))
 (
 br (b == 4)
 (
 jb V 238 [.str c] fun f g=>
 asB f fun i=>unn g (br i
 (some ((.tup []),[.op [.os (5,0) p,.os (4,0) l,.os (3,0) d,iN (1)]]))
 (
 jb V 248 [.rs (1,1) e,.str c] fun j k=>
 tk9 j fun m n=>(unn k (br (decide (m >= 0))
 (
 jb V 237 [.op [.os (5,0) p,.os (4,0) l,.os (3,0) d,iN h],(.agg [iN (2),iN m,iN n,.str ({ data:=#[] })])] fun o q=>
 asI .i64 o fun _=>unc q fun r s=>tk1 r fun t u v w=>(unn s (some ((.tup []),[.op [.os (5,0) t,.os (4,0) u,.os (3,0) v,iN w]]))))
 (
 jb V 237 [.op [.os (5,0) p,.os (4,0) l,.os (3,0) d,iN h],(.agg [iN (3),iN (0),iN (0),.str c])] fun o q=>
 asI .i64 o fun _=>unc q fun r s=>tk1 r fun t u v w=>(unn s (some ((.tup []),[.op [.os (5,0) t,.os (4,0) u,.os (3,0) v,iN w]])))))))))
 (
 br (b != 5)
 (some ((.tup []),[.op [.os (5,0) p,.os (4,0) l,.os (3,0) d,iN (1)]]))
 (
 jb V 228 [.agg [.rs (5,0) p],iN x] fun f g=>
 tk2 f fun i j=>(unn g (br (!j)
 (some ((.tup []),[.op [.os (5,0) p,.os (4,0) l,.os (3,0) d,iN (1)]]))
 (
 grd (decide (0 <= 0) && decide (0 < ni i.length)) (cT i 0 fun k=>
 asI .i64 k fun m=>grd (decide (0 <= m) && decide (m < ni p.length)) (cT p m.toNat fun n=>
 tk6 n fun o _ q _ _=>(br (o == 4)
 (
 jb V 238 [.str q] fun r s=>
 asB r fun t=>unn s (br t
 (
 jb V 249 [.op [.os (5,0) p,.os (4,0) l,.os (3,0) d,iN h],.str q,.rs (1,0) i,.rs (1,1) e] fun u v=>
 iV u fun w=>unn w (unc v fun y z=>tk1 y fun A B C E=>(unn z (some ((.tup []),[.op [.os (5,0) A,.os (4,0) B,.os (3,0) C,iN E]])))))
 (
 br (decide (ni i.length > 5))
 (some ((.tup []),[.op [.os (5,0) p,.os (4,0) l,.os (3,0) d,iN (1)]]))
 (zj e (0) h i p l d))))
 (
 br (decide (ni i.length > 5))
 (some ((.tup []),[.op [.os (5,0) p,.os (4,0) l,.os (3,0) d,iN (1)]]))
 (zj e (0) h i p l d))))))))))))
 (
 br (b == 2)
 (
 br (b == 2)
 (
 jb V 237 [.op [.os (5,0) p,.os (4,0) l,.os (3,0) d,iN h],(.agg [iN (1),iN x,iN (0),.str ({ data:=#[] })])] fun f g=>
 asI .i64 f fun _=>unc g fun i j=>tk1 i fun k m n o=>(unn j (some ((.tup []),[.op [.os (5,0) k,.os (4,0) m,.os (3,0) n,iN o]]))))
 (
 br (b == 4)
 (
 jb V 238 [.str c] fun f g=>
 asB f fun i=>unn g (br i
 (some ((.tup []),[.op [.os (5,0) p,.os (4,0) l,.os (3,0) d,iN (1)]]))
 (
 jb V 248 [.rs (1,1) e,.str c] fun j k=>
 tk9 j fun m n=>(unn k (br (decide (m >= 0))
 (
 jb V 237 [.op [.os (5,0) p,.os (4,0) l,.os (3,0) d,iN h],(.agg [iN (2),iN m,iN n,.str ({ data:=#[] })])] fun o q=>
 asI .i64 o fun _=>unc q fun r s=>tk1 r fun t u v w=>(unn s (some ((.tup []),[.op [.os (5,0) t,.os (4,0) u,.os (3,0) v,iN w]]))))
 (
 jb V 237 [.op [.os (5,0) p,.os (4,0) l,.os (3,0) d,iN h],(.agg [iN (3),iN (0),iN (0),.str c])] fun o q=>
 asI .i64 o fun _=>unc q fun r s=>tk1 r fun t u v w=>(unn s (some ((.tup []),[.op [.os (5,0) t,.os (4,0) u,.os (3,0) v,iN w]])))))))))
 (
 br (b != 5)
 (some ((.tup []),[.op [.os (5,0) p,.os (4,0) l,.os (3,0) d,iN (1)]]))
 (
 jb V 228 [.agg [.rs (5,0) p],iN x] fun f g=>
 tk2 f fun i j=>(unn g (br (!j)
 (some ((.tup []),[.op [.os (5,0) p,.os (4,0) l,.os (3,0) d,iN (1)]]))
 (
 grd (decide (0 <= 0) && decide (0 < ni i.length)) (cT i 0 fun k=>
 asI .i64 k fun m=>grd (decide (0 <= m) && decide (m < ni p.length)) (cT p m.toNat fun n=>
 tk6 n fun o _ q _ _=>(br (o == 4)
 (
 jb V 238 [.str q] fun r s=>
 asB r fun t=>unn s (br t
 (
 jb V 249 [.op [.os (5,0) p,.os (4,0) l,.os (3,0) d,iN h],.str q,.rs (1,0) i,.rs (1,1) e] fun u v=>
 iV u fun w=>unn w (unc v fun y z=>tk1 y fun A B C E=>(unn z (some ((.tup []),[.op [.os (5,0) A,.os (4,0) B,.os (3,0) C,iN E]])))))
 (
 br (decide (ni i.length > 5))
 (some ((.tup []),[.op [.os (5,0) p,.os (4,0) l,.os (3,0) d,iN (1)]]))
 (zj e (0) h i p l d))))
 (
 br (decide (ni i.length > 5))
 (some ((.tup []),[.op [.os (5,0) p,.os (4,0) l,.os (3,0) d,iN (1)]]))
 (zj e (0) h i p l d))))))))))))
 (
 br (b == 3)
 (
 jb V 237 [.op [.os (5,0) p,.os (4,0) l,.os (3,0) d,iN h],(.agg [iN (1),iN x,iN (0),.str ({ data:=#[] })])] fun f g=>
 asI .i64 f fun _=>unc g fun i j=>tk1 i fun k m n o=>(unn j (some ((.tup []),[.op [.os (5,0) k,.os (4,0) m,.os (3,0) n,iN o]]))))
 (
 br (b == 4)
 (
 jb V 238 [.str c] fun f g=>
 asB f fun i=>unn g (br i
 (some ((.tup []),[.op [.os (5,0) p,.os (4,0) l,.os (3,0) d,iN (1)]]))
 (
 jb V 248 [.rs (1,1) e,.str c] fun j k=>
 tk9 j fun m n=>(unn k (br (decide (m >= 0))
 (
 jb V 237 [.op [.os (5,0) p,.os (4,0) l,.os (3,0) d,iN h],(.agg [iN (2),iN m,iN n,.str ({ data:=#[] })])] fun o q=>
 asI .i64 o fun _=>unc q fun r s=>tk1 r fun t u v w=>(unn s (some ((.tup []),[.op [.os (5,0) t,.os (4,0) u,.os (3,0) v,iN w]]))))
 (
 jb V 237 [.op [.os (5,0) p,.os (4,0) l,.os (3,0) d,iN h],(.agg [iN (3),iN (0),iN (0),.str c])] fun o q=>
 asI .i64 o fun _=>unc q fun r s=>tk1 r fun t u v w=>(unn s (some ((.tup []),[.op [.os (5,0) t,.os (4,0) u,.os (3,0) v,iN w]])))))))))
 (
 br (b != 5)
 (some ((.tup []),[.op [.os (5,0) p,.os (4,0) l,.os (3,0) d,iN (1)]]))
 (
 jb V 228 [.agg [.rs (5,0) p],iN x] fun f g=>
 tk2 f fun i j=>(unn g (br (!j)
 (some ((.tup []),[.op [.os (5,0) p,.os (4,0) l,.os (3,0) d,iN (1)]]))
 (
 grd (decide (0 <= 0) && decide (0 < ni i.length)) (cT i 0 fun k=>
 asI .i64 k fun m=>grd (decide (0 <= m) && decide (m < ni p.length)) (cT p m.toNat fun n=>
 tk6 n fun o _ q _ _=>(br (o == 4)
 (
 jb V 238 [.str q] fun r s=>
 asB r fun t=>unn s (br t
 (
 jb V 249 [.op [.os (5,0) p,.os (4,0) l,.os (3,0) d,iN h],.str q,.rs (1,0) i,.rs (1,1) e] fun u v=>
 iV u fun w=>unn w (unc v fun y z=>tk1 y fun A B C E=>(unn z (some ((.tup []),[.op [.os (5,0) A,.os (4,0) B,.os (3,0) C,iN E]])))))
 (
 br (decide (ni i.length > 5))
 (some ((.tup []),[.op [.os (5,0) p,.os (4,0) l,.os (3,0) d,iN (1)]]))
 (zj e (0) h i p l d))))
 (
 br (decide (ni i.length > 5))
 (some ((.tup []),[.op [.os (5,0) p,.os (4,0) l,.os (3,0) d,iN (1)]]))
 (zj e (0) h i p l d)))))))))))))))):=by
 exact (yD Tryz.func244 rfl _).trans (by kernel_rfl)
theorem AX (p o:List D) (v:Int):V 87 [.op [.rs (5,0) p,.os (1,0) o],iN v] =
 grd (decide (0 <= v) && decide (v < ni p.length)) (cT p v.toNat fun a=>
 tk6 a fun b c d _ _=>(jb V 88 [.op [.rs (5,0) p,.os (1,0) o]] fun e f=>
 asB e fun g=>unc f fun h i=>Cr h fun j k=>(unn i (br g
 (some ((.tup []),[.op [.rs (5,0) j,.os (1,0) k]]))
 (
 br (b == 1)
 (
 jb V 150 [.op [.rs (5,0) j,.os (1,0) k],.str ({ data:=#[40] })] fun l m=>
 iV l fun n=>unn n (unc m fun q r=>Cr q fun s t=>(unn r (jb V 151 [.op [.rs (5,0) s,.os (1,0) t],iN v] fun u w=>
 iV u fun x=>unn x (unc w fun y z=>Cr y fun A B=>(unn z (jb V 150 [.op [.rs (5,0) A,.os (1,0) B],.str ({ data:=#[41] })] fun C E=>
 iV C fun F=>unn F (unc E fun G H=>Cr G fun I J=>(unn H (some ((.tup []),[.op [.rs (5,0) I,.os (1,0) J]])))))))))))
 (
 br (b == 5)
 (
 jb V 150 [.op [.rs (5,0) j,.os (1,0) k],.str ({ data:=#[40] })] fun l m=>
 iV l fun n=>unn n (unc m fun q r=>Cr q fun s t=>(unn r (jb V 151 [.op [.rs (5,0) s,.os (1,0) t],iN v] fun u w=>
 iV u fun x=>unn x (unc w fun y z=>Cr y fun A B=>(unn z (jb V 150 [.op [.rs (5,0) A,.os (1,0) B],.str ({ data:=#[41] })] fun C E=>
 iV C fun F=>unn F (unc E fun G H=>Cr G fun I J=>(unn H (some ((.tup []),[.op [.rs (5,0) I,.os (1,0) J]])))))))))))
 (
 br (b == 2)
 (
 br (c == 1)
 (
 jb V 150 [.op [.rs (5,0) j,.os (1,0) k],.str ({ data:=#[35,116] })] fun l m=>
 iV l fun n=>unn n (unc m fun q r=>Cr q fun s t=>(unn r (some ((.tup []),[.op [.rs (5,0) s,.os (1,0) t]])))))
 (
 br (b == 2)
 (
 jb V 150 [.op [.rs (5,0) j,.os (1,0) k],.str ({ data:=#[35,102] })] fun l m=>
 iV l fun n=>unn n (unc m fun q r=>Cr q fun s t=>(unn r (some ((.tup []),[.op [.rs (5,0) s,.os (1,0) t]])))))
 (
 br (b == 3)
 (
 jb V 152 [iN c] fun l m=>
 asS l fun n=>unn m (jb V 150 [.op [.rs (5,0) j,.os (1,0) k],.str n] fun q r=>
 iV q fun s=>unn s (unc r fun t u=>Cr t fun w x=>(unn u (some ((.tup []),[.op [.rs (5,0) w,.os (1,0) x]]))))))
 (
 br (b == 4)
 (
 jb V 150 [.op [.rs (5,0) j,.os (1,0) k],.str d] fun l m=>
 iV l fun n=>unn n (unc m fun q r=>Cr q fun s t=>(unn r (some ((.tup []),[.op [.rs (5,0) s,.os (1,0) t]])))))
 (
 grd (decide (0 <= w6 (b - 6)) && decide (w6 (b - 6) < ni 4)) (cT ([D.str { data:=#[35,102,117,110] },D.str { data:=#[35,107,111,110,116] },D.str { data:=#[35,112,114,105,109] },D.str { data:=#[35,112,105,100] }]) (Int.toNat (w6 (b - 6))) fun l=>
 asS l fun m=>jb V 152 [iN c] fun n q=>
 asS n fun r=>unn q (grd (decide (ni (ByteArray.size m + ByteArray.size r) <= LIM)) (jb V 150 [.op [.rs (5,0) j,.os (1,0) k],.str (m++r)] fun s t=>
 iV s fun u=>unn u (unc t fun w x=>Cr w fun y z=>(unn x (some ((.tup []),[.op [.rs (5,0) y,.os (1,0) z]]))))))))))))
 (
 br (b == 2)
 (
 jb V 150 [.op [.rs (5,0) j,.os (1,0) k],.str ({ data:=#[35,102] })] fun l m=>
 iV l fun n=>unn n (unc m fun q r=>Cr q fun s t=>(unn r (some ((.tup []),[.op [.rs (5,0) s,.os (1,0) t]])))))
 (
 br (b == 3)
 (
 jb V 152 [iN c] fun l m=>
 asS l fun n=>unn m (jb V 150 [.op [.rs (5,0) j,.os (1,0) k],.str n] fun q r=>
 iV q fun s=>unn s (unc r fun t u=>Cr t fun w x=>(unn u (some ((.tup []),[.op [.rs (5,0) w,.os (1,0) x]]))))))
 (
 br (b == 4)
 (
 jb V 150 [.op [.rs (5,0) j,.os (1,0) k],.str d] fun l m=>
 iV l fun n=>unn n (unc m fun q r=>Cr q fun s t=>(unn r (some ((.tup []),[.op [.rs (5,0) s,.os (1,0) t]])))))
 (
 grd (decide (0 <= w6 (b - 6)) && decide (w6 (b - 6) < ni 4)) (cT ([D.str { data:=#[35,102,117,110] },D.str { data:=#[35,107,111,110,116] },D.str { data:=#[35,112,114,105,109] },D.str { data:=#[35,112,105,100] }]) (Int.toNat (w6 (b - 6))) fun l=>
 asS l fun m=>jb V 152 [iN c] fun n q=>
 asS n fun r=>unn q (grd (decide (ni (ByteArray.size m + ByteArray.size r) <= LIM)) (jb V 150 [.op [.rs (5,0) j,.os (1,0) k],.str (m++r)] fun s t=>
 iV s fun u=>unn u (unc t fun w x=>Cr w fun y z=>(unn x (some ((.tup []),[.op [.rs (5,0) y,.os (1,0) z]])))))))))))))))))):=by
 exact (yD Tryz.func87 rfl _).trans (by kernel_rfl)
theorem Ol (cp cl cd p:List D) (m1 m2 m3 m4 m5 m6 m7 f:Int) (l:List D) (nx:Int):V 233 [.agg [.rs (5,0) cp,.rs (4,0) cl,.rs (3,0) cd],.op [.os (5,0) p,iN m1,iN m2,iN m3,iN m4,iN m5,iN m6,iN m7],iN f,.rs (1,0) l,iN nx] =
 grd (decide (0 <= f) && decide (f < ni p.length)) (cT p f.toNat fun a=>
 tk6 a fun b c _ d _=>(br (b == 6)
 (
 grd (!decide (8 = 0)) (br (Int.tmod c (8) != ni l.length)
 (some ((iN (2)),[.op [.os (5,0) p,iN m1,iN m2,iN m3,iN m4,iN m5,iN m6,iN m7]]))
 (
 grd (!decide (8 = 0)) (br (decide (w6 (Int.tdiv c (8)) >= ni cl.length))
 (some ((iN (7)),[.op [.os (5,0) p,iN m1,iN m2,iN m3,iN m4,iN m5,iN m6,iN m7]]))
 (
 jb V 158 [.op [.os (5,0) p],(.agg [iN (3),iN nx,.str ({ data:=#[] }),iN (0),iN (0)])] fun e g=>
 asI .i64 e fun h=>unc g fun i j=>nC i fun k=>unc k fun m n=>jl (5,0) m fun o=>unn n (unn j (jb V 210 [.op [.os (5,0) o],.rs (1,0) [iN h,iN m2,iN m3]] fun q r=>
 asI .i64 q fun s=>unc r fun t u=>nC t fun v=>unc v fun w x=>jl (5,0) w fun y=>unn x (unn u (jb V 158 [.op [.os (5,0) y],(.agg [iN (5),iN (0),.str ({ data:=#[] }),iN s,iN m4])] fun z A=>
 asI .i64 z fun B=>unc A fun C E=>nC C fun F=>unc F fun G H=>jl (5,0) G fun I=>unn H (unn E (jb V 210 [.op [.os (5,0) I],.rs (1,0) l] fun J K=>
 asI .i64 J fun L=>unc K fun M N=>nC M fun O=>unc O fun P Q=>jl (5,0) P fun R=>unn Q (unn N (jb V 158 [.op [.os (5,0) R],(.agg [iN (5),iN (0),.str ({ data:=#[] }),iN L,iN d])] fun S T=>
 asI .i64 S fun U=>unc T fun W X=>nC W fun Y=>unc Y fun Z a0=>jl (5,0) Z fun a1=>unn a0 (unn X (jb V 158 [.op [.os (5,0) a1],(.agg [iN (1),iN (0),.str ({ data:=#[] }),iN (0),iN (0)])] fun a2 a3=>
 asI .i64 a2 fun a4=>unc a3 fun a5 a6=>nC a5 fun a7=>unc a7 fun a8 a9=>jl (5,0) a8 fun b0=>unn a9 (unn a6 (grd (!decide (8 = 0)) (some ((iN (0)),[(.op [.os (5,0) b0,(iN (w6 (Int.tdiv c (8)))),iN a4,iN U,iN B,iN m5,iN m6,iN m7])])))))))))))))))))))
 (
 br (b == 8)
 (
 jb V 240 [.agg [.rs (5,0) cp,.rs (4,0) cl,.rs (3,0) cd],(.op [.os (5,0) p,iN m1,iN m2,iN m3,iN m4,iN m5,iN m6,iN m7]),iN c,.rs (1,0) l,iN nx] fun e g=>
 asI .i64 e fun h=>unc g fun i j=>tk5 i fun k m n o q r s t=>(unn j (some ((iN h),[.op [.os (5,0) k,iN m,iN n,iN o,iN q,iN r,iN s,iN t]]))))
 (
 br (b == 7)
 (
 br (ni l.length != 1)
 (some ((iN (2)),[.op [.os (5,0) p,iN m1,iN m2,iN m3,iN m4,iN m5,iN m6,iN m7]]))
 (
 jb V 234 [.agg [.rs (5,0) p],iN d,iN (4)] fun e g=>
 Wk e fun h i j=>(unn g (br (!j)
 (some ((iN (7)),[.op [.os (5,0) p,iN m1,iN m2,iN m3,iN m4,iN m5,iN m6,iN m7]]))
 (
 grd (decide (0 <= 0) && decide (0 < ni i.length)) (cT i 0 fun k=>
 asI .i64 k fun m=>grd (decide (0 <= 1) && decide (1 < ni i.length)) (cT i 1 fun n=>
 asI .i64 n fun o=>grd (decide (0 <= 2) && decide (2 < ni i.length)) (cT i 2 fun q=>
 asI .i64 q fun r=>grd (decide (0 <= 0) && decide (0 < ni l.length)) (cT l 0 fun s=>
 asI .i64 s fun t=>jb V 95 [.op [.os (5,0) p,iN h,iN m,iN o,iN r,iN m5,iN m6,iN m7],iN t] fun u v=>
 iV u fun w=>unn w (unc v fun x y=>tk5 x fun z A B C E F G H=>(unn y (some ((iN (0)),[.op [.os (5,0) z,iN A,iN B,iN C,iN E,iN F,iN G,iN H]])))))))))))))
 (some ((iN (3)),[.op [.os (5,0) p,iN m1,iN m2,iN m3,iN m4,iN m5,iN m6,iN m7]])))))):=by
 exact (yD Tryz.func233 rfl _).trans (by kernel_rfl)
theorem FK (p0 p1 p2 p3 p4 p5 p6 p7:Int) (p8:List D) (p9 p10:Int) (p11 p12 p13:List D) (p14 p15 p16 p17 p18 p19 p20:Int) (p21:List D):z4 p0 p1 p2 p3 p4 p5 p6 p7 p8 p9 p10 p11 p12 p13 p14 p15 p16 p17 p18 p19 p20 p21 =
 br (decide (p0 < 40))
 (
 br (p18 == 0)
 (
 jb V 89 [.agg [.rs (5,0) p11,.rs (4,0) p12,.rs (3,0) p13],(.agg [.rs (5,0) p21,iN p14,iN p15,iN p16,iN p17,iN p18,iN p19,iN p20])] fun a b=>
 asAgg a fun c=>unc c fun d e=>jl (5,0) d fun f=>unc e fun g h=>asI .i64 g fun i=>unc h fun j k=>asI .i64 j fun l=>unc k fun m n=>asI .i64 m fun o=>unc n fun p q=>asI .i64 p fun r=>unc q fun s t=>asI .i64 s fun u=>unc t fun v w=>asI .i64 v fun x=>unc w fun y z=>asI .i64 y fun A=>unn z (unn b (z4 (w6 (p0 + 1)) p1 p2 p3 p4 p5 p6 p7 p8 p9 p10 p11 p12 p13 i l o r u x A f)))
 (
 jb V 90 [.op [.rs (1,0) p8,iN p9,iN p10]] fun a b=>
 asAgg a fun c=>unc c fun d e=>jl (5,0) d fun f=>unn e (unc b fun g h=>nC g fun i=>unc i fun j k=>kq (1,0) j fun l=>unc k fun m n=>asI .i64 m fun o=>unc n fun p q=>asI .i64 p fun r=>unn q (unn h (jb V 91 [.op [.rs (1,0) l,iN o,iN r],(.agg [.rs (5,0) f])] fun s t=>
 asI .i64 s fun u=>unc t fun v w=>nC v fun x=>unc x fun y z=>kq (1,0) y fun _=>unc z fun A B=>asI .i64 A fun _=>unc B fun C E=>asI .i64 C fun _=>unn E (unn w (some ((.tup [.agg [.rs (5,0) p11,.rs (4,0) p12,.rs (3,0) p13],(.agg [.os (5,0) p21,iN p14,iN p15,iN p16,iN p17,iN p18,iN p19,iN p20]),(.agg [.rs (5,0) f]),iN u]),[]))))))))
 (
 jb V 90 [.op [.rs (1,0) p8,iN p9,iN p10]] fun a b=>
 asAgg a fun c=>unc c fun d e=>jl (5,0) d fun f=>unn e (unc b fun g h=>nC g fun i=>unc i fun j k=>kq (1,0) j fun l=>unc k fun m n=>asI .i64 m fun o=>unc n fun p q=>asI .i64 p fun r=>unn q (unn h (jb V 91 [.op [.rs (1,0) l,iN o,iN r],(.agg [.rs (5,0) f])] fun s t=>
 asI .i64 s fun u=>unc t fun v w=>nC v fun x=>unc x fun y z=>kq (1,0) y fun _=>unc z fun A B=>asI .i64 A fun _=>unc B fun C E=>asI .i64 C fun _=>unn E (unn w (some ((.tup [.agg [.rs (5,0) p11,.rs (4,0) p12,.rs (3,0) p13],(.agg [.os (5,0) p21,iN p14,iN p15,iN p16,iN p17,iN p18,iN p19,iN p20]),(.agg [.rs (5,0) f]),iN u]),[]))))))):=by
 exact (yC _ _ _).trans (by kernel_rfl)
theorem IQ (p0:ByteArray) (p1 p2:List D) (p3 p4:Int) (p5 p6 p7:List D):Ae p0 p1 p2 p3 p4 p5 p6 p7 =
 br (decide (p3 < ni p7.length))
 (
 br (p4 == 0)
 (
 grd (decide (0 <= p3) && decide (p3 < ni p7.length)) (cT p7 p3.toNat fun a=>
 asAgg a fun b=>cT b 0 fun c=>
 asS c fun d=>br (kc d p0)
 (Ae p0 p1 p2 (w6 (p3 + 1)) (2) p5 p6 p7)
 (Ae p0 p1 p2 (w6 (p3 + 1)) p4 p5 p6 p7)))
 (
 grd (decide (ni (List.length (p7++[D.agg [D.str p0,iN (ni p6.length),iN (ni p1.length)]])) <= LIM)) (nam (p7++[D.agg [D.str p0,iN (ni p6.length),iN (ni p1.length)]]) fun a=>
 jb V 236 [.op [.os (5,0) p5,.os (4,0) p6,.os (3,0) a,iN p4],.rs (1,0) p2,(.rs (1,1) [.rs (1,0) p1])] fun b c=>
 iV b fun d=>unn d (unc c fun e f=>tk1 e fun g h i j=>(unn f (jb V 237 [.op [.os (5,0) g,.os (4,0) h,.os (3,0) i,iN j],(.agg [iN (8),iN (0),iN (0),.str ({ data:=#[] })])] fun k l=>
 asI .i64 k fun _=>unc l fun m n=>tk1 m fun o p q r=>(unn n (some ((.tup []),[.op [.os (5,0) o,.os (4,0) p,.os (3,0) q,iN r]])))))))))
 (
 grd (decide (ni (List.length (p7++[D.agg [D.str p0,iN (ni p6.length),iN (ni p1.length)]])) <= LIM)) (nam (p7++[D.agg [D.str p0,iN (ni p6.length),iN (ni p1.length)]]) fun a=>
 jb V 236 [.op [.os (5,0) p5,.os (4,0) p6,.os (3,0) a,iN p4],.rs (1,0) p2,(.rs (1,1) [.rs (1,0) p1])] fun b c=>
 iV b fun d=>unn d (unc c fun e f=>tk1 e fun g h i j=>(unn f (jb V 237 [.op [.os (5,0) g,.os (4,0) h,.os (3,0) i,iN j],(.agg [iN (8),iN (0),iN (0),.str ({ data:=#[] })])] fun k l=>
 asI .i64 k fun _=>unc l fun m n=>tk1 m fun o p q r=>(unn n (some ((.tup []),[.op [.os (5,0) o,.os (4,0) p,.os (3,0) q,iN r]])))))))):=by
 exact (yC _ _ _).trans (by kernel_rfl)
theorem Rx (a0_:ByteArray):V 227 [.str a0_] =
 br (decide (ni (ByteArray.size a0_) > 1))
 (
 grd (decide (0 <= 0) && decide (0 < ni (ByteArray.size a0_))) (br (bt a0_ (0) == 45)
 (
 grd (cW (ByteArray.size a0_) (some (1)) none) (br (decide (ni (ByteArray.size (ByteArray.extract a0_ (Int.toNat (1)) (ByteArray.size a0_))) > 10))
 (some ((.tup [iN (0),.bool false]),[]))
 (
 br (ni (ByteArray.size (ByteArray.extract a0_ (Int.toNat (1)) (ByteArray.size a0_))) == 0)
 (some ((.tup [iN (0),.bool false]),[]))
 (zM a0_ (ByteArray.extract a0_ (Int.toNat (1)) (ByteArray.size a0_)) (0) (0)))))
 (
 br (decide (ni (ByteArray.size a0_) > 10))
 (some ((.tup [iN (0),.bool false]),[]))
 (
 br (ni (ByteArray.size a0_) == 0)
 (some ((.tup [iN (0),.bool false]),[]))
 (zM a0_ a0_ (0) (0))))))
 (
 br (decide (ni (ByteArray.size a0_) > 10))
 (some ((.tup [iN (0),.bool false]),[]))
 (
 br (ni (ByteArray.size a0_) == 0)
 (some ((.tup [iN (0),.bool false]),[]))
 (zM a0_ a0_ (0) (0)))):=by
 exact (yD Tryz.func227 rfl _).trans (by kernel_rfl)
theorem KH (a0_:ByteArray):V 238 [.str a0_] =
 br (kc a0_ { data:=#[113,117,111,116,101] })
 (some ((.bool true),[]))
 (
 br (kc a0_ { data:=#[105,102] })
 (some ((.bool true),[]))
 (
 br (kc a0_ { data:=#[102,110] })
 (some ((.bool true),[]))
 (
 br (kc a0_ { data:=#[100,111] })
 (some ((.bool true),[]))
 (
 br (kc a0_ { data:=#[108,101,116] })
 (some ((.bool true),[]))
 (some ((.bool (kc a0_ { data:=#[100,101,102,105,110,101] })),[])))))):=by
 exact (yD Tryz.func238 rfl _).trans (by kernel_rfl)
theorem Qc (p l:List D):V 210 [.op [.os (5,0) p],.rs (1,0) l] =
 jb V 158 [.op [.os (5,0) p],(.agg [iN (1),iN (0),.str ({ data:=#[] }),iN (0),iN (0)])] fun a b=>
 asI .i64 a fun c=>unc b fun d e=>nC d fun f=>unc f fun g h=>jl (5,0) g fun i=>unn h (unn e (BZ l c (w6 (ni l.length - 1)) i)):=by
 exact (yD Tryz.func210 rfl _).trans (by kernel_rfl)
theorem JK (p q l:List D):V 137 [.op [.os (5,0) p],.agg [.rs (5,0) q],.rs (1,0) l] =
 grd (decide (0 <= ni q.length) && decide (ni q.length <= LIM)) (jb V 189 [.agg [.rs (5,0) q],.rs (1,0) l] fun a b=>
 jl (1,0) a fun c=>unn b (y3 q (ni q.length) (0) (List.replicate (Int.toNat (ni q.length)) (iN (0))) c p)):=by
 exact (yD Tryz.func137 rfl _).trans (by kernel_rfl)
end Go.Eng
/-! the functions as the interpreter has them -/
namespace Go.Eng
open Go.Proofs Go.Proofs.Tryz
set_option maxRecDepth 100000
theorem KG (a0_0:List D) (a0_1 a0_2 a1_:Int):V 214 [.op [.rs (1,0) a0_0,iN a0_1,iN a0_2],iN a1_] =
 br (decide (a1_ <= 0))
 (
 jb V 75 [.op [.rs (1,0) a0_0,iN a0_1,iN a0_2],(.rs (1,0) [.str ({ data:=#[49] }),.str ({ data:=#[120] }),.str ({ data:=#[121] }),.str ({ data:=#[45,50] }),.str ({ data:=#[35,116] }),.str ({ data:=#[40,41] }),.str ({ data:=#[102] }),.str ({ data:=#[40,113,117,111,116,101,32,97,41] }),.str ({ data:=#[48] })])] fun a b=>
 asS a fun c=>unc b fun d e=>nC d fun f=>unc f fun g h=>kq (1,0) g fun i=>unc h fun j k=>asI .i64 j fun l=>unc k fun m n=>asI .i64 m fun o=>unn n (unn e (some ((.str c),[.op [.rs (1,0) i,iN l,iN o]]))))
 (
 jb V 214 [.op [.rs (1,0) a0_0,iN a0_1,iN a0_2],(iN (w6 (a1_ - 1)))] fun a b=>
 asS a fun c=>unc b fun d e=>nC d fun f=>unc f fun g h=>kq (1,0) g fun i=>unc h fun j k=>asI .i64 j fun l=>unc k fun m n=>asI .i64 m fun o=>unn n (unn e (jb V 214 [.op [.rs (1,0) i,iN l,iN o],(iN (w6 (a1_ - 1)))] fun p q=>
 asS p fun r=>unc q fun s t=>nC s fun u=>unc u fun v w=>kq (1,0) v fun x=>unc w fun y z=>asI .i64 y fun A=>unc z fun B C=>asI .i64 B fun E=>unn C (unn t (jb V 76 [.op [.rs (1,0) x,iN A,iN E],iN (9)] fun F G=>
 asI .i64 F fun H=>unc G fun I J=>nC I fun K=>unc K fun L M=>kq (1,0) L fun N=>unc M fun O P=>asI .i64 O fun Q=>unc P fun R S=>asI .i64 R fun T=>unn S (unn J (br (H == 0)
 (
 grd (decide (ni (ByteArray.size { data:=#[40,105,102,32] } + ByteArray.size c) <= LIM)) (grd (decide (ni (ByteArray.size ({ data:=#[40,105,102,32] }++c) + ByteArray.size { data:=#[32] }) <= LIM)) (grd (decide (ni (ByteArray.size ({ data:=#[40,105,102,32] }++c++{ data:=#[32] }) + ByteArray.size r) <= LIM)) (grd (decide (ni (ByteArray.size ({ data:=#[40,105,102,32] }++c++{ data:=#[32] }++r) + ByteArray.size { data:=#[32] }) <= LIM)) (jb V 214 [.op [.rs (1,0) N,iN Q,iN T],(iN (w6 (a1_ - 2)))] fun U W=>
 asS U fun X=>unc W fun Y Z=>nC Y fun a0=>unc a0 fun a1 a2=>kq (1,0) a1 fun a3=>unc a2 fun a4 a5=>asI .i64 a4 fun a6=>unc a5 fun a7 a8=>asI .i64 a7 fun a9=>unn a8 (unn Z (grd (decide (ni (ByteArray.size ({ data:=#[40,105,102,32] }++c++{ data:=#[32] }++r++{ data:=#[32] }) + ByteArray.size X) <= LIM)) (grd (decide (ni (ByteArray.size ({ data:=#[40,105,102,32] }++c++{ data:=#[32] }++r++{ data:=#[32] }++X) + ByteArray.size { data:=#[41] }) <= LIM)) (some ((.str ({ data:=#[40,105,102,32] }++c++{ data:=#[32] }++r++{ data:=#[32] }++X++{ data:=#[41] })),[.op [.rs (1,0) a3,iN a6,iN a9]]))))))))))
 (
 br (H == 1)
 (grd (decide (ni (ByteArray.size { data:=#[40,102,110,32,40,120,32,121,41,32] } + ByteArray.size c) <= LIM)) (grd (decide (ni (ByteArray.size ({ data:=#[40,102,110,32,40,120,32,121,41,32] }++c) + ByteArray.size { data:=#[41] }) <= LIM)) (some ((.str ({ data:=#[40,102,110,32,40,120,32,121,41,32] }++c++{ data:=#[41] })),[.op [.rs (1,0) N,iN Q,iN T]]))))
 (
 br (H == 2)
 (grd (decide (ni (ByteArray.size { data:=#[40,108,101,116,32,120,32] } + ByteArray.size c) <= LIM)) (grd (decide (ni (ByteArray.size ({ data:=#[40,108,101,116,32,120,32] }++c) + ByteArray.size { data:=#[32] }) <= LIM)) (grd (decide (ni (ByteArray.size ({ data:=#[40,108,101,116,32,120,32] }++c++{ data:=#[32] }) + ByteArray.size r) <= LIM)) (grd (decide (ni (ByteArray.size ({ data:=#[40,108,101,116,32,120,32] }++c++{ data:=#[32] }++r) + ByteArray.size { data:=#[41] }) <= LIM)) (some ((.str ({ data:=#[40,108,101,116,32,120,32] }++c++{ data:=#[32] }++r++{ data:=#[41] })),[.op [.rs (1,0) N,iN Q,iN T]]))))))
 (
 br (H == 3)
 (grd (decide (ni (ByteArray.size { data:=#[40,100,111,32] } + ByteArray.size c) <= LIM)) (grd (decide (ni (ByteArray.size ({ data:=#[40,100,111,32] }++c) + ByteArray.size { data:=#[32] }) <= LIM)) (grd (decide (ni (ByteArray.size ({ data:=#[40,100,111,32] }++c++{ data:=#[32] }) + ByteArray.size r) <= LIM)) (grd (decide (ni (ByteArray.size ({ data:=#[40,100,111,32] }++c++{ data:=#[32] }++r) + ByteArray.size { data:=#[41] }) <= LIM)) (some ((.str ({ data:=#[40,100,111,32] }++c++{ data:=#[32] }++r++{ data:=#[41] })),[.op [.rs (1,0) N,iN Q,iN T]]))))))
 (
 br (H == 4)
 (grd (decide (ni (ByteArray.size { data:=#[40,112,114,105,110,116,32] } + ByteArray.size c) <= LIM)) (grd (decide (ni (ByteArray.size ({ data:=#[40,112,114,105,110,116,32] }++c) + ByteArray.size { data:=#[41] }) <= LIM)) (some ((.str ({ data:=#[40,112,114,105,110,116,32] }++c++{ data:=#[41] })),[.op [.rs (1,0) N,iN Q,iN T]]))))
 (
 br (H == 5)
 (grd (decide (ni (ByteArray.size { data:=#[40,40,102,110,32,40,121,41,32] } + ByteArray.size c) <= LIM)) (grd (decide (ni (ByteArray.size ({ data:=#[40,40,102,110,32,40,121,41,32] }++c) + ByteArray.size { data:=#[41,32] }) <= LIM)) (grd (decide (ni (ByteArray.size ({ data:=#[40,40,102,110,32,40,121,41,32] }++c++{ data:=#[41,32] }) + ByteArray.size r) <= LIM)) (grd (decide (ni (ByteArray.size ({ data:=#[40,40,102,110,32,40,121,41,32] }++c++{ data:=#[41,32] }++r) + ByteArray.size { data:=#[41] }) <= LIM)) (some ((.str ({ data:=#[40,40,102,110,32,40,121,41,32] }++c++{ data:=#[41,32] }++r++{ data:=#[41] })),[.op [.rs (1,0) N,iN Q,iN T]]))))))
 (
 br (H == 6)
 (
 jb V 75 [.op [.rs (1,0) N,iN Q,iN T],(.rs (1,0) [.str ({ data:=#[43] }),.str ({ data:=#[45] }),.str ({ data:=#[42] }),.str ({ data:=#[60] }),.str ({ data:=#[61] }),.str ({ data:=#[99,111,110,115] }),.str ({ data:=#[101,113,63] })])] fun U W=>
 asS U fun X=>unc W fun Y Z=>nC Y fun a0=>unc a0 fun a1 a2=>kq (1,0) a1 fun a3=>unc a2 fun a4 a5=>asI .i64 a4 fun a6=>unc a5 fun a7 a8=>asI .i64 a7 fun a9=>unn a8 (unn Z (grd (decide (ni (ByteArray.size { data:=#[40] } + ByteArray.size X) <= LIM)) (grd (decide (ni (ByteArray.size ({ data:=#[40] }++X) + ByteArray.size { data:=#[32] }) <= LIM)) (grd (decide (ni (ByteArray.size ({ data:=#[40] }++X++{ data:=#[32] }) + ByteArray.size c) <= LIM)) (grd (decide (ni (ByteArray.size ({ data:=#[40] }++X++{ data:=#[32] }++c) + ByteArray.size { data:=#[32] }) <= LIM)) (grd (decide (ni (ByteArray.size ({ data:=#[40] }++X++{ data:=#[32] }++c++{ data:=#[32] }) + ByteArray.size r) <= LIM)) (grd (decide (ni (ByteArray.size ({ data:=#[40] }++X++{ data:=#[32] }++c++{ data:=#[32] }++r) + ByteArray.size { data:=#[41] }) <= LIM)) (some ((.str ({ data:=#[40] }++X++{ data:=#[32] }++c++{ data:=#[32] }++r++{ data:=#[41] })),[.op [.rs (1,0) a3,iN a6,iN a9]]))))))))))
 (
 br (H == 7)
 (
 jb V 75 [.op [.rs (1,0) N,iN Q,iN T],(.rs (1,0) [.str ({ data:=#[99,97,114] }),.str ({ data:=#[99,100,114] }),.str ({ data:=#[110,117,108,108,63] }),.str ({ data:=#[112,97,105,114,63] }),.str ({ data:=#[110,111,116] }),.str ({ data:=#[99,97,108,108,99,99] })])] fun U W=>
 asS U fun X=>unc W fun Y Z=>nC Y fun a0=>unc a0 fun a1 a2=>kq (1,0) a1 fun a3=>unc a2 fun a4 a5=>asI .i64 a4 fun a6=>unc a5 fun a7 a8=>asI .i64 a7 fun a9=>unn a8 (unn Z (grd (decide (ni (ByteArray.size { data:=#[40] } + ByteArray.size X) <= LIM)) (grd (decide (ni (ByteArray.size ({ data:=#[40] }++X) + ByteArray.size { data:=#[32] }) <= LIM)) (grd (decide (ni (ByteArray.size ({ data:=#[40] }++X++{ data:=#[32] }) + ByteArray.size c) <= LIM)) (grd (decide (ni (ByteArray.size ({ data:=#[40] }++X++{ data:=#[32] }++c) + ByteArray.size { data:=#[41] }) <= LIM)) (some ((.str ({ data:=#[40] }++X++{ data:=#[32] }++c++{ data:=#[41] })),[.op [.rs (1,0) a3,iN a6,iN a9]]))))))))
 (some ((.str c),[.op [.rs (1,0) N,iN Q,iN T]])))))))))))))))):=by
 exact (yD Tryz.func214 rfl _).trans (by kernel_rfl)
theorem Kv (a0_:List D):V 7 [.rs (1,0) a0_] =
 jb V 12 [.rs (1,0) a0_] fun a b=>
 asB a fun c=>unn b (br c
 (some ((.bool true),[]))
 (
 jb V 30 [.rs (1,0) a0_] fun d e=>
 iV d fun f=>unc f fun g h=>asAgg g fun i=>unc i fun j k=>mc (5,0) j fun l=>unc k fun m n=>mc (4,0) m fun o=>unc n fun p q=>mc (3,0) p fun r=>unn q (unc h fun s t=>asAgg s fun u=>unc u fun v w=>mc (5,0) v fun x=>unc w fun y z=>asI .i64 y fun A=>unc z fun B C=>asI .i64 B fun E=>unc C fun F G=>asI .i64 F fun H=>unc G fun I J=>asI .i64 I fun K=>unc J fun L M=>asI .i64 L fun N=>unc M fun O P=>asI .i64 O fun Q=>unc P fun R S=>asI .i64 R fun T=>unn S (unc t fun U W=>asAgg U fun X=>unc X fun Y Z=>mc (5,0) Y fun a0=>unn Z (unc W fun a1 a2=>asI .i64 a1 fun a3=>unn a2 (unn e (jb V 31 [.agg [.rs (5,0) l,.rs (4,0) o,.rs (3,0) r],(.agg [.rs (5,0) x,iN A,iN E,iN H,iN K,iN N,iN Q,iN T]),(.agg [.rs (5,0) a0]),iN a3] fun a4 a5=>
 asAgg a4 fun a6=>unc a6 fun a7 a8=>jl (5,0) a7 fun a9=>unc a8 fun b0 b1=>asI .i64 b0 fun b3=>unc b1 fun b4 b5=>asI .i64 b4 fun b6=>unc b5 fun b7 b8=>asI .i64 b7 fun b9=>unc b8 fun c0 c1=>asI .i64 c0 fun c2=>unc c1 fun c3 c4=>asI .i64 c3 fun c5=>unc c4 fun c6 c7=>asI .i64 c6 fun c8=>unc c7 fun c9 d0=>asI .i64 c9 fun d1=>unn d0 (unn a5 (jb V 32 [.agg [.rs (5,0) l,.rs (4,0) o,.rs (3,0) r],(.agg [.rs (5,0) x,iN A,iN E,iN H,iN K,iN N,iN Q,iN T]),(.agg [.rs (5,0) a0]),iN a3] fun d2 d3=>
 asAgg d2 fun d4=>unc d4 fun d5 d6=>jl (5,0) d5 fun d7=>unc d6 fun d8 d9=>asI .i64 d8 fun e0=>unc d9 fun e1 e2=>asI .i64 e1 fun _=>unc e2 fun e3 e4=>asI .i64 e3 fun _=>unc e4 fun e5 e6=>asI .i64 e5 fun _=>unc e6 fun e7 e8=>asI .i64 e7 fun e9=>unc e8 fun f0 f1=>asI .i64 f0 fun _=>unc f1 fun f2 f3=>asI .i64 f2 fun _=>unn f3 (unn d3 (br (c5 != e9)
 (some ((.bool false),[]))
 (
 br (b3 != e0)
 (some ((.bool false),[]))
 (
 br (ni a9.length != ni d7.length)
 (some ((.bool false),[]))
 (
 jb V 15 [.agg [.rs (5,0) l,.rs (4,0) o,.rs (3,0) r],(.agg [.rs (5,0) x,iN A,iN E,iN H,iN K,iN N,iN Q,iN T])] fun f4 f5=>
 asB f4 fun f6=>unn f5 (br (!f6)
 (
 br (c5 == 3)
 (some ((.bool (ni a9.length == 0)),[]))
 (some ((.bool false),[])))
 (
 br (N != 1)
 (
 br (c5 == N)
 (
 br (b3 == A)
 (some ((.bool true),[]))
 (some ((.bool (c5 == 3)),[])))
 (some ((.bool (c5 == 3)),[])))
 (
 br (c5 != 0)
 (
 br (c5 == N)
 (
 br (b3 == A)
 (some ((.bool true),[]))
 (some ((.bool (c5 == 3)),[])))
 (some ((.bool (c5 == 3)),[])))
 (
 grd (decide (0 <= b6) && decide (b6 < ni a9.length)) (cT a9 b6.toNat fun f7=>
 asAgg f7 fun f8=>unc f8 fun f9 g0=>asI .i64 f9 fun g1=>unc g0 fun g2 g3=>asI .i64 g2 fun _=>unc g3 fun g4 g5=>asS g4 fun _=>unc g5 fun g6 g7=>asI .i64 g6 fun g8=>unc g7 fun g9 h0=>asI .i64 g9 fun h1=>unn h0 (br (b3 == w6 (A + 1))
 (
 br (g1 == 5)
 (
 br (h1 == E)
 (
 jb V 29 [.agg [.rs (5,0) a9],iN g8] fun h2 h3=>
 asS h2 fun h4=>unn h3 (jb V 29 [.agg [.rs (5,0) a0],iN a3] fun h5 h6=>
 asS h5 fun h7=>unn h6 (br (kc h4 h7)
 (
 jb V 14 [.agg [.rs (5,0) l,.rs (4,0) o,.rs (3,0) r],(.agg [.rs (5,0) a9,iN b3,iN b6,iN b9,iN c2,iN c5,iN c8,iN d1])] fun h8 h9=>
 asB h8 fun i0=>unn h9 (some ((.bool i0),[])))
 (some ((.bool false),[])))))
 (some ((.bool false),[])))
 (some ((.bool false),[])))
 (some ((.bool false),[])))))))))))))))))))))):=by
 exact (yD Tryz.func7 rfl _).trans (by kernel_rfl)
theorem Jp (p0:ByteArray) (p1:Nat) (p2 p3 p4:Int) (p5 p6 p7 p8:List D):zH p0 p1 p2 p3 p4 p5 p6 p7 p8 =
 br (decide (p2 < ni (ByteArray.size p0)))
 (
 grd (decide (0 <= p2) && decide (p2 < ni (ByteArray.size p0))) (jb V 211 [.int .u8 (bt p0 p2)] fun a b=>
 asB a fun c=>unn b (br c
 (zH p0 p1 (w6 (p2 + 1)) p3 p4 p5 p6 p7 p8)
 (
 grd (cW (ByteArray.size p0) (some p4) (some p2)) (jb V 212 [(.str (ByteArray.extract p0 p4.toNat p2.toNat))] fun d e=>
 iV d fun f=>unc f fun g h=>tk6 g fun i j k l m=>(unc h fun n o=>asB n fun p=>unn o (unn e (br (!p)
 (
 jb V 147 [.agg [.rs (5,0) p5]] fun q r=>
 asAgg q fun s=>unc s fun t u=>jl (5,0) t fun v=>unn u (unn r (some ((.tup [.agg [.os (5,0) v],.os (1,0) p6,iN (3),iN p4]),[]))))
 (
 grd (decide (0 <= p3) && decide (p3 < ni p1) && decide (0 + p1 <= List.length p7)) (cT p7 (0 + Int.toNat p3) fun q=>
 asAgg q fun r=>cT r 1 fun s=>
 jl (1,0) s fun t=>asAgg q fun u=>jb V 158 [.op [.os (5,0) p8],.agg [iN i,iN j,.str k,iN l,iN m]] fun v w=>
 asI .i64 v fun x=>unc w fun y z=>nC y fun A=>unc A fun B C=>jl (5,0) B fun E=>unn C (unn z (grd (decide (ni (List.length (t++[iN x])) <= LIM)) (nam (t++[iN x]) fun F=>
 grd (decide (0 <= p3) && decide (p3 < ni p1) && decide (0 + p1 <= List.length (List.set p7 (0 + Int.toNat p3) (D.agg (List.take 1 u++[D.dead]++List.drop 2 u))))) (cT (List.set p7 (0 + Int.toNat p3) (D.agg (List.take 1 u++[D.dead]++List.drop 2 u))) (0 + Int.toNat p3) fun G=>
 asAgg G fun H=>nam (List.set (List.set p7 (0 + Int.toNat p3) (D.agg (List.take 1 u++[D.dead]++List.drop 2 u))) (0 + Int.toNat p3)
 (D.agg
 (List.take 1 H ++
 [D.os
 (TypeInfo.size (Tables.types (Program.toTables Tryz.prog))[3],
 match qU Tryz.prog (3) with
 | true=>0
 | false=>1)
 F] ++
 List.drop 2 H))) fun I=>
 y1 p0 p1 p2 p5 p6 I E))))))))))))))
 (
 grd (cW (ByteArray.size p0) (some p4) (some p2)) (jb V 212 [(.str (ByteArray.extract p0 p4.toNat p2.toNat))] fun a b=>
 iV a fun c=>unc c fun d e=>tk6 d fun f g h i j=>(unc e fun k l=>asB k fun m=>unn l (unn b (br (!m)
 (
 jb V 147 [.agg [.rs (5,0) p5]] fun n o=>
 asAgg n fun p=>unc p fun q r=>jl (5,0) q fun s=>unn r (unn o (some ((.tup [.agg [.os (5,0) s],.os (1,0) p6,iN (3),iN p4]),[]))))
 (
 grd (decide (0 <= p3) && decide (p3 < ni p1) && decide (0 + p1 <= List.length p7)) (cT p7 (0 + Int.toNat p3) fun n=>
 asAgg n fun o=>cT o 1 fun p=>
 jl (1,0) p fun q=>asAgg n fun r=>jb V 158 [.op [.os (5,0) p8],.agg [iN f,iN g,.str h,iN i,iN j]] fun s t=>
 asI .i64 s fun u=>unc t fun v w=>nC v fun x=>unc x fun y z=>jl (5,0) y fun A=>unn z (unn w (grd (decide (ni (List.length (q++[iN u])) <= LIM)) (nam (q++[iN u]) fun B=>
 grd (decide (0 <= p3) && decide (p3 < ni p1) && decide (0 + p1 <= List.length (List.set p7 (0 + Int.toNat p3) (D.agg (List.take 1 r++[D.dead]++List.drop 2 r))))) (cT (List.set p7 (0 + Int.toNat p3) (D.agg (List.take 1 r++[D.dead]++List.drop 2 r))) (0 + Int.toNat p3) fun C=>
 asAgg C fun E=>nam (List.set (List.set p7 (0 + Int.toNat p3) (D.agg (List.take 1 r++[D.dead]++List.drop 2 r))) (0 + Int.toNat p3)
 (D.agg
 (List.take 1 E ++
 [D.os
 (TypeInfo.size (Tables.types (Program.toTables Tryz.prog))[3],
 match qU Tryz.prog (3) with
 | true=>0
 | false=>1)
 B] ++
 List.drop 2 E))) fun F=>
 y1 p0 p1 p2 p5 p6 F A))))))))))):=by
 exact (yC _ _ _).trans (by kernel_rfl)
theorem Jb (a0_:Int):V 152 [iN a0_] =
 br (decide (a0_ < 0))
 (
 br (decide (a0_ > -10))
 (
 jb V 152 [(iN (w6 (0 - a0_)))] fun a b=>
 asS a fun c=>unn b (grd (decide (ni (ByteArray.size { data:=#[45] } + ByteArray.size c) <= LIM)) (some ((.str ({ data:=#[45] }++c)),[]))))
 (
 br (decide (a0_ < 0))
 (
 grd (!decide (10 = 0)) (jb V 152 [(iN (w6 (Int.tdiv a0_ (10))))] fun a b=>
 asS a fun c=>unn b (grd (!decide (10 = 0)) (jb V 152 [(iN (w6 (0 - Int.tmod a0_ (10))))] fun d e=>
 asS d fun f=>unn e (grd (decide (ni (ByteArray.size c + ByteArray.size f) <= LIM)) (some ((.str (c++f)),[])))))))
 (
 br (decide (a0_ < 10))
 (some ((.str (Utf8.encode (IntKind.wrap IntKind.i32 (w6 (48 + a0_))))),[]))
 (
 grd (!decide (10 = 0)) (jb V 152 [(iN (w6 (Int.tdiv a0_ (10))))] fun a b=>
 asS a fun c=>unn b (grd (!decide (10 = 0)) (grd (decide (ni (ByteArray.size c + ByteArray.size (Utf8.encode (IntKind.wrap IntKind.i32 (w6 (48 + Int.tmod a0_ (10)))))) <= LIM)) (some ((.str (c++Utf8.encode (IntKind.wrap IntKind.i32 (w6 (48 + Int.tmod a0_ (10)))))),[])))))))))
 (
 br (decide (a0_ < 0))
 (
 grd (!decide (10 = 0)) (jb V 152 [(iN (w6 (Int.tdiv a0_ (10))))] fun a b=>
 asS a fun c=>unn b (grd (!decide (10 = 0)) (jb V 152 [(iN (w6 (0 - Int.tmod a0_ (10))))] fun d e=>
 asS d fun f=>unn e (grd (decide (ni (ByteArray.size c + ByteArray.size f) <= LIM)) (some ((.str (c++f)),[])))))))
 (
 br (decide (a0_ < 10))
 (some ((.str (Utf8.encode (IntKind.wrap IntKind.i32 (w6 (48 + a0_))))),[]))
 (
 grd (!decide (10 = 0)) (jb V 152 [(iN (w6 (Int.tdiv a0_ (10))))] fun a b=>
 asS a fun c=>unn b (grd (!decide (10 = 0)) (grd (decide (ni (ByteArray.size c + ByteArray.size (Utf8.encode (IntKind.wrap IntKind.i32 (w6 (48 + Int.tmod a0_ (10)))))) <= LIM)) (some ((.str (c++Utf8.encode (IntKind.wrap IntKind.i32 (w6 (48 + Int.tmod a0_ (10)))))),[])))))))):=by
 exact (yD Tryz.func152 rfl _).trans (by kernel_rfl)
theorem Oq (a0_0:List D) (a1_ a2_:Int):V 234 [.agg [.rs (5,0) a0_0],iN a1_,iN a2_] =
 jb V 228 [.agg [.rs (5,0) a0_0],iN a1_] fun a b=>
 tk2 a fun c d=>(unn b (br (!d)
 (some ((.tup [iN (0),.os (1,0) [],.bool false]),[]))
 (
 br (ni c.length != a2_)
 (some ((.tup [iN (0),.os (1,0) [],.bool false]),[]))
 (
 grd (decide (0 <= 0) && decide (0 < ni c.length)) (cT c 0 fun e=>
 asI .i64 e fun f=>grd (decide (0 <= f) && decide (f < ni a0_0.length)) (cT a0_0 f.toNat fun g=>
 asAgg g fun h=>cT h 0 fun i=>
 asI .i64 i fun j=>br (j != 3)
 (some ((.tup [iN (0),.os (1,0) [],.bool false]),[]))
 (
 grd (decide (0 <= 0) && decide (0 < ni c.length)) (cT c 0 fun k=>
 asI .i64 k fun l=>grd (decide (0 <= l) && decide (l < ni a0_0.length)) (cT a0_0 l.toNat fun m=>
 asAgg m fun n=>cT n 1 fun o=>
 asI .i64 o fun p=>grd (cW c.length (some (1)) none) (some ((.tup [iN p,(.os (1,0) (part c (some (Int.toNat (1),List.length c - Int.toNat (1))))),.bool true]),[]))))))))))):=by
 exact (yD Tryz.func234 rfl _).trans (by kernel_rfl)
theorem Qq (a0_0:List D) (a0_1 a0_2 a0_3 a0_4 a0_5 a0_6 a0_7 a1_:Int):V 97 [.agg [.rs (5,0) a0_0,iN a0_1,iN a0_2,iN a0_3,iN a0_4,iN a0_5,iN a0_6,iN a0_7],iN a1_] =
 jb V 85 [.agg [.rs (5,0) a0_0,iN a0_1,iN a0_2,iN a0_3,iN a0_4,iN a0_5,iN a0_6,iN a0_7]] fun a b=>
 tk7 a fun c _ d e f _ _ _=>(unn b (some ((.agg [.os (5,0) c,iN (0),iN d,iN e,iN f,iN (3),iN a1_,iN (0)]),[]))):=by
 exact (yD Tryz.func97 rfl _).trans (by kernel_rfl)
theorem Qk (p l d:List D) (h x:Int):V 230 [.op [.os (5,0) p,.os (4,0) l,.os (3,0) d,iN h],iN x] =
 grd (decide (0 <= x) && decide (x < ni p.length)) (cT p x.toNat fun a=>
 tk6 a fun b _ c _ _=>(br (b == 4)
 (
 jb V 238 [.str c] fun e f=>
 asB e fun g=>unn f (some ((.tup [.str c,.bool (!g)]),[.op [.os (5,0) p,.os (4,0) l,.os (3,0) d,iN h]])))
 (some ((.tup [.str c,.bool false]),[.op [.os (5,0) p,.os (4,0) l,.os (3,0) d,iN h]])))):=by
 exact (yD Tryz.func230 rfl _).trans (by kernel_rfl)
theorem GP (a0_:Int):V 202 [iN a0_] =
 br (decide (a0_ < 0))
 (
 jb V 202 [(iN (w6 (0 - a0_)))] fun a b=>
 asS a fun c=>unn b (grd (decide (ni (ByteArray.size { data:=#[45] } + ByteArray.size c) <= LIM)) (some ((.str ({ data:=#[45] }++c)),[]))))
 (
 br (a0_ == 0)
 (some ((.str ({ data:=#[48] })),[]))
 (AQ a0_ ({ data:=#[] }))):=by
 exact (yD Tryz.func202 rfl _).trans (by kernel_rfl)
theorem NV (a0_0 a0_1 a0_2:List D) (a1_:Int):V 57 [.agg [.rs (5,0) a0_0,.rs (4,0) a0_1,.rs (3,0) a0_2],iN a1_] =
 jb V 58 [iN a1_,iN (0),(iN (w6 (ni a0_1.length - 1)))] fun a b=>
 asB a fun c=>unn b (some ((.bool c),[])):=by
 exact (yD Tryz.func57 rfl _).trans (by kernel_rfl)
theorem Ot (a0_0 a1_:List D):V 149 [.agg [.rs (5,0) a0_0],.rs (1,0) a1_] =
 grd (decide (0 <= ni a0_0.length) && decide (ni a0_0.length <= LIM)) (Aw a1_ (0) a0_0 (List.replicate (Int.toNat (ni a0_0.length)) (D.bool false))):=by
 exact (yD Tryz.func149 rfl _).trans (by kernel_rfl)
theorem Rv (a0_0:List D) (a1_:Int):V 61 [.agg [.rs (5,0) a0_0],iN a1_] =
 jb V 62 [iN a1_,iN (0),(iN (w6 (ni a0_0.length - 1)))] fun a b=>
 asB a fun c=>unn b (some ((.bool c),[])):=by
 exact (yD Tryz.func61 rfl _).trans (by kernel_rfl)
theorem Jr (p o:List D) :V 88 [.op [.rs (5,0) p,.os (1,0) o]] =
 some ((.bool (decide (ni o.length > 400))),[.op [.rs (5,0) p,.os (1,0) o]]):=by
 exact (yD Tryz.func88 rfl _).trans (by kernel_rfl)
theorem Rt (a0_:List D):V 51 [.rs (1,0) a0_] =
 CE a0_ (w6 (17000 + ni a0_.length)) (0):=by
 exact (yD Tryz.func51 rfl _).trans (by kernel_rfl)
theorem Mo (a0_0:List D) (a1_:Int):V 228 [.agg [.rs (5,0) a0_0],iN a1_] =
 AP a1_ a0_0 []:=by
 exact (yD Tryz.func228 rfl _).trans (by kernel_rfl)
theorem PT (a0_:ByteArray):V 128 [.str a0_] =
 AF a0_ (0):=by
 exact (yD Tryz.func128 rfl _).trans (by kernel_rfl)

end Go.Eng
/-! the functions as the interpreter has them -/
namespace Go.Eng
open Go.Proofs Go.Proofs.Tryz
set_option maxRecDepth 100000
theorem Qp (a0_0:List D) (a0_1 a0_2:Int):V 52 [.op [.rs (1,0) a0_0,iN a0_1,iN a0_2]] =
 jb V 112 [.op [.rs (1,0) a0_0,iN a0_1,iN a0_2]] fun a b=>
 iV a fun c=>unc c fun d e=>asAgg d fun f=>unc f fun g h=>mc (5,0) g fun i=>unc h fun j k=>mc (4,0) j fun l=>unc k fun m n=>mc (3,0) m fun o=>unn n (unc e fun p q=>asAgg p fun r=>unc r fun s t=>mc (5,0) s fun u=>unc t fun v w=>asI .i64 v fun x=>unc w fun y z=>asI .i64 y fun A=>unc z fun B C=>asI .i64 B fun E=>unc C fun F G=>asI .i64 F fun H=>unc G fun I J=>asI .i64 I fun K=>unc J fun L M=>asI .i64 L fun N=>unc M fun O P=>asI .i64 O fun Q=>unn P (unn q (unc b fun R S=>nC R fun T=>unc T fun U W=>kq (1,0) U fun X=>unc W fun Y Z=>asI .i64 Y fun a0=>unc Z fun a1 a2=>asI .i64 a1 fun a3=>unn a2 (unn S (jb V 76 [.op [.rs (1,0) X,iN a0,iN a3],iN (30)] fun a4 a5=>
 asI .i64 a4 fun a6=>unc a5 fun a7 a8=>nC a7 fun a9=>unc a9 fun b0 b1=>kq (1,0) b0 fun b2=>unc b1 fun b3 b4=>asI .i64 b3 fun b5=>unc b4 fun b6 b7=>asI .i64 b6 fun b8=>unn b7 (unn a8 (br (a6 == 0)
 (
 jb V 76 [.op [.rs (1,0) b2,iN b5,iN b8],iN (50)] fun b9 c0=>
 asI .i64 b9 fun c1=>unc c0 fun c2 c3=>nC c2 fun c4=>unc c4 fun c5 c6=>kq (1,0) c5 fun c7=>unc c6 fun c8 c9=>asI .i64 c8 fun d0=>unc c9 fun d1 d2=>asI .i64 d1 fun d3=>unn d2 (unn c3 (jb V 122 [.op [.rs (1,0) c7,iN d0,iN d3],(.rs (1,0) [iN (-1),iN (0),(iN (w6 (ni l.length - 1))),(iN (ni l.length)),iN c1])] fun d4 d5=>
 asI .i64 d4 fun d6=>unc d5 fun d7 d8=>nC d7 fun d9=>unc d9 fun e0 e1=>kq (1,0) e0 fun e2=>unc e1 fun e3 e4=>asI .i64 e3 fun e5=>unc e4 fun e6 e7=>asI .i64 e6 fun e8=>unn e7 (unn d8 (some ((.tup [.agg [.rs (5,0) i,.rs (4,0) l,.rs (3,0) o],(.agg [.rs (5,0) u,iN d6,iN A,iN E,iN H,iN K,iN N,iN Q])]),[.op [.rs (1,0) e2,iN e5,iN e8]]))))))
 (
 br (a6 == 1)
 (
 jb V 76 [.op [.rs (1,0) b2,iN b5,iN b8],iN (5)] fun b9 c0=>
 asI .i64 b9 fun c1=>unc c0 fun c2 c3=>nC c2 fun c4=>unc c4 fun c5 c6=>kq (1,0) c5 fun c7=>unc c6 fun c8 c9=>asI .i64 c8 fun d0=>unc c9 fun d1 d2=>asI .i64 d1 fun d3=>unn d2 (unn c3 (some ((.tup [.agg [.rs (5,0) i,.rs (4,0) l,.rs (3,0) o],(.agg [.rs (5,0) u,iN x,iN A,iN E,iN H,iN c1,iN N,iN Q])]),[.op [.rs (1,0) c7,iN d0,iN d3]]))))
 (
 br (a6 == 2)
 (
 jb V 76 [.op [.rs (1,0) b2,iN b5,iN b8],iN (21)] fun b9 c0=>
 asI .i64 b9 fun c1=>unc c0 fun c2 c3=>nC c2 fun c4=>unc c4 fun c5 c6=>kq (1,0) c5 fun c7=>unc c6 fun c8 c9=>asI .i64 c8 fun d0=>unc c9 fun d1 d2=>asI .i64 d1 fun d3=>unn d2 (unn c3 (some ((.tup [.agg [.rs (5,0) i,.rs (4,0) l,.rs (3,0) o],(.agg [.rs (5,0) u,iN x,iN A,iN E,iN H,iN K,iN c1,iN Q])]),[.op [.rs (1,0) c7,iN d0,iN d3]]))))
 (
 br (a6 == 3)
 (
 jb V 91 [.op [.rs (1,0) b2,iN b5,iN b8],(.agg [.rs (5,0) u])] fun b9 c0=>
 asI .i64 b9 fun c1=>unc c0 fun c2 c3=>nC c2 fun c4=>unc c4 fun c5 c6=>kq (1,0) c5 fun c7=>unc c6 fun c8 c9=>asI .i64 c8 fun d0=>unc c9 fun d1 d2=>asI .i64 d1 fun d3=>unn d2 (unn c3 (some ((.tup [.agg [.rs (5,0) i,.rs (4,0) l,.rs (3,0) o],(.agg [.rs (5,0) u,iN x,iN A,iN E,iN H,iN K,iN N,iN c1])]),[.op [.rs (1,0) c7,iN d0,iN d3]]))))
 (
 br (a6 == 4)
 (
 jb V 91 [.op [.rs (1,0) b2,iN b5,iN b8],(.agg [.rs (5,0) u])] fun b9 c0=>
 asI .i64 b9 fun c1=>unc c0 fun c2 c3=>nC c2 fun c4=>unc c4 fun c5 c6=>kq (1,0) c5 fun c7=>unc c6 fun c8 c9=>asI .i64 c8 fun d0=>unc c9 fun d1 d2=>asI .i64 d1 fun d3=>unn d2 (unn c3 (some ((.tup [.agg [.rs (5,0) i,.rs (4,0) l,.rs (3,0) o],(.agg [.rs (5,0) u,iN x,iN c1,iN E,iN H,iN K,iN N,iN Q])]),[.op [.rs (1,0) c7,iN d0,iN d3]]))))
 (
 br (a6 == 5)
 (
 jb V 91 [.op [.rs (1,0) b2,iN b5,iN b8],(.agg [.rs (5,0) u])] fun b9 c0=>
 asI .i64 b9 fun c1=>unc c0 fun c2 c3=>nC c2 fun c4=>unc c4 fun c5 c6=>kq (1,0) c5 fun c7=>unc c6 fun c8 c9=>asI .i64 c8 fun d0=>unc c9 fun d1 d2=>asI .i64 d1 fun d3=>unn d2 (unn c3 (some ((.tup [.agg [.rs (5,0) i,.rs (4,0) l,.rs (3,0) o],(.agg [.rs (5,0) u,iN x,iN A,iN c1,iN H,iN K,iN N,iN Q])]),[.op [.rs (1,0) c7,iN d0,iN d3]]))))
 (
 br (a6 == 6)
 (
 jb V 91 [.op [.rs (1,0) b2,iN b5,iN b8],(.agg [.rs (5,0) u])] fun b9 c0=>
 asI .i64 b9 fun c1=>unc c0 fun c2 c3=>nC c2 fun c4=>unc c4 fun c5 c6=>kq (1,0) c5 fun c7=>unc c6 fun c8 c9=>asI .i64 c8 fun d0=>unc c9 fun d1 d2=>asI .i64 d1 fun d3=>unn d2 (unn c3 (some ((.tup [.agg [.rs (5,0) i,.rs (4,0) l,.rs (3,0) o],(.agg [.rs (5,0) u,iN x,iN A,iN E,iN c1,iN K,iN N,iN Q])]),[.op [.rs (1,0) c7,iN d0,iN d3]]))))
 (
 br (a6 == 7)
 (
 jb V 74 [.op [.rs (1,0) b2,iN b5,iN b8]] fun b9 c0=>
 asAgg b9 fun c1=>unc c1 fun c2 c3=>jl (5,0) c2 fun c4=>unc c3 fun c5 c6=>jl (4,0) c5 fun c7=>unc c6 fun c8 c9=>jl (3,0) c8 fun d0=>unn c9 (unc c0 fun d1 d2=>nC d1 fun d3=>unc d3 fun d4 d5=>kq (1,0) d4 fun d6=>unc d5 fun d7 d8=>asI .i64 d7 fun d9=>unc d8 fun e0 e1=>asI .i64 e0 fun e2=>unn e1 (unn d2 (some ((.tup [.agg [.os (5,0) c4,.os (4,0) c7,.os (3,0) d0],(.agg [.rs (5,0) u,iN x,iN A,iN E,iN H,iN K,iN N,iN Q])]),[.op [.rs (1,0) d6,iN d9,iN e2]])))))
 (
 br (a6 == 8)
 (
 jb V 90 [.op [.rs (1,0) b2,iN b5,iN b8]] fun b9 c0=>
 asAgg b9 fun c1=>unc c1 fun c2 c3=>jl (5,0) c2 fun c4=>unn c3 (unc c0 fun c5 c6=>nC c5 fun c7=>unc c7 fun c8 c9=>kq (1,0) c8 fun d0=>unc c9 fun d1 d2=>asI .i64 d1 fun d3=>unc d2 fun d4 d5=>asI .i64 d4 fun d6=>unn d5 (unn c6 (some ((.tup [.agg [.rs (5,0) i,.rs (4,0) l,.rs (3,0) o],(.agg [.os (5,0) c4,iN x,iN A,iN E,iN H,iN K,iN N,iN Q])]),[.op [.rs (1,0) d0,iN d3,iN d6]])))))
 (some ((.tup [.agg [.rs (5,0) i,.rs (4,0) l,.rs (3,0) o],(.agg [.rs (5,0) u,iN x,iN A,iN E,iN H,iN K,iN N,iN Q])]),[.op [.rs (1,0) b2,iN b5,iN b8]]))))))))))))))))):=by
 exact (yD Tryz.func52 rfl _).trans (by kernel_rfl)
theorem Qb (a0_0:List D) (a0_1 a0_2:Int):V 90 [.op [.rs (1,0) a0_0,iN a0_1,iN a0_2]] =
 jb V 154 [.op [.rs (1,0) a0_0,iN a0_1,iN a0_2]] fun a b=>
 asAgg a fun c=>unc c fun d e=>jl (5,0) d fun f=>unn e (unc b fun g h=>nC g fun i=>unc i fun j k=>kq (1,0) j fun l=>unc k fun m n=>asI .i64 m fun o=>unc n fun p q=>asI .i64 p fun r=>unn q (unn h (br (decide (ni f.length > 0))
 (
 jb V 155 [.op [.rs (1,0) l,iN o,iN r],iN (12)] fun s t=>
 asB s fun u=>unc t fun v w=>nC v fun x=>unc x fun y z=>kq (1,0) y fun A=>unc z fun B C=>asI .i64 B fun E=>unc C fun F G=>asI .i64 F fun H=>unn G (unn w (br u
 (
 jb V 76 [.op [.rs (1,0) A,iN E,iN H],(iN (ni f.length))] fun I J=>
 asI .i64 I fun K=>unc J fun L M=>nC L fun N=>unc N fun O P=>kq (1,0) O fun Q=>unc P fun R S=>asI .i64 R fun T=>unc S fun U W=>asI .i64 U fun X=>unn W (unn M (grd (decide (0 <= K) && decide (K < ni f.length)) (cT f K.toNat fun Y=>
 asAgg Y fun Z=>unc Z fun a0 a1=>asI .i64 a0 fun a2=>unc a1 fun a3 a4=>asI .i64 a3 fun a5=>unc a4 fun a6 a7=>asS a6 fun a8=>unc a7 fun a9 b0=>asI .i64 a9 fun b1=>unc b0 fun b2 b3=>asI .i64 b2 fun b4=>unn b3 (jb V 156 [.op [.rs (1,0) Q,iN T,iN X],.agg [iN a2,iN a5,.str a8,iN b1,iN b4]] fun b5 b6=>
 asAgg b5 fun b7=>unc b7 fun b8 b9=>asI .i64 b8 fun c0=>unc b9 fun c1 c2=>asI .i64 c1 fun c3=>unc c2 fun c4 c5=>asS c4 fun c6=>unc c5 fun c7 c8=>asI .i64 c7 fun c9=>unc c8 fun d0 d1=>asI .i64 d0 fun d2=>unn d1 (unc b6 fun d3 d4=>nC d3 fun d5=>unc d5 fun d6 d7=>kq (1,0) d6 fun d8=>unc d7 fun d9 e0=>asI .i64 d9 fun e1=>unc e0 fun e2 e3=>asI .i64 e2 fun e4=>unn e3 (unn d4 (grd (decide (0 <= K) && decide (K < ni f.length)) (cT f K.toNat fun _=>
 nam (List.set f K.toNat (D.agg [iN c0,iN c3,D.str c6,iN c9,iN d2])) fun e5=>
 jb V 155 [.op [.rs (1,0) d8,iN e1,iN e4],iN (60)] fun e6 e7=>
 asB e6 fun e8=>unc e7 fun e9 f0=>nC e9 fun f1=>unc f1 fun f2 f3=>kq (1,0) f2 fun f4=>unc f3 fun f5 f6=>asI .i64 f5 fun f7=>unc f6 fun f8 f9=>asI .i64 f8 fun g0=>unn f9 (unn f0 (br e8
 (
 jb V 76 [.op [.rs (1,0) f4,iN f7,iN g0],iN (2)] fun g1 g2=>
 asI .i64 g1 fun g3=>unc g2 fun g4 g5=>nC g4 fun g6=>unc g6 fun g7 g8=>kq (1,0) g7 fun g9=>unc g8 fun h0 h1=>asI .i64 h0 fun h2=>unc h1 fun h3 h4=>asI .i64 h3 fun h5=>unn h4 (unn g5 (grd (decide (0 <= w6 (3000 + g3)) && decide (w6 (3000 + g3) <= LIM)) (zQ (0) g9 h2 h5 (List.replicate (Int.toNat (w6 (3000 + g3))) (D.agg [iN (0),iN (0),D.str { data:=#[] },iN (0),iN (0)]))))))
 (some ((.agg [.os (5,0) e5]),[.op [.rs (1,0) f4,iN f7,iN g0]])))))))))))))
 (
 jb V 155 [.op [.rs (1,0) A,iN E,iN H],iN (60)] fun I J=>
 asB I fun K=>unc J fun L M=>nC L fun N=>unc N fun O P=>kq (1,0) O fun Q=>unc P fun R S=>asI .i64 R fun T=>unc S fun U W=>asI .i64 U fun X=>unn W (unn M (br K
 (
 jb V 76 [.op [.rs (1,0) Q,iN T,iN X],iN (2)] fun Y Z=>
 asI .i64 Y fun a0=>unc Z fun a1 a2=>nC a1 fun a3=>unc a3 fun a4 a5=>kq (1,0) a4 fun a6=>unc a5 fun a7 a8=>asI .i64 a7 fun a9=>unc a8 fun b0 b1=>asI .i64 b0 fun b2=>unn b1 (unn a2 (grd (decide (0 <= w6 (3000 + a0)) && decide (w6 (3000 + a0) <= LIM)) (zQ (0) a6 a9 b2 (List.replicate (Int.toNat (w6 (3000 + a0))) (D.agg [iN (0),iN (0),D.str { data:=#[] },iN (0),iN (0)]))))))
 (some ((.agg [.os (5,0) f]),[.op [.rs (1,0) Q,iN T,iN X]]))))))))
 (
 jb V 155 [.op [.rs (1,0) l,iN o,iN r],iN (60)] fun s t=>
 asB s fun u=>unc t fun v w=>nC v fun x=>unc x fun y z=>kq (1,0) y fun A=>unc z fun B C=>asI .i64 B fun E=>unc C fun F G=>asI .i64 F fun H=>unn G (unn w (br u
 (
 jb V 76 [.op [.rs (1,0) A,iN E,iN H],iN (2)] fun I J=>
 asI .i64 I fun K=>unc J fun L M=>nC L fun N=>unc N fun O P=>kq (1,0) O fun Q=>unc P fun R S=>asI .i64 R fun T=>unc S fun U W=>asI .i64 U fun X=>unn W (unn M (grd (decide (0 <= w6 (3000 + K)) && decide (w6 (3000 + K) <= LIM)) (zQ (0) Q T X (List.replicate (Int.toNat (w6 (3000 + K))) (D.agg [iN (0),iN (0),D.str { data:=#[] },iN (0),iN (0)]))))))
 (some ((.agg [.os (5,0) f]),[.op [.rs (1,0) A,iN E,iN H]])))))))):=by
 exact (yD Tryz.func90 rfl _).trans (by kernel_rfl)
theorem Qt (a0_0 a0_1 a0_2 a1_0:List D) (a1_1 a1_2 a1_3 a1_4 a1_5 a1_6 a1_7:Int):V 153 [.agg [.rs (5,0) a0_0,.rs (4,0) a0_1,.rs (3,0) a0_2],.agg [.rs (5,0) a1_0,iN a1_1,iN a1_2,iN a1_3,iN a1_4,iN a1_5,iN a1_6,iN a1_7]] =
 jb V 85 [.agg [.rs (5,0) a1_0,iN a1_1,iN a1_2,iN a1_3,iN a1_4,iN a1_5,iN a1_6,iN a1_7]] fun a b=>
 tk7 a fun c d e f g h i j=>(unn b (grd (decide (0 <= a1_1) && decide (a1_1 < ni a0_1.length)) (cT a0_1 a1_1.toNat fun k=>
 Vt k fun l m n o=>(jb V 196 [.agg [.rs (5,0) a0_0,.rs (4,0) a0_1,.rs (3,0) a0_2],(.op [.os (5,0) c,iN d,iN e,iN f,iN g,iN h,iN i,iN j]),.agg [iN l,iN m,iN n,.str o]] fun p q=>
 asI .i64 p fun r=>unc q fun s t=>tk5 s fun u v w x y z A B=>(unn t (br (r != 0)
 (
 jb V 97 [.agg [.rs (5,0) a1_0,iN a1_1,iN a1_2,iN a1_3,iN a1_4,iN a1_5,iN a1_6,iN a1_7],iN r] fun C E=>
 tk7 C fun F G H I J K L M=>(unn E (some ((.agg [.os (5,0) F,iN G,iN H,iN I,iN J,iN K,iN L,iN M]),[]))))
 (
 jb V 62 [iN v,iN (0),(iN (w6 (ni a0_1.length - 1)))] fun C E=>
 asB C fun F=>unn E (br (!F)
 (
 jb V 97 [.agg [.rs (5,0) a1_0,iN a1_1,iN a1_2,iN a1_3,iN a1_4,iN a1_5,iN a1_6,iN a1_7],iN (7)] fun G H=>
 tk7 G fun I J K L M N O P=>(unn H (some ((.agg [.os (5,0) I,iN J,iN K,iN L,iN M,iN N,iN O,iN P]),[]))))
 (
 br (decide (ni u.length > 3000))
 (
 jb V 97 [.agg [.rs (5,0) a1_0,iN a1_1,iN a1_2,iN a1_3,iN a1_4,iN a1_5,iN a1_6,iN a1_7],iN (6)] fun G H=>
 tk7 G fun I J K L M N O P=>(unn H (some ((.agg [.os (5,0) I,iN J,iN K,iN L,iN M,iN N,iN O,iN P]),[]))))
 (some ((.agg [.os (5,0) u,iN v,iN w,iN x,iN y,iN z,iN A,iN B]),[]))))))))))):=by
 exact (yD Tryz.func153 rfl _).trans (by kernel_rfl)
theorem Lu (a0_0 a0_1 a0_2 a1_0:List D) (a2_:Int):V 171 [.agg [.rs (5,0) a0_0,.rs (4,0) a0_1,.rs (3,0) a0_2],.agg [.rs (5,0) a1_0],iN a2_] =
 jb V 59 [.agg [.rs (5,0) a0_0,.rs (4,0) a0_1,.rs (3,0) a0_2]] fun a b=>
 asB a fun c=>unn b (br (!c)
 (some ((.tup [.agg [.os (5,0) [],iN (0),iN (0),iN (0),iN (0),iN (0),iN (0),iN (0)],.bool false]),[]))
 (
 jb V 60 [.agg [.rs (5,0) a1_0]] fun d e=>
 asB d fun f=>unn e (br (!f)
 (some ((.tup [.agg [.os (5,0) [],iN (0),iN (0),iN (0),iN (0),iN (0),iN (0),iN (0)],.bool false]),[]))
 (
 jb V 61 [.agg [.rs (5,0) a1_0],iN a2_] fun g h=>
 asB g fun i=>unn h (br (!i)
 (some ((.tup [.agg [.os (5,0) [],iN (0),iN (0),iN (0),iN (0),iN (0),iN (0),iN (0)],.bool false]),[]))
 (
 br (decide (w6 (ni a1_0.length + 2) > 3000))
 (some ((.tup [.agg [.os (5,0) [],iN (0),iN (0),iN (0),iN (0),iN (0),iN (0),iN (0)],.bool false]),[]))
 (
 grd (decide (0 <= a2_) && decide (a2_ < ni a1_0.length)) (cT a1_0 a2_.toNat fun j=>
 tk6 j fun k l _ m _=>(br (k != 6)
 (some ((.tup [.agg [.os (5,0) [],iN (0),iN (0),iN (0),iN (0),iN (0),iN (0),iN (0)],.bool false]),[]))
 (
 grd (!decide (8 = 0)) (br (Int.tmod l (8) != 0)
 (some ((.tup [.agg [.os (5,0) [],iN (0),iN (0),iN (0),iN (0),iN (0),iN (0),iN (0)],.bool false]),[]))
 (
 grd (!decide (8 = 0)) (br (decide (w6 (Int.tdiv l (8)) >= ni a0_1.length))
 (some ((.tup [.agg [.os (5,0) [],iN (0),iN (0),iN (0),iN (0),iN (0),iN (0),iN (0)],.bool false]),[]))
 (
 jb V 147 [.agg [.rs (5,0) a1_0]] fun n o=>
 asAgg n fun p=>unc p fun q r=>jl (5,0) q fun s=>unn r (unn o (jb V 158 [.op [.os (5,0) s],(.agg [iN (1),iN (0),.str ({ data:=#[] }),iN (0),iN (0)])] fun t u=>
 asI .i64 t fun v=>unc u fun w x=>nC w fun y=>unc y fun z A=>jl (5,0) z fun B=>unn A (unn x (jb V 158 [.op [.os (5,0) B],(.agg [iN (5),iN (0),.str ({ data:=#[] }),iN v,iN m])] fun C E=>
 asI .i64 C fun F=>unc E fun G H=>nC G fun I=>unc I fun J K=>jl (5,0) J fun L=>unn K (unn H (grd (!decide (8 = 0)) (some ((.tup [(.agg [.os (5,0) L,(iN (w6 (Int.tdiv l (8)))),iN v,iN F,iN v,iN (0),iN (0),iN (0)]),.bool true]),[])))))))))))))))))))))):=by
 exact (yD Tryz.func171 rfl _).trans (by kernel_rfl)
theorem B9 (p0:Int) (p1:List D) (p2 p3:Int):zK p0 p1 p2 p3 =
 br (decide (p0 < 4))
 (
 jb V 192 [.op [.rs (1,0) p1,iN p2,iN p3]] fun a b=>
 asS a fun c=>unc b fun d e=>nC d fun f=>unc f fun g h=>kq (1,0) g fun i=>unc h fun j k=>asI .i64 j fun l=>unc k fun m n=>asI .i64 m fun o=>unn n (unn e (jb V 191 [.agg [.rs (5,0) []],.str c] fun p q=>
 iV p fun r=>unc r fun s t=>asAgg s fun u=>unc u fun v w=>jl (5,0) v fun x=>unn w (unc t fun y z=>jl (1,0) y fun A=>unc z fun B C=>asI .i64 B fun E=>unc C fun F G=>asI .i64 F fun _=>unn G (unn q (jb V 193 [.agg [.rs (5,0) x],.rs (1,0) A] fun H I=>
 iV H fun J=>unc J fun K L=>asAgg K fun M=>unc M fun N O=>jl (5,0) N fun P=>unc O fun Q R=>jl (4,0) Q fun S=>unc R fun T U=>jl (3,0) T fun W=>unn U (unc L fun X Y=>asI .i64 X fun Z=>unc Y fun a0 a1=>asI .i64 a0 fun _=>unn a1 (unn I (br (E == 0)
 (
 br (Z == 0)
 (some ((.agg [.os (5,0) P,.os (4,0) S,.os (3,0) W]),[.op [.rs (1,0) i,iN l,iN o]]))
 (zK (w6 (p0 + 1)) i l o))
 (zK (w6 (p0 + 1)) i l o))))))))))
 (
 jb V 191 [.agg [.rs (5,0) []],.str ({ data:=#[40,112,114,105,110,116,32,49,41] })] fun a b=>
 iV a fun c=>unc c fun d e=>asAgg d fun f=>unc f fun g h=>jl (5,0) g fun i=>unn h (unc e fun j k=>jl (1,0) j fun l=>unc k fun m n=>asI .i64 m fun _=>unc n fun o p=>asI .i64 o fun _=>unn p (unn b (jb V 193 [.agg [.rs (5,0) i],.rs (1,0) l] fun q r=>
 iV q fun s=>unc s fun t u=>asAgg t fun v=>unc v fun w x=>jl (5,0) w fun y=>unc x fun z A=>jl (4,0) z fun B=>unc A fun C E=>jl (3,0) C fun F=>unn E (unc u fun G H=>asI .i64 G fun _=>unc H fun I J=>asI .i64 I fun _=>unn J (unn r (some ((.agg [.os (5,0) y,.os (4,0) B,.os (3,0) F]),[.op [.rs (1,0) p1,iN p2,iN p3]])))))))):=by
 exact (yC _ _ _).trans (by kernel_rfl)
theorem Tt (a0_0 a0_1 a0_2 a1_0:List D) (a1_1 a1_2 a1_3 a1_4 a1_5 a1_6 a1_7:Int):V 89 [.agg [.rs (5,0) a0_0,.rs (4,0) a0_1,.rs (3,0) a0_2],.agg [.rs (5,0) a1_0,iN a1_1,iN a1_2,iN a1_3,iN a1_4,iN a1_5,iN a1_6,iN a1_7]] =
 jb V 15 [.agg [.rs (5,0) a0_0,.rs (4,0) a0_1,.rs (3,0) a0_2],(.agg [.rs (5,0) a1_0,iN a1_1,iN a1_2,iN a1_3,iN a1_4,iN a1_5,iN a1_6,iN a1_7])] fun a b=>
 asB a fun c=>unn b (br (!c)
 (some ((.agg [.os (5,0) [],iN (0),iN (0),iN (0),iN (0),iN (3),iN (7),iN (0)]),[]))
 (
 br (a1_5 != 0)
 (
 jb V 85 [.agg [.rs (5,0) a1_0,iN a1_1,iN a1_2,iN a1_3,iN a1_4,iN a1_5,iN a1_6,iN a1_7]] fun d e=>
 tk7 d fun f g h i j k l m=>(unn e (some ((.agg [.os (5,0) f,iN g,iN h,iN i,iN j,iN k,iN l,iN m]),[]))))
 (
 jb V 153 [.agg [.rs (5,0) a0_0,.rs (4,0) a0_1,.rs (3,0) a0_2],(.agg [.rs (5,0) a1_0,iN a1_1,iN a1_2,iN a1_3,iN a1_4,iN a1_5,iN a1_6,iN a1_7])] fun d e=>
 tk7 d fun f g h i j k l m=>(unn e (some ((.agg [.os (5,0) f,iN g,iN h,iN i,iN j,iN k,iN l,iN m]),[])))))):=by
 exact (yD Tryz.func89 rfl _).trans (by kernel_rfl)
theorem PX (a0_0:List D) (a0_1 a0_2:Int):V 143 [.op [.rs (1,0) a0_0,iN a0_1,iN a0_2]] =
 grd (!decide (33 < 0)) (grd (!decide (45 < 0)) (br (decide (a0_1 < ni a0_0.length))
 (
 grd (decide (0 <= a0_1) && decide (a0_1 < ni a0_0.length)) (cT a0_0 a0_1.toNat fun a=>
 asI .u8 a fun b=>some ((iN (w6 (ni (BitVec.toNat (BitVec.ofInt (IntKind.bits IntKind.i64) (w6 (w6 (ni (BitVec.toNat (BitVec.ofInt (IntKind.bits IntKind.i64) (w6 (ni (BitVec.toNat (BitVec.ofInt (IntKind.bits IntKind.i64) (Int.fdiv (w6 (w6 (a0_2 * 6364136223846793005) + 1442695040888963407)) (2 ^ min (Int.toNat (33)) (IntKind.bits IntKind.i64))) ^^^ BitVec.ofInt (IntKind.bits IntKind.i64) (Int.fdiv (w6 (w6 (a0_2 * 6364136223846793005) + 1442695040888963407)) (2 ^ min (Int.toNat (45)) (IntKind.bits IntKind.i64))))))) &&& BitVec.ofInt (IntKind.bits IntKind.i64) (255)))) + w6 b)) &&& BitVec.ofInt (IntKind.bits IntKind.i64) (255)))))),[(.op [.rs (1,0) a0_0,(iN (w6 (a0_1 + 1))),(iN (w6 (w6 (a0_2 * 6364136223846793005) + 1442695040888963407)))])])))
 (some ((iN (w6 (ni (BitVec.toNat (BitVec.ofInt (IntKind.bits IntKind.i64) (w6 (ni (BitVec.toNat (BitVec.ofInt (IntKind.bits IntKind.i64) (Int.fdiv (w6 (w6 (a0_2 * 6364136223846793005) + 1442695040888963407)) (2 ^ min (Int.toNat (33)) (IntKind.bits IntKind.i64))) ^^^ BitVec.ofInt (IntKind.bits IntKind.i64) (Int.fdiv (w6 (w6 (a0_2 * 6364136223846793005) + 1442695040888963407)) (2 ^ min (Int.toNat (45)) (IntKind.bits IntKind.i64))))))) &&& BitVec.ofInt (IntKind.bits IntKind.i64) (255)))))),[(.op [.rs (1,0) a0_0,iN a0_1,(iN (w6 (w6 (a0_2 * 6364136223846793005) + 1442695040888963407)))])])))):=by
 exact (yD Tryz.func143 rfl _).trans (by kernel_rfl)
theorem FU (p0 p1:Int) (p2:List D):CH p0 p1 p2 =
 br (decide (p1 > 0))
 (
 grd (decide (0 <= p0) && decide (p0 < ni p2.length)) (cT p2 p0.toNat fun a=>
 asAgg a fun b=>cT b 0 fun c=>
 asI .i64 c fun d=>br (d == 5)
 (
 grd (decide (0 <= p0) && decide (p0 < ni p2.length)) (cT p2 p0.toNat fun e=>
 asAgg e fun f=>cT f 4 fun g=>
 asI .i64 g fun h=>CH h (w6 (p1 - 1)) p2))
 (
 grd (decide (0 <= p0) && decide (p0 < ni p2.length)) (cT p2 p0.toNat fun e=>
 asAgg e fun f=>cT f 0 fun g=>
 asI .i64 g fun h=>br (h != 5)
 (some ((.tup [iN (0),.bool false]),[]))
 (
 grd (decide (0 <= p0) && decide (p0 < ni p2.length)) (cT p2 p0.toNat fun i=>
 asAgg i fun j=>cT j 3 fun k=>
 asI .i64 k fun l=>some ((.tup [iN l,.bool true]),[])))))))
 (
 grd (decide (0 <= p0) && decide (p0 < ni p2.length)) (cT p2 p0.toNat fun a=>
 asAgg a fun b=>cT b 0 fun c=>
 asI .i64 c fun d=>br (d != 5)
 (some ((.tup [iN (0),.bool false]),[]))
 (
 grd (decide (0 <= p0) && decide (p0 < ni p2.length)) (cT p2 p0.toNat fun e=>
 asAgg e fun f=>cT f 3 fun g=>
 asI .i64 g fun h=>some ((.tup [iN h,.bool true]),[]))))):=by
 exact (yC _ _ _).trans (by kernel_rfl)
theorem Ez (p0:Int) (p1 p2 p3:List D):BV p0 p1 p2 p3 =
 br (decide (p0 < ni p3.length))
 (
 grd (decide (0 <= p0) && decide (p0 < ni p3.length)) (cT p3 p0.toNat fun a=>
 Wl a fun b c d=>(jb V 128 [.str b] fun e f=>
 asB e fun g=>unn f (br (!g)
 (some ((.bool false),[]))
 (
 jb V 129 [.agg [.rs (5,0) p1,.rs (4,0) p2,.rs (3,0) p3],.str b] fun h i=>
 asI .i64 h fun j=>unn i (br (j != p0)
 (some ((.bool false),[]))
 (
 jb V 62 [iN c,iN (0),(iN (w6 (ni p2.length - 1)))] fun k l=>
 asB k fun m=>unn l (br (!m)
 (some ((.bool false),[]))
 (
 jb V 62 [iN d,iN (0),iN (4)] fun n o=>
 asB n fun p=>unn o (br (!p)
 (some ((.bool false),[]))
 (BV (w6 (p0 + 1)) p1 p2 p3)))))))))))
 (some ((.bool true),[])):=by
 exact (yC _ _ _).trans (by kernel_rfl)
theorem Bg (p0 p1:Int) (p2:List D) (p3 p4:Int) (p5:List D):zW p0 p1 p2 p3 p4 p5 =
 br (decide (p1 < p0))
 (
 jb V 197 [.op [.rs (1,0) p2,iN p3,iN p4],iN p1] fun a b=>
 asAgg a fun c=>unc c fun d e=>asI .i64 d fun f=>unc e fun g h=>asI .i64 g fun i=>unc h fun j k=>asS j fun l=>unc k fun m n=>asI .i64 m fun o=>unc n fun p q=>asI .i64 p fun r=>unn q (unc b fun s t=>nC s fun u=>unc u fun v w=>kq (1,0) v fun x=>unc w fun y z=>asI .i64 y fun A=>unc z fun B C=>asI .i64 B fun E=>unn C (unn t (jb V 158 [.op [.os (5,0) p5],.agg [iN f,iN i,.str l,iN o,iN r]] fun F G=>
 asI .i64 F fun _=>unc G fun H I=>nC H fun J=>unc J fun K L=>jl (5,0) K fun M=>unn L (unn I (zW p0 (w6 (p1 + 1)) x A E M))))))
 (some ((.agg [.os (5,0) p5]),[.op [.rs (1,0) p2,iN p3,iN p4]])):=by
 exact (yC _ _ _).trans (by kernel_rfl)
theorem Tp (a0_0:List D) (a1_:ByteArray):V 191 [.agg [.rs (5,0) a0_0],.str a1_] =
 jb V 60 [.agg [.rs (5,0) a0_0]] fun a b=>
 asB a fun c=>unn b (br (!c)
 (some ((.tup [.agg [.os (5,0) []],.os (1,0) [],iN (6),iN (0)]),[]))
 (
 br (decide (ni (ByteArray.size a1_) > 400))
 (
 jb V 147 [.agg [.rs (5,0) a0_0]] fun d e=>
 asAgg d fun f=>unc f fun g h=>jl (5,0) g fun i=>unn h (unn e (some ((.tup [.agg [.os (5,0) i],.os (1,0) [],iN (1),iN (0)]),[]))))
 (
 jb V 147 [.agg [.rs (5,0) a0_0]] fun d e=>
 asAgg d fun f=>unc f fun g h=>jl (5,0) g fun i=>unn h (unn e (y4 a1_ (0) a0_0 [] ([D.agg
 [iN (0),
 D.os
 (TypeInfo.size (Tables.types (Program.toTables Tryz.prog))[3],
 match qU Tryz.prog (3) with
 | true=>0
 | false=>1)
 []]]) i))))):=by
 exact (yD Tryz.func191 rfl _).trans (by kernel_rfl)
theorem Eu (p0:List D) (p1 p2:Int) (p3:List D):BM p0 p1 p2 p3 =
 br (decide (p2 < p1))
 (
 grd (decide (0 <= p2) && decide (p2 < ni p0.length)) (cT p0 p2.toNat fun a=>
 tk6 a fun b c d e f=>(jb V 126 [.agg [iN b,iN c,.str d,iN e,iN f],iN p2] fun g h=>
 asB g fun i=>unn h (br (!i)
 (some ((.bool false),[]))
 (BM p0 p1 (w6 (p2 + 1)) p3)))))
 (some ((.bool (decide (ni p3.length <= 3000))),[])):=by
 exact (yC _ _ _).trans (by kernel_rfl)
theorem Ku (a0_:Int):V 177 [.int .u8 a0_] =
 br (decide (a0_ >= 97))
 (
 br (decide (a0_ <= 122))
 (some ((.bool true),[]))
 (
 grd (decide (0 < 8)) (jb V 203 [.rs (1,0) [.int .u8 (43),.int .u8 (45),.int .u8 (42),.int .u8 (60),.int .u8 (61),.int .u8 (63),.int .u8 (33),.int .u8 (47)],.int .u8 a0_] fun a b=>
 asB a fun c=>unn b (some ((.bool c),[])))))
 (
 grd (decide (0 < 8)) (jb V 203 [.rs (1,0) [.int .u8 (43),.int .u8 (45),.int .u8 (42),.int .u8 (60),.int .u8 (61),.int .u8 (63),.int .u8 (33),.int .u8 (47)],.int .u8 a0_] fun a b=>
 asB a fun c=>unn b (some ((.bool c),[])))):=by
 exact (yD Tryz.func177 rfl _).trans (by kernel_rfl)
theorem RE (a0_0:List D) (a0_1 a0_2:Int) (a1_0 a1_1 a1_2 a2_0:List D) (a2_1 a2_2 a2_3 a2_4 a2_5 a2_6 a2_7 a3_:Int):V 172 [.op [.rs (1,0) a0_0,iN a0_1,iN a0_2],.agg [.rs (5,0) a1_0,.rs (4,0) a1_1,.rs (3,0) a1_2],.agg [.os (5,0) a2_0,iN a2_1,iN a2_2,iN a2_3,iN a2_4,iN a2_5,iN a2_6,iN a2_7],iN a3_] =
 Bi a3_ (0) a0_0 a0_1 a0_2 a1_0 a1_1 a1_2 a2_1 a2_2 a2_3 a2_4 a2_5 a2_6 a2_7 (0) (0) (0) (0) (0) (0) (0) a2_0:=by
 exact (yD Tryz.func172 rfl _).trans (by kernel_rfl)
theorem DK (p0:List D) (p1:Int) (p2 p3:List D):Aw p0 p1 p2 p3 =
 br (decide (p1 < ni p0.length))
 (
 grd (decide (0 <= p1) && decide (p1 < ni p0.length)) (cT p0 p1.toNat fun a=>
 asI .i64 a fun b=>grd (decide (0 <= b) && decide (b < ni p3.length)) (cT p3 b.toNat fun _=>
 nam (List.set p3 b.toNat (D.bool true)) fun c=>
 Aw p0 (w6 (p1 + 1)) p2 c)))
 (zm (w6 (ni p2.length - 1)) p2 p3):=by
 exact (yC _ _ _).trans (by kernel_rfl)
theorem IU (p q:List D) (v:Int):V 93 [.op [.os (5,0) p],.agg [.rs (5,0) q],iN v] =
 jb V 137 [.op [.os (5,0) p],(.agg [.rs (5,0) q]),.rs (1,0) [iN v]] fun a b=>
 jl (
 1,0) a fun c=>unc b fun d e=>nC d fun f=>unc f fun g h=>jl (5,0) g fun i=>unn h (unn e (grd (decide (0 <= v) && decide (v < ni c.length)) (cT c v.toNat fun j=>
 asI .i64 j fun k=>some ((iN k),[.op [.os (5,0) i]])))):=by
 exact (yD Tryz.func93 rfl _).trans (by kernel_rfl)
theorem PH (a0_:ByteArray):V 124 [.str a0_] =
 jb V 58 [(iN (ni (ByteArray.size a0_))),iN (1),iN (12)] fun a b=>
 asB a fun c=>unn b (br (!c)
 (some ((.bool false),[]))
 (AE a0_ (ni (ByteArray.size a0_)) (0))):=by
 exact (yD Tryz.func124 rfl _).trans (by kernel_rfl)
theorem Js (p o:List D) (s:ByteArray):V 150 [.op [.rs (5,0) p,.os (1,0) o],.str s] =
 grd (decide (ni (List.length (o++gU s)) <= LIM)) (nam (o++gU s) fun a=>
 some ((.tup []),[.op [.rs (5,0) p,.os (1,0) a]])):=by
 exact (yD Tryz.func150 rfl _).trans (by kernel_rfl)
theorem FQ (p0:List D) (p1:ByteArray) (p2:Int):Bh p0 p1 p2 =
 br (decide (p2 < ni p0.length))
 (CG p0 p1 p2 (0))
 (some ((.tup [iN (-1),iN (0)]),[])):=by
 exact (yC _ _ _).trans (by kernel_rfl)
theorem Ly (a0_0:List D):V 252 [.agg [.rs (5,0) a0_0]] =
 zF (0) a0_0 [] []:=by
 exact (yD Tryz.func252 rfl _).trans (by kernel_rfl)

end Go.Eng
/-! the functions as the interpreter has them -/
namespace Go.Eng
open Go.Proofs Go.Proofs.Tryz
set_option maxRecDepth 100000
theorem Tz (cp cl cd p:List D) (m1 m2 m3 m4 m5 m6 m7 io im ii:Int) (is:ByteArray):V 196 [.agg [.rs (5,0) cp,.rs (4,0) cl,.rs (3,0) cd],.op [.os (5,0) p,iN m1,iN m2,iN m3,iN m4,iN m5,iN m6,iN m7],.agg [iN io,iN im,iN ii,.str is]] =
 br (io == 1)
 (
 jb V 96 [.op [.os (5,0) p],(.agg [.rs (5,0) cp]),iN im] fun a b=>
 asI .i64 a fun c=>unc b fun d e=>nC d fun f=>unc f fun g h=>jl (5,0) g fun i=>unn h (unn e (jb V 95 [.op [.os (5,0) i,iN m1,iN m2,iN m3,iN m4,iN m5,iN m6,iN m7],iN c] fun j k=>
 iV j fun l=>unn l (unc k fun m n=>tk5 m fun o _ q r s t u v=>(unn n (some ((iN (0)),[(.op [.os (5,0) o,(iN (w6 (m1 + 1))),iN q,iN r,iN s,iN t,iN u,iN v])])))))))
 (
 br (io == 2)
 (
 jb V 216 [.agg [.rs (5,0) p],iN m3,iN im] fun a b=>
 tk4 a fun c d=>(unn b (br (!d)
 (some ((iN (7)),[.op [.os (5,0) p,iN m1,iN m2,iN m3,iN m4,iN m5,iN m6,iN m7]]))
 (
 jb V 216 [.agg [.rs (5,0) p],iN c,iN ii] fun e f=>
 tk4 e fun g h=>(unn f (br (!h)
 (some ((iN (7)),[.op [.os (5,0) p,iN m1,iN m2,iN m3,iN m4,iN m5,iN m6,iN m7]]))
 (
 jb V 95 [.op [.os (5,0) p,iN m1,iN m2,iN m3,iN m4,iN m5,iN m6,iN m7],iN g] fun i j=>
 iV i fun k=>unn k (unc j fun l m=>tk5 l fun n _ o q r s t u=>(unn m (some ((iN (0)),[(.op [.os (5,0) n,(iN (w6 (m1 + 1))),iN o,iN q,iN r,iN s,iN t,iN u])])))))))))))
 (
 br (io == 3)
 (
 jb V 217 [.agg [.rs (5,0) cp,.rs (4,0) cl,.rs (3,0) cd],(.op [.os (5,0) p,iN m1,iN m2,iN m3,iN m4,iN m5,iN m6,iN m7]),.str is] fun a b=>
 asI .i64 a fun c=>unc b fun d e=>tk5 d fun f g h i j k l m=>(unn e (br (c != 0)
 (some ((iN c),[.op [.os (5,0) f,iN g,iN h,iN i,iN j,iN k,iN l,iN m]]))
 (some ((iN (0)),[(.op [.os (5,0) f,(iN (w6 (m1 + 1))),iN h,iN i,iN j,iN k,iN l,iN m])])))))
 (
 br (io == 4)
 (
 jb V 218 [.op [.os (5,0) p,iN m1,iN m2,iN m3,iN m4,iN m5,iN m6,iN m7]] fun a b=>
 tk4 a fun c d=>(unc b fun e f=>tk5 e fun g h i j k l m n=>(unn f (br (!d)
 (some ((iN (7)),[.op [.os (5,0) g,iN h,iN i,iN j,iN k,iN l,iN m,iN n]]))
 (
 grd (decide (0 <= c) && decide (c < ni g.length)) (cT g c.toNat fun o=>
 tk6 o fun q r _ _ _=>(br (q == 2)
 (
 br (r == 0)
 (some ((iN (0)),[.op [.os (5,0) g,iN im,iN i,iN j,iN k,iN l,iN m,iN n]]))
 (some ((iN (0)),[(.op [.os (5,0) g,(iN (w6 (m1 + 1))),iN i,iN j,iN k,iN l,iN m,iN n])])))
 (some ((iN (0)),[(.op [.os (5,0) g,(iN (w6 (m1 + 1))),iN i,iN j,iN k,iN l,iN m,iN n])])))))))))
 (
 br (io == 5)
 (some ((iN (0)),[.op [.os (5,0) p,iN im,iN m2,iN m3,iN m4,iN m5,iN m6,iN m7]]))
 (
 br (io == 6)
 (
 jb V 158 [.op [.os (5,0) p],(.agg [iN (6),(iN (w6 (w6 (8 * im) + ii))),.str ({ data:=#[] }),iN m3,iN (0)])] fun a b=>
 asI .i64 a fun c=>unc b fun d e=>nC d fun f=>unc f fun g h=>jl (5,0) g fun i=>unn h (unn e (jb V 95 [.op [.os (5,0) i,iN m1,iN m2,iN m3,iN m4,iN m5,iN m6,iN m7],iN c] fun j k=>
 iV j fun l=>unn l (unc k fun m n=>tk5 m fun o _ q r s t u v=>(unn n (some ((iN (0)),[(.op [.os (5,0) o,(iN (w6 (m1 + 1))),iN q,iN r,iN s,iN t,iN u,iN v])])))))))
 (
 br (io == 7)
 (
 jb V 219 [.agg [.rs (5,0) cp,.rs (4,0) cl,.rs (3,0) cd],(.op [.os (5,0) p,iN m1,iN m2,iN m3,iN m4,iN m5,iN m6,iN m7]),iN ii,(iN (w6 (m1 + 1)))] fun a b=>
 asI .i64 a fun c=>unc b fun d e=>tk5 d fun f g h i j k l m=>(unn e (some ((iN c),[.op [.os (5,0) f,iN g,iN h,iN i,iN j,iN k,iN l,iN m]]))))
 (
 br (io == 8)
 (
 jb V 220 [.op [.os (5,0) p,iN m1,iN m2,iN m3,iN m4,iN m5,iN m6,iN m7]] fun a b=>
 asI .i64 a fun c=>unc b fun d e=>tk5 d fun f g h i j k l m=>(unn e (some ((iN c),[.op [.os (5,0) f,iN g,iN h,iN i,iN j,iN k,iN l,iN m]]))))
 (
 br (io == 9)
 (
 jb V 218 [.op [.os (5,0) p,iN m1,iN m2,iN m3,iN m4,iN m5,iN m6,iN m7]] fun a b=>
 tk4 a fun _ c=>(
 unc b fun d e=>tk5 d fun f g h i j k l m=>(unn e (br (!c)
 (some ((iN (7)),[.op [.os (5,0) f,iN g,iN h,iN i,iN j,iN k,iN l,iN m]]))
 (some ((iN (0)),[(.op [.os (5,0) f,(iN (w6 (m1 + 1))),iN h,iN i,iN j,iN k,iN l,iN m])]))))))
 (some ((iN (0)),[(.op [.os (5,0) p,(iN (w6 (m1 + 1))),iN m2,iN m3,iN m4,iN m5,iN m6,iN m7])])))))))))):=by
 exact (yD Tryz.func196 rfl _).trans (by kernel_rfl)
theorem Qr (cp cl cd p:List D) (m1 m2 m3 m4 m5 m6 m7 n:Int) (l:List D) (nx:Int):V 240 [.agg [.rs (5,0) cp,.rs (4,0) cl,.rs (3,0) cd],.op [.os (5,0) p,iN m1,iN m2,iN m3,iN m4,iN m5,iN m6,iN m7],iN n,.rs (1,0) l,iN nx] =
 jb V 245 [iN n] fun a b=>
 asI .i64 a fun c=>unn b (br (ni l.length != c)
 (some ((iN (2)),[.op [.os (5,0) p,iN m1,iN m2,iN m3,iN m4,iN m5,iN m6,iN m7]]))
 (
 br (n == 18)
 (
 jb V 158 [.op [.os (5,0) p],(.agg [iN (3),iN nx,.str ({ data:=#[] }),iN (0),iN (0)])] fun d e=>
 asI .i64 d fun f=>unc e fun g h=>nC g fun i=>unc i fun j k=>jl (5,0) j fun m=>unn k (unn h (jb V 210 [.op [.os (5,0) m],.rs (1,0) [iN f,iN m2,iN m3,iN m4]] fun o q=>
 asI .i64 o fun r=>unc q fun s t=>nC s fun u=>unc u fun v w=>jl (5,0) v fun x=>unn w (unn t (jb V 158 [.op [.os (5,0) x],(.agg [iN (7),iN (0),.str ({ data:=#[] }),iN r,iN (0)])] fun y z=>
 asI .i64 y fun A=>unc z fun B C=>nC B fun E=>unc E fun F G=>jl (5,0) F fun H=>unn G (unn C (grd (decide (0 <= 0) && decide (0 < ni l.length)) (cT l 0 fun I=>
 asI .i64 I fun J=>jb V 233 [.agg [.rs (5,0) cp,.rs (4,0) cl,.rs (3,0) cd],(.op [.os (5,0) H,iN m1,iN m2,iN m3,iN m4,iN m5,iN m6,iN m7]),iN J,.rs (1,0) [iN A],iN nx] fun K L=>
 asI .i64 K fun M=>unc L fun N O=>tk5 N fun P Q R S T U W X=>(unn O (some ((iN M),[.op [.os (5,0) P,iN Q,iN R,iN S,iN T,iN U,iN W,iN X]])))))))))))
 (
 br (decide (n > 12))
 (
 jb V 210 [.op [.os (5,0) p],.rs (1,0) l] fun d e=>
 asI .i64 d fun f=>unc e fun g h=>nC g fun i=>unc i fun j k=>jl (5,0) j fun m=>unn k (unn h (some ((iN (0)),[.op [.os (5,0) m,iN m1,iN m2,iN m3,iN m4,iN (1),iN n,iN f]]))))
 (
 jb V 246 [.op [.os (5,0) p],iN n,.rs (1,0) l] fun d e=>
 tk9 d fun f g=>(unc e fun h i=>nC h fun j=>unc j fun k m=>jl (5,0) k fun o=>unn m (unn i (br (g == 3)
 (some ((iN (4)),[.op [.os (5,0) o,iN m1,iN m2,iN m3,iN m4,iN m5,iN m6,iN m7]]))
 (
 br (g == 4)
 (some ((iN (5)),[.op [.os (5,0) o,iN m1,iN m2,iN m3,iN m4,iN m5,iN m6,iN m7]]))
 (
 jb V 95 [.op [.os (5,0) o,iN m1,iN m2,iN m3,iN m4,iN m5,iN m6,iN m7],iN f] fun q r=>
 iV q fun s=>unn s (unc r fun t u=>tk5 t fun v _ w x y z A B=>(unn u (some ((iN (0)),[.op [.os (5,0) v,iN nx,iN w,iN x,iN y,iN z,iN A,iN B]]))))))))))))):=by
 exact (yD Tryz.func240 rfl _).trans (by kernel_rfl)
theorem Mu (cp cl cd p:List D) (m1 m2 m3 m4 m5 m6 m7:Int) (s:ByteArray):V 217 [.agg [.rs (5,0) cp,.rs (4,0) cl,.rs (3,0) cd],.op [.os (5,0) p,iN m1,iN m2,iN m3,iN m4,iN m5,iN m6,iN m7],.str s] =
 jb V 129 [.agg [.rs (5,0) cp,.rs (4,0) cl,.rs (3,0) cd],.str s] fun a b=>
 asI .i64 a fun c=>unn b (br (decide (c >= 0))
 (
 jb V 158 [.op [.os (5,0) p],(.agg [iN (1),iN (0),.str ({ data:=#[] }),iN (0),iN (0)])] fun d e=>
 asI .i64 d fun f=>unc e fun g h=>nC g fun i=>unc i fun j k=>jl (5,0) j fun l=>unn k (unn h (grd (decide (0 <= c) && decide (c < ni cd.length)) (cT cd c.toNat fun m=>
 asAgg m fun n=>cT n 1 fun o=>
 asI .i64 o fun q=>grd (decide (0 <= c) && decide (c < ni cd.length)) (cT cd c.toNat fun r=>
 asAgg r fun t=>cT t 2 fun u=>
 asI .i64 u fun v=>jb V 158 [.op [.os (5,0) l],(.agg [iN (6),(iN (w6 (w6 (8 * q) + v))),.str ({ data:=#[] }),iN f,iN (0)])] fun w x=>
 asI .i64 w fun y=>unc x fun z A=>nC z fun B=>unc B fun C E=>jl (5,0) C fun F=>unn E (unn A (jb V 95 [.op [.os (5,0) F,iN m1,iN m2,iN m3,iN m4,iN m5,iN m6,iN m7],iN y] fun G H=>
 iV G fun I=>unn I (unc H fun J K=>tk5 J fun L M N O P Q R S=>(unn K (some ((iN (0)),[.op [.os (5,0) L,iN M,iN N,iN O,iN P,iN Q,iN R,iN S]])))))))))))
 (
 jb V 232 [.str s] fun d e=>
 asI .i64 d fun f=>unn e (br (f == 0)
 (some ((iN (1)),[.op [.os (5,0) p,iN m1,iN m2,iN m3,iN m4,iN m5,iN m6,iN m7]]))
 (
 jb V 158 [.op [.os (5,0) p],(.agg [iN (8),iN f,.str ({ data:=#[] }),iN (0),iN (0)])] fun g h=>
 asI .i64 g fun i=>unc h fun j k=>nC j fun l=>unc l fun m n=>jl (5,0) m fun o=>unn n (unn k (jb V 95 [.op [.os (5,0) o,iN m1,iN m2,iN m3,iN m4,iN m5,iN m6,iN m7],iN i] fun q r=>
 iV q fun t=>unn t (unc r fun u v=>tk5 u fun w x y z A B C E=>(unn v (some ((iN (0)),[.op [.os (5,0) w,iN x,iN y,iN z,iN A,iN B,iN C,iN E]])))))))))):=by
 exact (yD Tryz.func217 rfl _).trans (by kernel_rfl)
theorem Ry (p l d:List D) (h:Int) (n x e:List D):V 254 [.op [.os (5,0) p,.os (4,0) l,.os (3,0) d,iN h],.rs (1,0) n,.rs (1,0) x,.rs (1,1) e] =
 jb V 237 [.op [.os (5,0) p,.os (4,0) l,.os (3,0) d,iN h],(.agg [iN (6),iN (0),(iN (ni n.length)),.str ({ data:=#[] })])] fun a b=>
 asI .i64 a fun c=>unc b fun f g=>tk1 f fun i j k m=>(unn g (jb V 237 [.op [.os (5,0) i,.os (4,0) j,.os (3,0) k,iN m],(.agg [iN (5),iN (0),iN (0),.str ({ data:=#[] })])] fun o q=>
 asI .i64 o fun r=>unc q fun s t=>tk1 s fun u v w y=>(unn t (jb V 253 [.op [.os (5,0) u,.os (4,0) v,.os (3,0) w,iN y],iN c] fun z A=>
 iV z fun B=>unn B (unc A fun C E=>tk1 C fun F G H I=>(unn E (grd (decide (ni (List.length ([D.rs (1,0) n]++e)) <= LIM)) (nam ([D.rs (1,0) n]++e) fun J=>
 jb V 236 [.op [.os (5,0) F,.os (4,0) G,.os (3,0) H,iN I],.rs (1,0) x,.rs (1,1) J] fun K L=>
 iV K fun M=>unn M (unc L fun N O=>tk1 N fun P Q R S=>(unn O (jb V 237 [.op [.os (5,0) P,.os (4,0) Q,.os (3,0) R,iN S],(.agg [iN (8),iN (0),iN (0),.str ({ data:=#[] })])] fun T U=>
 asI .i64 T fun _=>unc U fun W X=>tk1 W fun Y Z a0 a1=>(unn X (jb V 253 [.op [.os (5,0) Y,.os (4,0) Z,.os (3,0) a0,iN a1],iN r] fun a2 a3=>
 iV a2 fun a4=>unn a4 (unc a3 fun a5 a6=>tk1 a5 fun a7 a8 a9 b0=>(unn a6 (some ((.tup []),[.op [.os (5,0) a7,.os (4,0) a8,.os (3,0) a9,iN b0]]))))))))))))))))):=by
 exact (yD Tryz.func254 rfl _).trans (by kernel_rfl)
theorem NY (a0_0:List D) (a0_1 a0_2 a1_:Int):V 76 [.op [.rs (1,0) a0_0,iN a0_1,iN a0_2],iN a1_] =
 br (decide (a1_ <= 0))
 (some ((iN (0)),[.op [.rs (1,0) a0_0,iN a0_1,iN a0_2]]))
 (
 br (decide (a1_ <= 256))
 (
 jb V 143 [.op [.rs (1,0) a0_0,iN a0_1,iN a0_2]] fun a b=>
 asI .i64 a fun c=>unc b fun d e=>nC d fun f=>unc f fun g h=>kq (1,0) g fun i=>unc h fun j k=>asI .i64 j fun l=>unc k fun m n=>asI .i64 m fun o=>unn n (unn e (grd (!decide (a1_ = 0)) (some ((iN (Int.tmod c a1_)),[.op [.rs (1,0) i,iN l,iN o]])))))
 (
 jb V 143 [.op [.rs (1,0) a0_0,iN a0_1,iN a0_2]] fun a b=>
 asI .i64 a fun c=>unc b fun d e=>nC d fun f=>unc f fun g h=>kq (1,0) g fun i=>unc h fun j k=>asI .i64 j fun l=>unc k fun m n=>asI .i64 m fun o=>unn n (unn e (jb V 143 [.op [.rs (1,0) i,iN l,iN o]] fun p q=>
 asI .i64 p fun r=>unc q fun s t=>nC s fun u=>unc u fun v w=>kq (1,0) v fun x=>unc w fun y z=>asI .i64 y fun A=>unc z fun B C=>asI .i64 B fun E=>unn C (unn t (jb V 143 [.op [.rs (1,0) x,iN A,iN E]] fun F G=>
 asI .i64 F fun H=>unc G fun I J=>nC I fun K=>unc K fun L M=>kq (1,0) L fun N=>unc M fun O P=>asI .i64 O fun Q=>unc P fun R S=>asI .i64 R fun T=>unn S (unn J (jb V 143 [.op [.rs (1,0) N,iN Q,iN T]] fun U W=>
 asI .i64 U fun X=>unc W fun Y Z=>nC Y fun a0=>unc a0 fun a1 a2=>kq (1,0) a1 fun a3=>unc a2 fun a4 a5=>asI .i64 a4 fun a6=>unc a5 fun a7 a8=>asI .i64 a7 fun a9=>unn a8 (unn Z (grd (!decide (a1_ = 0)) (some ((iN (Int.tmod (w6 (w6 (w6 (w6 (c * 16777216) + w6 (r * 65536)) + w6 (H * 256)) + X)) a1_)),[.op [.rs (1,0) a3,iN a6,iN a9]])))))))))))):=by
 exact (yD Tryz.func76 rfl _).trans (by kernel_rfl)
theorem FI (p0:Int) (p1 p2:List D):zD p0 p1 p2 =
 br (decide (p0 >= 0))
 (
 grd (decide (0 <= p0) && decide (p0 < ni p2.length)) (cT p2 p0.toNat fun a=>
 asB a fun b=>br (!b)
 (zD (w6 (p0 - 1)) p1 p2)
 (
 grd (decide (0 <= p0) && decide (p0 < ni p1.length)) (cT p1 p0.toNat fun c=>
 tk6 c fun d _ _ e f=>(br (d == 5)
 (
 grd (decide (0 <= e) && decide (e < ni p2.length)) (cT p2 e.toNat fun _=>
 nam (List.set p2 e.toNat (D.bool true)) fun g=>
 grd (decide (0 <= f) && decide (f < ni g.length)) (cT g f.toNat fun _=>
 nam (List.set g f.toNat (D.bool true)) fun h=>
 zD (w6 (p0 - 1)) p1 h)))
 (
 br (d == 6)
 (
 br (d == 6)
 (
 grd (decide (0 <= e) && decide (e < ni p2.length)) (cT p2 e.toNat fun _=>
 nam (List.set p2 e.toNat (D.bool true)) fun g=>
 zD (w6 (p0 - 1)) p1 g))
 (zD (w6 (p0 - 1)) p1 p2))
 (
 br (d == 7)
 (
 grd (decide (0 <= e) && decide (e < ni p2.length)) (cT p2 e.toNat fun _=>
 nam (List.set p2 e.toNat (D.bool true)) fun g=>
 zD (w6 (p0 - 1)) p1 g))
 (zD (w6 (p0 - 1)) p1 p2))))))))
 (some ((.os (1,0) p2),[])):=by
 exact (yC _ _ _).trans (by kernel_rfl)
theorem Ky (a0_0 a0_1 a0_2:List D) (a1_:ByteArray):V 78 [.agg [.rs (5,0) a0_0,.rs (4,0) a0_1,.rs (3,0) a0_2],.str a1_] =
 jb V 129 [.agg [.rs (5,0) a0_0,.rs (4,0) a0_1,.rs (3,0) a0_2],.str a1_] fun a b=>
 asI .i64 a fun c=>unn b (jb V 59 [.agg [.rs (5,0) a0_0,.rs (4,0) a0_1,.rs (3,0) a0_2]] fun d e=>
 asB d fun f=>unn e (br (!f)
 (some ((.tup [.agg [.os (5,0) [],iN (0),iN (0),iN (0),iN (0),iN (0),iN (0),iN (0)],.bool false]),[]))
 (
 br (decide (c < 0))
 (some ((.tup [.agg [.os (5,0) [],iN (0),iN (0),iN (0),iN (0),iN (0),iN (0),iN (0)],.bool false]),[]))
 (
 grd (decide (0 <= c) && decide (c < ni a0_2.length)) (cT a0_2 c.toNat fun g=>
 asAgg g fun h=>cT h 2 fun i=>
 asI .i64 i fun j=>br (j != 0)
 (some ((.tup [.agg [.os (5,0) [],iN (0),iN (0),iN (0),iN (0),iN (0),iN (0),iN (0)],.bool false]),[]))
 (
 grd (decide (0 <= c) && decide (c < ni a0_2.length)) (cT a0_2 c.toNat fun k=>
 asAgg k fun l=>cT l 1 fun m=>
 asI .i64 m fun n=>some ((.tup [(.agg [(.os (5,0) [.agg [iN (1),iN (0),.str ({ data:=#[] }),iN (0),iN (0)],(.agg [iN (5),iN (0),.str ({ data:=#[] }),iN (0),iN (0)])]),iN n,iN (0),iN (1),iN (0),iN (0),iN (0),iN (0)]),.bool true]),[])))))))):=by
 exact (yD Tryz.func78 rfl _).trans (by kernel_rfl)
theorem Ay (p0:List D) (p1 p2:Int) (p3 p4 p5:List D):Ap p0 p1 p2 p3 p4 p5 =
 br (decide (p1 < ni p0.length))
 (
 grd (decide (0 <= p1) && decide (p1 < ni p0.length)) (cT p0 p1.toNat fun a=>
 asI .i64 a fun b=>jb V 215 [.op [.os (5,0) p3,.os (4,0) p4,.os (3,0) p5,iN p2],iN b] fun c d=>
 iV c fun e=>unn e (unc d fun f g=>tk1 f fun h i j k=>(unn g (br (k == 3)
 (some ((.tup [.agg [.os (5,0) [],.os (4,0) [],.os (3,0) []],iN (3),iN (0)]),[]))
 (
 br (k != 0)
 (some ((.tup [.agg [.os (5,0) [],.os (4,0) [],.os (3,0) []],iN k,iN p1]),[]))
 (Ap p0 (w6 (p1 + 1)) k h i j)))))))
 (
 jb V 59 [.agg [.rs (5,0) p3,.rs (4,0) p4,.rs (3,0) p5]] fun a b=>
 asB a fun c=>unn b (br (!c)
 (some ((.tup [.agg [.os (5,0) [],.os (4,0) [],.os (3,0) []],iN (3),iN (0)]),[]))
 (some ((.tup [.agg [.os (5,0) p3,.os (4,0) p4,.os (3,0) p5],iN (0),(iN (ni p0.length))]),[])))):=by
 exact (yC _ _ _).trans (by kernel_rfl)
theorem Qh (p l d:List D) (h io im ii:Int) (is:ByteArray):V 237 [.op [.os (5,0) p,.os (4,0) l,.os (3,0) d,iN h],.agg [iN io,iN im,iN ii,.str is]] =
 br (h == 0)
 (
 br (ni l.length == 400)
 (some ((iN (0)),[.op [.os (5,0) p,.os (4,0) l,.os (3,0) d,iN (3)]]))
 (
 br (h != 0)
 (some ((iN (0)),[.op [.os (5,0) p,.os (4,0) l,.os (3,0) d,iN h]]))
 (
 grd (decide (ni (List.length (l++[D.agg [iN io,iN im,iN ii,D.str is]])) <= LIM)) (nam (l++[D.agg [iN io,iN im,iN ii,D.str is]]) fun a=>
 some ((iN (w6 (ni a.length - 1))),[.op [.os (5,0) p,.os (4,0) a,.os (3,0) d,iN h]])))))
 (
 br (h != 0)
 (some ((iN (0)),[.op [.os (5,0) p,.os (4,0) l,.os (3,0) d,iN h]]))
 (
 grd (decide (ni (List.length (l++[D.agg [iN io,iN im,iN ii,D.str is]])) <= LIM)) (nam (l++[D.agg [iN io,iN im,iN ii,D.str is]]) fun a=>
 some ((iN (w6 (ni a.length - 1))),[.op [.os (5,0) p,.os (4,0) a,.os (3,0) d,iN h]])))):=by
 exact (yD Tryz.func237 rfl _).trans (by kernel_rfl)
theorem DI (p0:List D) (p1 p2:Int) (p3 p4 p5 p6:List D):zI p0 p1 p2 p3 p4 p5 p6 =
 br (decide (p1 < ni p0.length))
 (
 br (p2 == 0)
 (
 grd (decide (0 <= p1) && decide (p1 < ni p0.length)) (cT p0 p1.toNat fun a=>
 asI .i64 a fun b=>jb V 230 [.op [.os (5,0) p4,.os (4,0) p5,.os (3,0) p6,iN p2],iN b] fun c d=>
 tk8 c fun e f=>(unc d fun g h=>tk1 g fun i j k l=>(unn h (br (!f)
 (
 grd (decide (ni (List.length (p3++[D.str e])) <= LIM)) (nam (p3++[D.str e]) fun m=>
 zI p0 (w6 (p1 + 1)) (1) m i j k))
 (
 grd (decide (ni (List.length (p3++[D.str e])) <= LIM)) (nam (p3++[D.str e]) fun m=>
 zI p0 (w6 (p1 + 1)) l m i j k)))))))
 (zA (0) p2 p3 p4 p5 p6))
 (zA (0) p2 p3 p4 p5 p6):=by
 exact (yC _ _ _).trans (by kernel_rfl)
theorem PJ (a0_0:List D) (a0_1 a0_2 a0_3 a0_4 a0_5 a0_6 a0_7 a1_:Int):V 92 [.agg [.rs (5,0) a0_0,iN a0_1,iN a0_2,iN a0_3,iN a0_4,iN a0_5,iN a0_6,iN a0_7],iN a1_] =
 jb V 63 [.agg [.rs (5,0) a0_0,iN a0_1,iN a0_2,iN a0_3,iN a0_4,iN a0_5,iN a0_6,iN a0_7]] fun a b=>
 tk7 a fun c _ d e f _ _ _=>(unn b (some ((.agg [.os (5,0) c,iN (0),iN d,iN e,iN f,iN (3),iN a1_,iN (0)]),[]))):=by
 exact (yD Tryz.func92 rfl _).trans (by kernel_rfl)
theorem Qe (a0_:ByteArray):V 212 [.str a0_] =
 br (kc a0_ { data:=#[35,116] })
 (some ((.tup [.agg [iN (2),iN (1),.str ({ data:=#[] }),iN (0),iN (0)],.bool true]),[]))
 (
 br (kc a0_ { data:=#[35,102] })
 (some ((.tup [.agg [iN (2),iN (0),.str ({ data:=#[] }),iN (0),iN (0)],.bool true]),[]))
 (
 jb V 227 [.str a0_] fun a b=>
 tk4 a fun c d=>(unn b (br d
 (some ((.tup [.agg [iN (3),iN c,.str ({ data:=#[] }),iN (0),iN (0)],.bool true]),[]))
 (
 jb V 128 [.str a0_] fun e f=>
 asB e fun g=>unn f (some ((.tup [.agg [iN (4),iN (0),.str a0_,iN (0),iN (0)],.bool g]),[]))))))):=by
 exact (yD Tryz.func212 rfl _).trans (by kernel_rfl)
theorem Oj :V 239 [] =
 some ((.os (1,0) [.str ({ data:=#[] }),.str ({ data:=#[43] }),.str ({ data:=#[45] }),.str ({ data:=#[42] }),.str ({ data:=#[60] }),.str ({ data:=#[61] }),.str ({ data:=#[99,111,110,115] }),.str ({ data:=#[99,97,114] }),.str ({ data:=#[99,100,114] }),.str ({ data:=#[110,117,108,108,63] }),.str ({ data:=#[112,97,105,114,63] }),.str ({ data:=#[101,113,63] }),.str ({ data:=#[110,111,116] }),.str ({ data:=#[112,114,105,110,116] }),.str ({ data:=#[115,101,108,102] }),.str ({ data:=#[115,101,110,100] }),.str ({ data:=#[114,101,99,118] }),.str ({ data:=#[115,112,97,119,110] }),.str ({ data:=#[99,97,108,108,99,99] }),.str ({ data:=#[103,111] })]),[]):=by
 exact (yD Tryz.func239 rfl _).trans (by kernel_rfl)
theorem Tv (p l d:List D) (h x:Int):V 253 [.op [.os (5,0) p,.os (4,0) l,.os (3,0) d,iN h],iN x] =
 br (h == 0)
 (
 grd (decide (0 <= x) && decide (x < ni l.length)) (cT l x.toNat fun a=>
 asAgg a fun b=>nam (List.set l x.toNat (D.agg (List.take 1 b++[iN (ni l.length)]++List.drop 2 b))) fun c=>
 some ((.tup []),[.op [.os (5,0) p,.os (4,0) c,.os (3,0) d,iN h]])))
 (some ((.tup []),[.op [.os (5,0) p,.os (4,0) l,.os (3,0) d,iN h]])):=by
 exact (yD Tryz.func253 rfl _).trans (by kernel_rfl)
theorem Qo (a0_0:List D) (a0_1 a0_2 a0_3 a0_4 a0_5 a0_6 a0_7:Int):V 85 [.agg [.rs (5,0) a0_0,iN a0_1,iN a0_2,iN a0_3,iN a0_4,iN a0_5,iN a0_6,iN a0_7]] =
 jb V 147 [.agg [.rs (5,0) a0_0]] fun a b=>
 asAgg a fun c=>unc c fun d e=>jl (5,0) d fun f=>unn e (unn b (some ((.agg [.os (5,0) f,iN a0_1,iN a0_2,iN a0_3,iN a0_4,iN a0_5,iN a0_6,iN a0_7]),[]))):=by
 exact (yD Tryz.func85 rfl _).trans (by kernel_rfl)
theorem Lt (p:List D) (a b:Int):V 94 [.op [.os (5,0) p],iN a,iN b] =
 jb V 157 [.op [.os (5,0) p],(.agg [iN (5),iN (0),.str ({ data:=#[] }),iN a,iN b])] fun c d=>
 asI .i64 c fun e=>unc d fun f g=>nC f fun h=>unc h fun i j=>jl (5,0) i fun k=>unn j (unn g (some ((iN e),[.op [.os (5,0) k]]))):=by
 exact (yD Tryz.func94 rfl _).trans (by kernel_rfl)
theorem Ri (a0_0 a0_1 a0_2:List D) (a1_:ByteArray):V 125 [.agg [.rs (5,0) a0_0,.rs (4,0) a0_1,.rs (3,0) a0_2],.str a1_] =
 jb V 178 [.rs (3,0) a0_2,(.fn 179 [(.bp [.str a1_])])] fun a b=>
 asI .i64 a fun c=>unn b (some ((iN c),[])):=by
 exact (yD Tryz.func125 rfl _).trans (by kernel_rfl)
theorem PM (a0_0:List D) (a1_:Int):V 56 [.agg [.rs (5,0) a0_0],iN a1_] =
 jb V 58 [iN a1_,iN (0),(iN (w6 (ni a0_0.length - 1)))] fun a b=>
 asB a fun c=>unn b (some ((.bool c),[])):=by
 exact (yD Tryz.func56 rfl _).trans (by kernel_rfl)
theorem BI (a0_:List D):V 181 [.rs (5,0) a0_] =
 vO a0_
 (some ((.os (5,0) []),[]))
 (
 grd (decide (ni (List.length ([]++a0_)) <= LIM)) (nam ([]++a0_) fun a=>
 some ((.os (5,0) a),[]))):=by
 exact (yD Tryz.func181 rfl _).trans (by kernel_rfl)
theorem Mi (a0_0:List D):V 131 [.agg [.rs (5,0) a0_0]] =
 jb V 181 [.rs (5,0) a0_0] fun a b=>
 jl (5,0) a fun c=>unn b (some ((.agg [.os (5,0) c]),[])):=by
 exact (yD Tryz.func131 rfl _).trans (by kernel_rfl)
theorem VN (a:ByteArray) (b c:Int) (s:ByteArray):V 179 [.agg [.str a,iN b,iN c],.bp [.str s]] =
 some ((.bool (kc a s)),[]):=by
 exact (yD Tryz.func179 rfl _).trans (by kernel_rfl)
theorem RB (a0_0:List D) (a1_ a2_:Int):V 216 [.agg [.rs (5,0) a0_0],iN a1_,iN a2_] =
 CH a1_ a2_ a0_0:=by
 exact (yD Tryz.func216 rfl _).trans (by kernel_rfl)
theorem PU (a0_0:List D):V 60 [.agg [.rs (5,0) a0_0]] =
 BW (0) a0_0:=by
 exact (yD Tryz.func60 rfl _).trans (by kernel_rfl)

end Go.Eng
/-! the functions as the interpreter has them -/
namespace Go.Eng
open Go.Proofs Go.Proofs.Tryz
set_option maxRecDepth 100000
theorem PF (a0_0 a0_1 a0_2 a1_0:List D) (a1_1 a1_2 a1_3 a1_4 a1_5 a1_6 a1_7:Int) (a2_0:List D) (a3_:Int):V 31 [.agg [.rs (5,0) a0_0,.rs (4,0) a0_1,.rs (3,0) a0_2],.agg [.rs (5,0) a1_0,iN a1_1,iN a1_2,iN a1_3,iN a1_4,iN a1_5,iN a1_6,iN a1_7],.agg [.rs (5,0) a2_0],iN a3_] =
 jb V 14 [.agg [.rs (5,0) a0_0,.rs (4,0) a0_1,.rs (3,0) a0_2],(.agg [.rs (5,0) a1_0,iN a1_1,iN a1_2,iN a1_3,iN a1_4,iN a1_5,iN a1_6,iN a1_7])] fun a b=>
 asB a fun c=>unn b (br (!c)
 (some ((.agg [.os (5,0) [],iN (0),iN (0),iN (0),iN (0),iN (3),iN (7),iN (0)]),[]))
 (
 br (a1_5 != 1)
 (
 jb V 63 [.agg [.rs (5,0) a1_0,iN a1_1,iN a1_2,iN a1_3,iN a1_4,iN a1_5,iN a1_6,iN a1_7]] fun d e=>
 tk7 d fun f g h i j k l m=>(unn e (some ((.agg [.os (5,0) f,iN g,iN h,iN i,iN j,iN k,iN l,iN m]),[]))))
 (
 jb V 55 [.agg [.rs (5,0) a2_0]] fun d e=>
 asB d fun f=>unn e (br (!f)
 (
 jb V 63 [.agg [.rs (5,0) a1_0,iN a1_1,iN a1_2,iN a1_3,iN a1_4,iN a1_5,iN a1_6,iN a1_7]] fun g h=>
 tk7 g fun i j k l m n o p=>(unn h (some ((.agg [.os (5,0) i,iN j,iN k,iN l,iN m,iN n,iN o,iN p]),[]))))
 (
 jb V 56 [.agg [.rs (5,0) a2_0],iN a3_] fun g h=>
 asB g fun i=>unn h (br (!i)
 (
 jb V 63 [.agg [.rs (5,0) a1_0,iN a1_1,iN a1_2,iN a1_3,iN a1_4,iN a1_5,iN a1_6,iN a1_7]] fun j k=>
 tk7 j fun l m n o p q r s=>(unn k (some ((.agg [.os (5,0) l,iN m,iN n,iN o,iN p,iN q,iN r,iN s]),[]))))
 (
 jb V 57 [.agg [.rs (5,0) a0_0,.rs (4,0) a0_1,.rs (3,0) a0_2],(iN (w6 (a1_1 + 1)))] fun j k=>
 asB j fun l=>unn k (br (!l)
 (
 jb V 92 [.agg [.rs (5,0) a1_0,iN a1_1,iN a1_2,iN a1_3,iN a1_4,iN a1_5,iN a1_6,iN a1_7],iN (7)] fun m n=>
 tk7 m fun o p q r s t u v=>(unn n (some ((.agg [.os (5,0) o,iN p,iN q,iN r,iN s,iN t,iN u,iN v]),[]))))
 (
 jb V 63 [.agg [.rs (5,0) a1_0,iN a1_1,iN a1_2,iN a1_3,iN a1_4,iN a1_5,iN a1_6,iN a1_7]] fun m n=>
 tk7 m fun o p q r s _ _ _=>(unn n (jb V 93 [.op [.os (5,0) o],(.agg [.rs (5,0) a2_0]),iN a3_] fun t u=>
 asI .i64 t fun v=>unc u fun w x=>nC w fun y=>unc y fun z A=>jl (5,0) z fun B=>unn A (unn x (jb V 94 [.op [.os (5,0) B],iN v,iN q] fun C E=>
 asI .i64 C fun F=>unc E fun G H=>nC G fun I=>unc I fun J K=>jl (5,0) J fun L=>unn K (unn H (br (decide (ni L.length > 3000))
 (
 jb V 92 [.agg [.rs (5,0) a1_0,iN a1_1,iN a1_2,iN a1_3,iN a1_4,iN a1_5,iN a1_6,iN a1_7],iN (6)] fun M N=>
 tk7 M fun O P Q R S T U W=>(unn N (some ((.agg [.os (5,0) O,iN P,iN Q,iN R,iN S,iN T,iN U,iN W]),[]))))
 (some ((.agg [.os (5,0) L,(iN (w6 (p + 1))),iN F,iN r,iN s,iN (0),iN (0),iN (0)]),[]))))))))))))))))):=by
 exact (yD Tryz.func31 rfl _).trans (by kernel_rfl)
theorem BQ (p0:List D) (p1 p2:Int) (p3 p4 p5:List D):y3 p0 p1 p2 p3 p4 p5 =
 br (decide (p2 < p1))
 (
 grd (decide (0 <= p2) && decide (p2 < ni p0.length)) (cT p0 p2.toNat fun a=>
 tk6 a fun b c d e f=>(grd (decide (0 <= p2) && decide (p2 < ni p3.length)) (cT p3 p2.toNat fun _=>
 nam (List.set p3 p2.toNat (iN (-1))) fun g=>
 grd (decide (0 <= p2) && decide (p2 < ni p4.length)) (cT p4 p2.toNat fun h=>
 asB h fun i=>br (!i)
 (y3 p0 p1 (w6 (p2 + 1)) g p4 p5)
 (
 br (b == 5)
 (
 grd (decide (0 <= e) && decide (e < ni g.length)) (cT g e.toNat fun j=>
 asI .i64 j fun k=>grd (decide (0 <= f) && decide (f < ni g.length)) (cT g f.toNat fun l=>
 asI .i64 l fun m=>jb V 157 [.op [.os (5,0) p5],.agg [iN b,iN c,.str d,iN k,iN m]] fun n o=>
 asI .i64 n fun p=>unc o fun q r=>nC q fun s=>unc s fun t u=>jl (5,0) t fun v=>unn u (unn r (grd (decide (0 <= p2) && decide (p2 < ni g.length)) (cT g p2.toNat fun _=>
 nam (List.set g p2.toNat (iN p)) fun w=>
 y3 p0 p1 (w6 (p2 + 1)) w p4 v))))))
 (
 br (b == 6)
 (
 br (b == 6)
 (
 grd (decide (0 <= e) && decide (e < ni g.length)) (cT g e.toNat fun j=>
 asI .i64 j fun k=>jb V 157 [.op [.os (5,0) p5],.agg [iN b,iN c,.str d,iN k,iN f]] fun l m=>
 asI .i64 l fun n=>unc m fun o p=>nC o fun q=>unc q fun r s=>jl (5,0) r fun t=>unn s (unn p (grd (decide (0 <= p2) && decide (p2 < ni g.length)) (cT g p2.toNat fun _=>
 nam (List.set g p2.toNat (iN n)) fun u=>
 y3 p0 p1 (w6 (p2 + 1)) u p4 t)))))
 (
 jb V 157 [.op [.os (5,0) p5],.agg [iN b,iN c,.str d,iN e,iN f]] fun j k=>
 asI .i64 j fun l=>unc k fun m n=>nC m fun o=>unc o fun p q=>jl (5,0) p fun r=>unn q (unn n (grd (decide (0 <= p2) && decide (p2 < ni g.length)) (cT g p2.toNat fun _=>
 nam (List.set g p2.toNat (iN l)) fun s=>
 y3 p0 p1 (w6 (p2 + 1)) s p4 r)))))
 (
 br (b == 7)
 (
 grd (decide (0 <= e) && decide (e < ni g.length)) (cT g e.toNat fun j=>
 asI .i64 j fun k=>jb V 157 [.op [.os (5,0) p5],.agg [iN b,iN c,.str d,iN k,iN f]] fun l m=>
 asI .i64 l fun n=>unc m fun o p=>nC o fun q=>unc q fun r s=>jl (5,0) r fun t=>unn s (unn p (grd (decide (0 <= p2) && decide (p2 < ni g.length)) (cT g p2.toNat fun _=>
 nam (List.set g p2.toNat (iN n)) fun u=>
 y3 p0 p1 (w6 (p2 + 1)) u p4 t)))))
 (
 jb V 157 [.op [.os (5,0) p5],.agg [iN b,iN c,.str d,iN e,iN f]] fun j k=>
 asI .i64 j fun l=>unc k fun m n=>nC m fun o=>unc o fun p q=>jl (5,0) p fun r=>unn q (unn n (grd (decide (0 <= p2) && decide (p2 < ni g.length)) (cT g p2.toNat fun _=>
 nam (List.set g p2.toNat (iN l)) fun s=>
 y3 p0 p1 (w6 (p2 + 1)) s p4 r))))))))))))
 (some ((.os (1,0) p3),[.op [.os (5,0) p5]])):=by
 exact (yC _ _ _).trans (by kernel_rfl)
theorem EZ (p0:List D) (p1:Int) (p2 p3 p4:List D):zt p0 p1 p2 p3 p4 =
 br (decide (p1 < ni p2.length))
 (
 grd (decide (0 <= p1) && decide (p1 < ni p0.length)) (cT p0 p1.toNat fun a=>
 asB a fun b=>br (!b)
 (zt p0 (w6 (p1 + 1)) p2 p3 p4)
 (
 grd (decide (0 <= p1) && decide (p1 < ni p2.length)) (cT p2 p1.toNat fun c=>
 tk6 c fun d e f g h=>(br (d == 5)
 (
 grd (decide (0 <= g) && decide (g < ni p3.length)) (cT p3 g.toNat fun i=>
 asI .i64 i fun j=>grd (decide (0 <= h) && decide (h < ni p3.length)) (cT p3 h.toNat fun k=>
 asI .i64 k fun l=>jb V 158 [.op [.os (5,0) p4],.agg [iN d,iN e,.str f,iN j,iN l]] fun m n=>
 asI .i64 m fun o=>unc n fun p q=>nC p fun r=>unc r fun s t=>jl (5,0) s fun u=>unn t (unn q (grd (decide (0 <= p1) && decide (p1 < ni p3.length)) (cT p3 p1.toNat fun _=>
 nam (List.set p3 p1.toNat (iN o)) fun v=>
 zt p0 (w6 (p1 + 1)) p2 v u))))))
 (
 br (d == 6)
 (
 br (d == 6)
 (
 grd (decide (0 <= g) && decide (g < ni p3.length)) (cT p3 g.toNat fun i=>
 asI .i64 i fun j=>jb V 158 [.op [.os (5,0) p4],.agg [iN d,iN e,.str f,iN j,iN h]] fun k l=>
 asI .i64 k fun m=>unc l fun n o=>nC n fun p=>unc p fun q r=>jl (5,0) q fun s=>unn r (unn o (grd (decide (0 <= p1) && decide (p1 < ni p3.length)) (cT p3 p1.toNat fun _=>
 nam (List.set p3 p1.toNat (iN m)) fun t=>
 zt p0 (w6 (p1 + 1)) p2 t s)))))
 (
 jb V 158 [.op [.os (5,0) p4],.agg [iN d,iN e,.str f,iN g,iN h]] fun i j=>
 asI .i64 i fun k=>unc j fun l m=>nC l fun n=>unc n fun o p=>jl (5,0) o fun q=>unn p (unn m (grd (decide (0 <= p1) && decide (p1 < ni p3.length)) (cT p3 p1.toNat fun _=>
 nam (List.set p3 p1.toNat (iN k)) fun r=>
 zt p0 (w6 (p1 + 1)) p2 r q)))))
 (
 br (d == 7)
 (
 grd (decide (0 <= g) && decide (g < ni p3.length)) (cT p3 g.toNat fun i=>
 asI .i64 i fun j=>jb V 158 [.op [.os (5,0) p4],.agg [iN d,iN e,.str f,iN j,iN h]] fun k l=>
 asI .i64 k fun m=>unc l fun n o=>nC n fun p=>unc p fun q r=>jl (5,0) q fun s=>unn r (unn o (grd (decide (0 <= p1) && decide (p1 < ni p3.length)) (cT p3 p1.toNat fun _=>
 nam (List.set p3 p1.toNat (iN m)) fun t=>
 zt p0 (w6 (p1 + 1)) p2 t s)))))
 (
 jb V 158 [.op [.os (5,0) p4],.agg [iN d,iN e,.str f,iN g,iN h]] fun i j=>
 asI .i64 i fun k=>unc j fun l m=>nC l fun n=>unc n fun o p=>jl (5,0) o fun q=>unn p (unn m (grd (decide (0 <= p1) && decide (p1 < ni p3.length)) (cT p3 p1.toNat fun _=>
 nam (List.set p3 p1.toNat (iN k)) fun r=>
 zt p0 (w6 (p1 + 1)) p2 r q)))))))))))
 (some ((.os (1,0) p3),[.op [.os (5,0) p4]])):=by
 exact (yC _ _ _).trans (by kernel_rfl)
theorem Qm (p:List D) (m1 m2 m3 m4 m5 m6 m7:Int) :V 220 [.op [.os (5,0) p,iN m1,iN m2,iN m3,iN m4,iN m5,iN m6,iN m7]] =
 jb V 218 [.op [.os (5,0) p,iN m1,iN m2,iN m3,iN m4,iN m5,iN m6,iN m7]] fun a b=>
 tk4 a fun c d=>(unc b fun e f=>tk5 e fun g h i j k l m n=>(unn f (br (!d)
 (some ((iN (7)),[.op [.os (5,0) g,iN h,iN i,iN j,iN k,iN l,iN m,iN n]]))
 (
 grd (decide (0 <= k) && decide (k < ni g.length)) (cT g k.toNat fun o=>
 tk6 o fun q _ _ r s=>(br (q == 1)
 (some ((iN (0)),[.op [.os (5,0) g,iN (0),iN i,iN j,iN k,iN (2),iN m,iN c]]))
 (
 br (q != 5)
 (some ((iN (7)),[.op [.os (5,0) g,iN h,iN i,iN j,iN k,iN l,iN m,iN n]]))
 (
 jb V 234 [.agg [.rs (5,0) g],iN r,iN (3)] fun t u=>
 Wk t fun v w x=>(unn u (br (!x)
 (some ((iN (7)),[.op [.os (5,0) g,iN h,iN i,iN j,iN k,iN l,iN m,iN n]]))
 (
 grd (decide (0 <= 0) && decide (0 < ni w.length)) (cT w 0 fun y=>
 asI .i64 y fun z=>grd (decide (0 <= 1) && decide (1 < ni w.length)) (cT w 1 fun A=>
 asI .i64 A fun B=>jb V 95 [.op [.os (5,0) g,iN v,iN z,iN B,iN s,iN l,iN m,iN n],iN c] fun C E=>
 iV C fun F=>unn F (unc E fun G H=>tk5 G fun I J K L M N O P=>(unn H (some ((iN (0)),[.op [.os (5,0) I,iN J,iN K,iN L,iN M,iN N,iN O,iN P]]))))))))))))))))):=by
 exact (yD Tryz.func220 rfl _).trans (by kernel_rfl)
theorem GH (p0 p1 p2 p3 p4 p5 p6 p7:Int) (p8:List D) (p9 p10:Int) (p11 p12 p13 p14:List D) (p15 p16 p17 p18 p19 p20 p21:Int):DG p0 p1 p2 p3 p4 p5 p6 p7 p8 p9 p10 p11 p12 p13 p14 p15 p16 p17 p18 p19 p20 p21 =
 br (decide (p0 < 40))
 (
 br (p19 == 0)
 (
 jb V 89 [.agg [.rs (5,0) p11,.rs (4,0) p12,.rs (3,0) p13],(.agg [.rs (5,0) p14,iN p15,iN p16,iN p17,iN p18,iN p19,iN p20,iN p21])] fun a b=>
 asAgg a fun c=>unc c fun d e=>jl (5,0) d fun f=>unc e fun g h=>asI .i64 g fun i=>unc h fun j k=>asI .i64 j fun l=>unc k fun m n=>asI .i64 m fun o=>unc n fun p q=>asI .i64 p fun r=>unc q fun s t=>asI .i64 s fun u=>unc t fun v w=>asI .i64 v fun x=>unc w fun y z=>asI .i64 y fun A=>unn z (unn b (z4 (w6 (p0 + 1)) p1 p2 p3 p4 p5 p6 p7 p8 p9 p10 p11 p12 p13 i l o r u x A f)))
 (
 jb V 90 [.op [.rs (1,0) p8,iN p9,iN p10]] fun a b=>
 asAgg a fun c=>unc c fun d e=>jl (5,0) d fun f=>unn e (unc b fun g h=>nC g fun i=>unc i fun j k=>kq (1,0) j fun l=>unc k fun m n=>asI .i64 m fun o=>unc n fun p q=>asI .i64 p fun r=>unn q (unn h (jb V 91 [.op [.rs (1,0) l,iN o,iN r],(.agg [.rs (5,0) f])] fun s t=>
 asI .i64 s fun u=>unc t fun v w=>nC v fun x=>unc x fun y z=>kq (1,0) y fun _=>unc z fun A B=>asI .i64 A fun _=>unc B fun C E=>asI .i64 C fun _=>unn E (unn w (some ((.tup [.agg [.rs (5,0) p11,.rs (4,0) p12,.rs (3,0) p13],(.agg [.rs (5,0) p14,iN p15,iN p16,iN p17,iN p18,iN p19,iN p20,iN p21]),(.agg [.rs (5,0) f]),iN u]),[]))))))))
 (
 jb V 90 [.op [.rs (1,0) p8,iN p9,iN p10]] fun a b=>
 asAgg a fun c=>unc c fun d e=>jl (5,0) d fun f=>unn e (unc b fun g h=>nC g fun i=>unc i fun j k=>kq (1,0) j fun l=>unc k fun m n=>asI .i64 m fun o=>unc n fun p q=>asI .i64 p fun r=>unn q (unn h (jb V 91 [.op [.rs (1,0) l,iN o,iN r],(.agg [.rs (5,0) f])] fun s t=>
 asI .i64 s fun u=>unc t fun v w=>nC v fun x=>unc x fun y z=>kq (1,0) y fun _=>unc z fun A B=>asI .i64 A fun _=>unc B fun C E=>asI .i64 C fun _=>unn E (unn w (some ((.tup [.agg [.rs (5,0) p11,.rs (4,0) p12,.rs (3,0) p13],(.agg [.rs (5,0) p14,iN p15,iN p16,iN p17,iN p18,iN p19,iN p20,iN p21]),(.agg [.rs (5,0) f]),iN u]),[]))))))):=by
 exact (yC _ _ _).trans (by kernel_rfl)
theorem FW (p0 p1:Int) (p2:List D) (p3 p4:Int) (p5 p6 p7:List D) (p8 p9 p10 p11 p12 p13 p14 p15 p16 p17 p18 p19 p20 p21:Int) (p22:List D):Bi p0 p1 p2 p3 p4 p5 p6 p7 p8 p9 p10 p11 p12 p13 p14 p15 p16 p17 p18 p19 p20 p21 p22 =
 br (decide (p1 < p0))
 (
 br (p12 == 1)
 (
 jb V 201 [.op [.rs (1,0) p2,iN p3,iN p4]] fun a b=>
 asAgg a fun c=>unc c fun d e=>asI .i64 d fun f=>unc e fun g h=>asI .i64 g fun i=>unc h fun j k=>asS j fun l=>unc k fun m n=>asI .i64 m fun o=>unc n fun p q=>asI .i64 p fun r=>unn q (unc b fun s t=>nC s fun u=>unc u fun v w=>kq (1,0) v fun x=>unc w fun y z=>asI .i64 y fun A=>unc z fun B C=>asI .i64 B fun E=>unn C (unn t (jb V 32 [.agg [.rs (5,0) p5,.rs (4,0) p6,.rs (3,0) p7],(.agg [.rs (5,0) p22,iN p8,iN p9,iN p10,iN p11,iN p12,iN p13,iN p14]),(.agg [.rs (5,0) [.agg [(iN f),iN i,.str l,iN o,iN r]]]),iN (0)] fun F G=>
 asAgg F fun H=>unc H fun I J=>jl (5,0) I fun K=>unc J fun L M=>asI .i64 L fun N=>unc M fun O P=>asI .i64 O fun Q=>unc P fun R S=>asI .i64 R fun T=>unc S fun U W=>asI .i64 U fun X=>unc W fun Y Z=>asI .i64 Y fun a0=>unc Z fun a1 a2=>asI .i64 a1 fun a3=>unc a2 fun a4 a5=>asI .i64 a4 fun a6=>unn a5 (unn G (Bi p0 (w6 (p1 + 1)) x A E p5 p6 p7 N Q T X a0 a3 a6 p15 p16 p17 p18 p19 p20 p21 K))))))
 (
 jb V 89 [.agg [.rs (5,0) p5,.rs (4,0) p6,.rs (3,0) p7],(.agg [.rs (5,0) p22,iN p8,iN p9,iN p10,iN p11,iN p12,iN p13,iN p14])] fun a b=>
 asAgg a fun c=>unc c fun d e=>jl (5,0) d fun f=>unc e fun g h=>asI .i64 g fun i=>unc h fun j k=>asI .i64 j fun l=>unc k fun m n=>asI .i64 m fun o=>unc n fun p q=>asI .i64 p fun r=>unc q fun s t=>asI .i64 s fun u=>unc t fun v w=>asI .i64 v fun x=>unc w fun y z=>asI .i64 y fun A=>unn z (unn b (Bi p0 (w6 (p1 + 1)) p2 p3 p4 p5 p6 p7 i l o r u x A p15 p16 p17 p18 p19 p20 p21 f))))
 (some ((.agg [.os (5,0) p22,iN p8,iN p9,iN p10,iN p11,iN p12,iN p13,iN p14]),[.op [.rs (1,0) p2,iN p3,iN p4]])):=by
 exact (yC _ _ _).trans (by kernel_rfl)
theorem DL (p0:Int) (p1 p2:List D):zm p0 p1 p2 =
 br (decide (p0 >= 0))
 (
 grd (decide (0 <= p0) && decide (p0 < ni p1.length)) (cT p1 p0.toNat fun a=>
 tk6 a fun b _ _ c d=>(grd (decide (0 <= p0) && decide (p0 < ni p2.length)) (cT p2 p0.toNat fun e=>
 asB e fun f=>br (!f)
 (zm (w6 (p0 - 1)) p1 p2)
 (
 br (b == 5)
 (
 grd (decide (0 <= c) && decide (c < ni p2.length)) (cT p2 c.toNat fun _=>
 nam (List.set p2 c.toNat (D.bool true)) fun g=>
 grd (decide (0 <= d) && decide (d < ni g.length)) (cT g d.toNat fun _=>
 nam (List.set g d.toNat (D.bool true)) fun h=>
 zm (w6 (p0 - 1)) p1 h)))
 (
 br (b == 6)
 (
 br (b == 6)
 (
 grd (decide (0 <= c) && decide (c < ni p2.length)) (cT p2 c.toNat fun _=>
 nam (List.set p2 c.toNat (D.bool true)) fun g=>
 zm (w6 (p0 - 1)) p1 g))
 (zm (w6 (p0 - 1)) p1 p2))
 (
 br (b == 7)
 (
 grd (decide (0 <= c) && decide (c < ni p2.length)) (cT p2 c.toNat fun _=>
 nam (List.set p2 c.toNat (D.bool true)) fun g=>
 zm (w6 (p0 - 1)) p1 g))
 (zm (w6 (p0 - 1)) p1 p2))))))))
 (some ((.os (1,0) p2),[])):=by
 exact (yC _ _ _).trans (by kernel_rfl)
theorem DH (p0:List D) (p1 p2:Int) (p3 p4 p5 p6:List D):zj p0 p1 p2 p3 p4 p5 p6 =
 br (decide (p1 < ni p3.length))
 (
 grd (decide (0 <= p1) && decide (p1 < ni p3.length)) (cT p3 p1.toNat fun a=>
 asI .i64 a fun b=>jb V 244 [.op [.os (5,0) p4,.os (4,0) p5,.os (3,0) p6,iN p2],iN b,.rs (1,1) p0] fun c d=>
 iV c fun e=>unn e (unc d fun f g=>tk1 f fun h i j k=>(unn g (zj p0 (w6 (p1 + 1)) k p3 h i j)))))
 (
 jb V 237 [.op [.os (5,0) p4,.os (4,0) p5,.os (3,0) p6,iN p2],(.agg [iN (7),iN (0),(iN (w6 (ni p3.length - 1))),.str ({ data:=#[] })])] fun a b=>
 asI .i64 a fun _=>unc b fun c d=>tk1 c fun e f g h=>(unn d (some ((.tup []),[.op [.os (5,0) e,.os (4,0) f,.os (3,0) g,iN h]])))):=by
 exact (yC _ _ _).trans (by kernel_rfl)
theorem DE (p0:List D) (p1 p2:Int) (p3 p4 p5:List D):Bw p0 p1 p2 p3 p4 p5 =
 br (decide (p2 < p1))
 (
 grd (decide (0 <= p2) && decide (p2 < ni p0.length)) (cT p0 p2.toNat fun a=>
 Wl a fun b c d=>(jb V 124 [.str b] fun e f=>
 asB e fun g=>unn f (br (!g)
 (some ((.bool false),[]))
 (
 jb V 125 [.agg [.rs (5,0) p3,.rs (4,0) p4,.rs (3,0) p5],.str b] fun h i=>
 asI .i64 h fun j=>unn i (br (j != p2)
 (some ((.bool false),[]))
 (
 jb V 58 [iN c,iN (0),(iN (w6 (ni p4.length - 1)))] fun k l=>
 asB k fun m=>unn l (br (!m)
 (some ((.bool false),[]))
 (
 jb V 58 [iN d,iN (0),iN (4)] fun n o=>
 asB n fun p=>unn o (br (!p)
 (some ((.bool false),[]))
 (Bw p0 p1 (w6 (p2 + 1)) p3 p4 p5)))))))))))
 (some ((.bool true),[])):=by
 exact (yC _ _ _).trans (by kernel_rfl)
theorem Gp (p0 p1:Int) (p2:List D) (p3 p4:Int):Dl p0 p1 p2 p3 p4 =
 br (decide (p1 < p0))
 (
 jb V 197 [.op [.rs (1,0) p2,iN p3,iN p4],iN p1] fun a b=>
 asAgg a fun c=>unc c fun d e=>asI .i64 d fun f=>unc e fun g h=>asI .i64 g fun i=>unc h fun j k=>asS j fun l=>unc k fun m n=>asI .i64 m fun o=>unc n fun p q=>asI .i64 p fun r=>unn q (unc b fun s t=>nC s fun u=>unc u fun v w=>kq (1,0) v fun x=>unc w fun y z=>asI .i64 y fun A=>unc z fun B C=>asI .i64 B fun E=>unn C (unn t (jb V 158 [.op [.os (5,0) []],.agg [iN f,iN i,.str l,iN o,iN r]] fun F G=>
 asI .i64 F fun _=>unc G fun H I=>nC H fun J=>unc J fun K L=>jl (5,0) K fun M=>unn L (unn I (zW p0 (w6 (p1 + 1)) x A E M))))))
 (some ((.agg [.os (5,0) []]),[.op [.rs (1,0) p2,iN p3,iN p4]])):=by
 exact (yC _ _ _).trans (by kernel_rfl)
theorem KE (a0_:Int):V 180 [.int .u8 a0_] =
 br (decide (a0_ >= 97))
 (
 br (decide (a0_ <= 122))
 (some ((.bool true),[]))
 (
 br (a0_ == 43)
 (some ((.bool true),[]))
 (
 br (a0_ == 45)
 (some ((.bool true),[]))
 (
 br (a0_ == 42)
 (some ((.bool true),[]))
 (
 br (a0_ == 60)
 (some ((.bool true),[]))
 (
 br (a0_ == 61)
 (some ((.bool true),[]))
 (
 br (a0_ == 63)
 (some ((.bool true),[]))
 (
 br (a0_ == 33)
 (some ((.bool true),[]))
 (some ((.bool (a0_ == 47)),[]))))))))))
 (
 br (a0_ == 43)
 (some ((.bool true),[]))
 (
 br (a0_ == 45)
 (some ((.bool true),[]))
 (
 br (a0_ == 42)
 (some ((.bool true),[]))
 (
 br (a0_ == 60)
 (some ((.bool true),[]))
 (
 br (a0_ == 61)
 (some ((.bool true),[]))
 (
 br (a0_ == 63)
 (some ((.bool true),[]))
 (
 br (a0_ == 33)
 (some ((.bool true),[]))
 (some ((.bool (a0_ == 47)),[]))))))))):=by
 exact (yD Tryz.func180 rfl _).trans (by kernel_rfl)
theorem EF (p0:Int) (p1:List D):BW p0 p1 =
 br (decide (p0 < ni p1.length))
 (
 grd (decide (0 <= p0) && decide (p0 < ni p1.length)) (cT p1 p0.toNat fun a=>
 tk6 a fun b c d e f=>(jb V 130 [.agg [iN b,iN c,.str d,iN e,iN f],iN p0] fun g h=>
 asB g fun i=>unn h (br (!i)
 (some ((.bool false),[]))
 (BW (w6 (p0 + 1)) p1)))))
 (some ((.bool (decide (ni p1.length <= 3000))),[])):=by
 exact (yC _ _ _).trans (by kernel_rfl)
theorem FM (p0:List D) (p1 p2:Int):CE p0 p1 p2 =
 br (decide (p2 < ni p0.length))
 (
 br (decide (p2 < 4000))
 (
 grd (decide (0 <= p2) && decide (p2 < ni p0.length)) (cT p0 p2.toNat fun a=>
 asI .u8 a fun b=>CE p0 (w6 (ni (BitVec.toNat (BitVec.ofInt (IntKind.bits IntKind.i64) (w6 (w6 (w6 (p1 * 131) + w6 b) + 7)) &&& BitVec.ofInt (IntKind.bits IntKind.i64) (1073741823))))) (w6 (p2 + 1))))
 (some ((.op [.rs (1,0) p0,iN (0),iN p1]),[])))
 (some ((.op [.rs (1,0) p0,iN (0),iN p1]),[])):=by
 exact (yC _ _ _).trans (by kernel_rfl)
theorem EJ (p0:Int) (p1:List D) (p2 p3:Int) (p4:List D):zQ p0 p1 p2 p3 p4 =
 br (decide (p0 < ni p4.length))
 (
 grd (decide (0 <= p0) && decide (p0 < ni p4.length)) (cT p4 p0.toNat fun a=>
 asAgg a fun b=>nam (List.set p4 p0.toNat (D.agg (List.take 0 b++[iN (1)]++List.drop 1 b))) fun c=>
 zQ (w6 (p0 + 1)) p1 p2 p3 c))
 (some ((.agg [.os (5,0) p4]),[.op [.rs (1,0) p1,iN p2,iN p3]])):=by
 exact (yC _ _ _).trans (by kernel_rfl)
theorem Dn (p0:Int) (p1:ByteArray):AQ p0 p1 =
 br (decide (p0 > 0))
 (grd (!decide (10 = 0)) (gy ([D.int IntKind.u8 (IntKind.wrap IntKind.u8 (w6 (48 + Int.tmod p0 (10))))]) fun a=>grd (decide (ni (ByteArray.size a + ByteArray.size p1) <= LIM)) (grd (!decide (10 = 0)) (AQ (w6 (Int.tdiv p0 (10))) (a++p1)))))
 (some ((.str p1),[])):=by
 exact (yC _ _ _).trans (by kernel_rfl)
theorem Eo (p0:ByteArray) (p1 p2:Int):AE p0 p1 p2 =
 br (decide (p2 < p1))
 (
 grd (decide (0 <= p2) && decide (p2 < ni (ByteArray.size p0))) (jb V 177 [.int .u8 (bt p0 p2)] fun a b=>
 asB a fun c=>unn b (br (!c)
 (some ((.bool false),[]))
 (AE p0 p1 (w6 (p2 + 1))))))
 (some ((.bool true),[])):=by
 exact (yC _ _ _).trans (by kernel_rfl)
theorem Rq (a0_ a1_:Int):V 116 [iN a0_,iN a1_] =
 br (decide (a0_ < a1_))
 (some ((iN a0_),[]))
 (some ((iN a1_),[])):=by
 exact (yD Tryz.func116 rfl _).trans (by kernel_rfl)
end Go.Eng
/-! a call and its results,taken in one step -/
namespace Go.Eng
open Go.Proofs
theorem y9 {ds:List D} {v2:Int} {v8 v11 v14:List D} {v17:Int} (h:V 237 ds = some (iN v2,[.op [.os (5,0) v8,.os (4,0) v11,.os (3,0) v14,iN v17]])) (K:Int->List D->List D->List D->Int->Option Ret):jb V 237 ds (fun v0 v1=>asI .i64 v0 fun v2=>unc v1 fun v3 v4=>tk1 v3 fun v8 v11 v14 v17=>(unn v4 ((K v2 v8 v11 v14 v17)))) = K v2 v8 v11 v14 v17:=(xh h _).trans rfl
theorem AJ {ds v8 v11 v14:List D} {v17:Int} (h:V 244 ds = some (.tup [],[.op [.os (5,0) v8,.os (4,0) v11,.os (3,0) v14,iN v17]])) (K:List D->List D->List D->Int->Option Ret):jb V 244 ds (fun v0 v1=>iV v0 fun v2=>unn v2 (unc v1 fun v3 v4=>tk1 v3 fun v8 v11 v14 v17=>(unn v4 ((K v8 v11 v14 v17))))) = K v8 v11 v14 v17:=(xh h _).trans rfl
theorem IC {ds v8 v11 v14:List D} {v17:Int} (h:V 253 ds = some (.tup [],[.op [.os (5,0) v8,.os (4,0) v11,.os (3,0) v14,iN v17]])) (K:List D->List D->List D->Int->Option Ret):jb V 253 ds (fun v0 v1=>iV v0 fun v2=>unn v2 (unc v1 fun v3 v4=>tk1 v3 fun v8 v11 v14 v17=>(unn v4 ((K v8 v11 v14 v17))))) = K v8 v11 v14 v17:=(xh h _).trans rfl
theorem Fj {ds v8 v11 v14:List D} {v17:Int} (h:V 236 ds = some (.tup [],[.op [.os (5,0) v8,.os (4,0) v11,.os (3,0) v14,iN v17]])) (K:List D->List D->List D->Int->Option Ret):jb V 236 ds (fun v0 v1=>iV v0 fun v2=>unn v2 (unc v1 fun v3 v4=>tk1 v3 fun v8 v11 v14 v17=>(unn v4 ((K v8 v11 v14 v17))))) = K v8 v11 v14 v17:=(xh h _).trans rfl
theorem Bj {ds v5:List D} {v8:Bool} (h:V 228 ds = some (.tup [.os (1,0) v5,.bool v8],[])) (K:List D->Bool->Option Ret):jb V 228 ds (fun v0 v1=>tk2 v0 fun v5 v8=>(unn v1 ((K v5 v8)))) = K v5 v8:=(xh h _).trans rfl
theorem Gw {ds v2 v8 v11 v14:List D} {v17:Int} (h:V 231 ds = some (.os (1,0) v2,[.op [.os (5,0) v8,.os (4,0) v11,.os (3,0) v14,iN v17]])) (K:List D->List D->List D->List D->Int->Option Ret):jb V 231 ds (fun v0 v1=>jl (1,0) v0 fun v2=>unc v1 fun v3 v4=>tk1 v3 fun v8 v11 v14 v17=>(unn v4 ((K v2 v8 v11 v14 v17)))) = K v2 v8 v11 v14 v17:=(xh h _).trans rfl
theorem Nf {ds v8 v11 v14:List D} {v17:Int} (h:V 254 ds = some (.tup [],[.op [.os (5,0) v8,.os (4,0) v11,.os (3,0) v14,iN v17]])) (K:List D->List D->List D->Int->Option Ret):jb V 254 ds (fun v0 v1=>iV v0 fun v2=>unn v2 (unc v1 fun v3 v4=>tk1 v3 fun v8 v11 v14 v17=>(unn v4 ((K v8 v11 v14 v17))))) = K v8 v11 v14 v17:=(xh h _).trans rfl
theorem BC {ds:List D} {v2:Bool} (h:V 60 ds = some (.bool v2,[])) (K:Bool->Option Ret):jb V 60 ds (fun v0 v1=>asB v0 fun v2=>unn v1 ((K v2))) = K v2:=(xh h _).trans rfl
theorem Jw {ds:List D} {v2:Bool} (h:V 61 ds = some (.bool v2,[])) (K:Bool->Option Ret):jb V 61 ds (fun v0 v1=>asB v0 fun v2=>unn v1 ((K v2))) = K v2:=(xh h _).trans rfl
theorem GF {ds:List D} {v2:Bool} (h:V 180 ds = some (.bool v2,[])) (K:Bool->Option Ret):jb V 180 ds (fun v0 v1=>asB v0 fun v2=>unn v1 ((K v2))) = K v2:=(xh h _).trans rfl
theorem zB {ds:List D} {v2:Bool} (h:V 62 ds = some (.bool v2,[])) (K:Bool->Option Ret):jb V 62 ds (fun v0 v1=>asB v0 fun v2=>unn v1 ((K v2))) = K v2:=(xh h _).trans rfl
theorem JZ {ds:List D} {v2:Int} {v8:List D} {v11 v14:Int} (h:V 76 ds = some (iN v2,[.op [.rs (1,0) v8,iN v11,iN v14]])) (K:Int->List D->Int->Int->Option Ret):jb V 76 ds (fun v0 v1=>asI .i64 v0 fun v2=>unc v1 fun v3 v4=>tk3 v3 fun v8 v11 v14=>(unn v4 ((K v2 v8 v11 v14)))) = K v2 v8 v11 v14:=(xh h _).trans rfl
theorem y8 {ds v5:List D} (h:V 147 ds = some (.agg [.os (5,0) v5],[])) (K:List D->Option Ret):jb V 147 ds (fun v0 v1=>asAgg v0 fun v2=>unc v2 fun v3 v4=>jl (5,0) v3 fun v5=>unn v4 (unn v1 ((K v5)))) = K v5:=(xh h _).trans rfl
theorem BG {ds:List D} {v2:Int} {v8:List D} (h:V 210 ds = some (iN v2,[.op [.os (5,0) v8]])) (K:Int->List D->Option Ret):jb V 210 ds (fun v0 v1=>asI .i64 v0 fun v2=>unc v1 fun v3 v4=>nC v3 fun v5=>unc v5 fun v6 v7=>jl (5,0) v6 fun v8=>unn v7 (unn v4 ((K v2 v8)))) = K v2 v8:=(xh h _).trans rfl
theorem zZ {ds:List D} {v2:Bool} (h:V 211 ds = some (.bool v2,[])) (K:Bool->Option Ret):jb V 211 ds (fun v0 v1=>asB v0 fun v2=>unn v1 ((K v2))) = K v2:=(xh h _).trans rfl
theorem Sb {ds:List D} {v2:Bool} (h:V 56 ds = some (.bool v2,[])) (K:Bool->Option Ret):jb V 56 ds (fun v0 v1=>asB v0 fun v2=>unn v1 ((K v2))) = K v2:=(xh h _).trans rfl
theorem zg {ds:List D} {v2:Bool} (h:V 58 ds = some (.bool v2,[])) (K:Bool->Option Ret):jb V 58 ds (fun v0 v1=>asB v0 fun v2=>unn v1 ((K v2))) = K v2:=(xh h _).trans rfl
theorem R9 {ds:List D} {v2:Bool} (h:V 124 ds = some (.bool v2,[])) (K:Bool->Option Ret):jb V 124 ds (fun v0 v1=>asB v0 fun v2=>unn v1 ((K v2))) = K v2:=(xh h _).trans rfl
theorem Lg {ds:List D} {v2:Bool} (h:V 128 ds = some (.bool v2,[])) (K:Bool->Option Ret):jb V 128 ds (fun v0 v1=>asB v0 fun v2=>unn v1 ((K v2))) = K v2:=(xh h _).trans rfl
theorem zN {ds:List D} {v5:Int} {v8:Bool} {v14:List D} {v17 v20 v23 v26 v29 v32 v35:Int} (h:V 218 ds = some (.tup [iN v5,.bool v8],[.op [.os (5,0) v14,iN v17,iN v20,iN v23,iN v26,iN v29,iN v32,iN v35]])) (K:Int->Bool->List D->Int->Int->Int->Int->Int->Int->Int->Option Ret):jb V 218 ds (fun v0 v1=>tk4 v0 fun v5 v8=>(unc v1 fun v9 v10=>tk5 v9 fun v14 v17 v20 v23 v26 v29 v32 v35=>(unn v10 ((K v5 v8 v14 v17 v20 v23 v26 v29 v32 v35))))) = K v5 v8 v14 v17 v20 v23 v26 v29 v32 v35:=(xh h _).trans rfl
theorem J3 {ds:List D} {v2:Int} {v8:List D} {v11 v14 v17 v20 v23 v26 v29:Int} (h:V 233 ds = some (iN v2,[.op [.os (5,0) v8,iN v11,iN v14,iN v17,iN v20,iN v23,iN v26,iN v29]])) (K:Int->List D->Int->Int->Int->Int->Int->Int->Int->Option Ret):jb V 233 ds (fun v0 v1=>asI .i64 v0 fun v2=>unc v1 fun v3 v4=>tk5 v3 fun v8 v11 v14 v17 v20 v23 v26 v29=>(unn v4 ((K v2 v8 v11 v14 v17 v20 v23 v26 v29)))) = K v2 v8 v11 v14 v17 v20 v23 v26 v29:=(xh h _).trans rfl
theorem Sa {ds:List D} {v2:Bool} (h:V 55 ds = some (.bool v2,[])) (K:Bool->Option Ret):jb V 55 ds (fun v0 v1=>asB v0 fun v2=>unn v1 ((K v2))) = K v2:=(xh h _).trans rfl
theorem Ox {ds:List D} {v8 v11:Int} {v14:ByteArray} {v17 v20 v23:Int} (h:V 250 ds = some (.tup [.agg [iN v8,iN v11,.str v14,iN v17,iN v20],iN v23],[])) (K:Int->Int->ByteArray->Int->Int->Int->Option Ret):jb V 250 ds (fun v0 v1=>iV v0 fun v2=>unc v2 fun v3 v4=>tk6 v3 fun v8 v11 v14 v17 v20=>(unc v4 fun v21 v22=>asI .i64 v21 fun v23=>unn v22 (unn v1 ((K v8 v11 v14 v17 v20 v23))))) = K v8 v11 v14 v17 v20 v23:=(xh h _).trans rfl
theorem yU {ds:List D} {v2:Int} {v8:List D} (h:V 158 ds = some (iN v2,[.op [.os (5,0) v8]])) (K:Int->List D->Option Ret):jb V 158 ds (fun v0 v1=>asI .i64 v0 fun v2=>unc v1 fun v3 v4=>nC v3 fun v5=>unc v5 fun v6 v7=>jl (5,0) v6 fun v8=>unn v7 (unn v4 ((K v2 v8)))) = K v2 v8:=(xh h _).trans rfl
theorem BH {ds:List D} {v5 v8:Int} {v11:ByteArray} {v14 v17:Int} (h:V 251 ds = some (.agg [iN v5,iN v8,.str v11,iN v14,iN v17],[])) (K:Int->Int->ByteArray->Int->Int->Option Ret):jb V 251 ds (fun v0 v1=>tk6 v0 fun v5 v8 v11 v14 v17=>(unn v1 ((K v5 v8 v11 v14 v17)))) = K v5 v8 v11 v14 v17:=(xh h _).trans rfl
theorem Nc {ds v2:List D} (h:V 252 ds = some (.os (1,0) v2,[])) (K:List D->Option Ret):jb V 252 ds (fun v0 v1=>jl (1,0) v0 fun v2=>unn v1 ((K v2))) = K v2:=(xh h _).trans rfl
theorem QD {ds:List D} {v2:Bool} (h:V 57 ds = some (.bool v2,[])) (K:Bool->Option Ret):jb V 57 ds (fun v0 v1=>asB v0 fun v2=>unn v1 ((K v2))) = K v2:=(xh h _).trans rfl
theorem CY {ds:List D} {v2:Int} {v8:List D} (h:V 157 ds = some (iN v2,[.op [.os (5,0) v8]])) (K:Int->List D->Option Ret):jb V 157 ds (fun v0 v1=>asI .i64 v0 fun v2=>unc v1 fun v3 v4=>nC v3 fun v5=>unc v5 fun v6 v7=>jl (5,0) v6 fun v8=>unn v7 (unn v4 ((K v2 v8)))) = K v2 v8:=(xh h _).trans rfl
theorem QC {ds:List D} {v2:Int} {v8:List D} (h:V 94 ds = some (iN v2,[.op [.os (5,0) v8]])) (K:Int->List D->Option Ret):jb V 94 ds (fun v0 v1=>asI .i64 v0 fun v2=>unc v1 fun v3 v4=>nC v3 fun v5=>unc v5 fun v6 v7=>jl (5,0) v6 fun v8=>unn v7 (unn v4 ((K v2 v8)))) = K v2 v8:=(xh h _).trans rfl
theorem D4 {ds:List D} {v2:Bool} (h:V 15 ds = some (.bool v2,[])) (K:Bool->Option Ret):jb V 15 ds (fun v0 v1=>asB v0 fun v2=>unn v1 ((K v2))) = K v2:=(xh h _).trans rfl
theorem QF {ds v2:List D} (h:V 149 ds = some (.os (1,0) v2,[])) (K:List D->Option Ret):jb V 149 ds (fun v0 v1=>jl (1,0) v0 fun v2=>unn v1 ((K v2))) = K v2:=(xh h _).trans rfl
theorem Sn {ds v2 v8:List D} (h:V 148 ds = some (.os (1,0) v2,[.op [.os (5,0) v8]])) (K:List D->List D->Option Ret):jb V 148 ds (fun v0 v1=>jl (1,0) v0 fun v2=>unc v1 fun v3 v4=>nC v3 fun v5=>unc v5 fun v6 v7=>jl (5,0) v6 fun v8=>unn v7 (unn v4 ((K v2 v8)))) = K v2 v8:=(xh h _).trans rfl
theorem J0 {ds:List D} {v2:Bool} (h:V 226 ds = some (.bool v2,[])) (K:Bool->Option Ret):jb V 226 ds (fun v0 v1=>asB v0 fun v2=>unn v1 ((K v2))) = K v2:=(xh h _).trans rfl
theorem Eh {ds:List D} {v2:Int} (h:V 221 ds = some (iN v2,[])) (K:Int->Option Ret):jb V 221 ds (fun v0 v1=>asI .i64 v0 fun v2=>unn v1 ((K v2))) = K v2:=(xh h _).trans rfl
theorem QE {ds v2:List D} (h:V 239 ds = some (.os (1,0) v2,[])) (K:List D->Option Ret):jb V 239 ds (fun v0 v1=>jl (1,0) v0 fun v2=>unn v1 ((K v2))) = K v2:=(xh h _).trans rfl
theorem Nb {ds:List D} {v2:Int} (h:V 129 ds = some (iN v2,[])) (K:Int->Option Ret):jb V 129 ds (fun v0 v1=>asI .i64 v0 fun v2=>unn v1 ((K v2))) = K v2:=(xh h _).trans rfl
theorem zY {ds v8:List D} {v11 v14 v17 v20 v23 v26 v29:Int} {v32:Bool} (h:V 78 ds = some (.tup [.agg [.os (5,0) v8,iN v11,iN v14,iN v17,iN v20,iN v23,iN v26,iN v29],.bool v32],[])) (K:List D->Int->Int->Int->Int->Int->Int->Int->Bool->Option Ret):jb V 78 ds (fun v0 v1=>iV v0 fun v2=>unc v2 fun v3 v4=>tk7 v3 fun v8 v11 v14 v17 v20 v23 v26 v29=>(unc v4 fun v30 v31=>asB v30 fun v32=>unn v31 (unn v1 ((K v8 v11 v14 v17 v20 v23 v26 v29 v32))))) = K v8 v11 v14 v17 v20 v23 v26 v29 v32:=(xh h _).trans rfl
theorem D0 {ds v8:List D} {v11 v14 v17 v20 v23 v26 v29:Int} {v32:Bool} (h:V 171 ds = some (.tup [.agg [.os (5,0) v8,iN v11,iN v14,iN v17,iN v20,iN v23,iN v26,iN v29],.bool v32],[])) (K:List D->Int->Int->Int->Int->Int->Int->Int->Bool->Option Ret):jb V 171 ds (fun v0 v1=>iV v0 fun v2=>unc v2 fun v3 v4=>tk7 v3 fun v8 v11 v14 v17 v20 v23 v26 v29=>(unc v4 fun v30 v31=>asB v30 fun v32=>unn v31 (unn v1 ((K v8 v11 v14 v17 v20 v23 v26 v29 v32))))) = K v8 v11 v14 v17 v20 v23 v26 v29 v32:=(xh h _).trans rfl
theorem AK {ds v5:List D} {v8 v11 v14 v17 v20 v23 v26:Int} (h:V 85 ds = some (.agg [.os (5,0) v5,iN v8,iN v11,iN v14,iN v17,iN v20,iN v23,iN v26],[])) (K:List D->Int->Int->Int->Int->Int->Int->Int->Option Ret):jb V 85 ds (fun v0 v1=>tk7 v0 fun v5 v8 v11 v14 v17 v20 v23 v26=>(unn v1 ((K v5 v8 v11 v14 v17 v20 v23 v26)))) = K v5 v8 v11 v14 v17 v20 v23 v26:=(xh h _).trans rfl
theorem Li {ds:List D} {v2:Int} {v8:List D} (h:V 96 ds = some (iN v2,[.op [.os (5,0) v8]])) (K:Int->List D->Option Ret):jb V 96 ds (fun v0 v1=>asI .i64 v0 fun v2=>unc v1 fun v3 v4=>nC v3 fun v5=>unc v5 fun v6 v7=>jl (5,0) v6 fun v8=>unn v7 (unn v4 ((K v2 v8)))) = K v2 v8:=(xh h _).trans rfl
theorem zT {ds v8:List D} {v11 v14 v17 v20 v23 v26 v29:Int} (h:V 95 ds = some (.tup [],[.op [.os (5,0) v8,iN v11,iN v14,iN v17,iN v20,iN v23,iN v26,iN v29]])) (K:List D->Int->Int->Int->Int->Int->Int->Int->Option Ret):jb V 95 ds (fun v0 v1=>iV v0 fun v2=>unn v2 (unc v1 fun v3 v4=>tk5 v3 fun v8 v11 v14 v17 v20 v23 v26 v29=>(unn v4 ((K v8 v11 v14 v17 v20 v23 v26 v29))))) = K v8 v11 v14 v17 v20 v23 v26 v29:=(xh h _).trans rfl
theorem C9 {ds v5:List D} {v8 v11 v14 v17 v20 v23 v26:Int} (h:V 97 ds = some (.agg [.os (5,0) v5,iN v8,iN v11,iN v14,iN v17,iN v20,iN v23,iN v26],[])) (K:List D->Int->Int->Int->Int->Int->Int->Int->Option Ret):jb V 97 ds (fun v0 v1=>tk7 v0 fun v5 v8 v11 v14 v17 v20 v23 v26=>(unn v1 ((K v5 v8 v11 v14 v17 v20 v23 v26)))) = K v5 v8 v11 v14 v17 v20 v23 v26:=(xh h _).trans rfl
theorem Fi {ds:List D} {v8 v11:Int} {v14:ByteArray} {v17 v20:Int} {v23:Bool} (h:V 212 ds = some (.tup [.agg [iN v8,iN v11,.str v14,iN v17,iN v20],.bool v23],[])) (K:Int->Int->ByteArray->Int->Int->Bool->Option Ret):jb V 212 ds (fun v0 v1=>iV v0 fun v2=>unc v2 fun v3 v4=>tk6 v3 fun v8 v11 v14 v17 v20=>(unc v4 fun v21 v22=>asB v21 fun v23=>unn v22 (unn v1 ((K v8 v11 v14 v17 v20 v23))))) = K v8 v11 v14 v17 v20 v23:=(xh h _).trans rfl
theorem Ia {ds:List D} {v2:Bool} (h:V 14 ds = some (.bool v2,[])) (K:Bool->Option Ret):jb V 14 ds (fun v0 v1=>asB v0 fun v2=>unn v1 ((K v2))) = K v2:=(xh h _).trans rfl
theorem Aj {ds v5:List D} {v8 v11 v14 v17 v20 v23 v26:Int} (h:V 63 ds = some (.agg [.os (5,0) v5,iN v8,iN v11,iN v14,iN v17,iN v20,iN v23,iN v26],[])) (K:List D->Int->Int->Int->Int->Int->Int->Int->Option Ret):jb V 63 ds (fun v0 v1=>tk7 v0 fun v5 v8 v11 v14 v17 v20 v23 v26=>(unn v1 ((K v5 v8 v11 v14 v17 v20 v23 v26)))) = K v5 v8 v11 v14 v17 v20 v23 v26:=(xh h _).trans rfl
theorem Fx {ds:List D} {v2:ByteArray} (h:V 202 ds = some (.str v2,[])) (K:ByteArray->Option Ret):jb V 202 ds (fun v0 v1=>asS v0 fun v2=>unn v1 ((K v2))) = K v2:=(xh h _).trans rfl
theorem Bm {ds v8 v11 v14:List D} {v17:Int} (h:V 229 ds = some (.tup [],[.op [.os (5,0) v8,.os (4,0) v11,.os (3,0) v14,iN v17]])) (K:List D->List D->List D->Int->Option Ret):jb V 229 ds (fun v0 v1=>iV v0 fun v2=>unn v2 (unc v1 fun v3 v4=>tk1 v3 fun v8 v11 v14 v17=>(unn v4 ((K v8 v11 v14 v17))))) = K v8 v11 v14 v17:=(xh h _).trans rfl
theorem Lh {ds:List D} {v5:ByteArray} {v8:Bool} {v14 v17 v20:List D} {v23:Int} (h:V 230 ds = some (.tup [.str v5,.bool v8],[.op [.os (5,0) v14,.os (4,0) v17,.os (3,0) v20,iN v23]])) (K:ByteArray->Bool->List D->List D->List D->Int->Option Ret):jb V 230 ds (fun v0 v1=>tk8 v0 fun v5 v8=>(unc v1 fun v9 v10=>tk1 v9 fun v14 v17 v20 v23=>(unn v10 ((K v5 v8 v14 v17 v20 v23))))) = K v5 v8 v14 v17 v20 v23:=(xh h _).trans rfl
theorem VX {ds:List D} {v2:Bool} (h:V 12 ds = some (.bool v2,[])) (K:Bool->Option Ret):jb V 12 ds (fun v0 v1=>asB v0 fun v2=>unn v1 ((K v2))) = K v2:=(xh h _).trans rfl
theorem Lf {ds:List D} {v2:Bool} (h:V 59 ds = some (.bool v2,[])) (K:Bool->Option Ret):jb V 59 ds (fun v0 v1=>asB v0 fun v2=>unn v1 ((K v2))) = K v2:=(xh h _).trans rfl
theorem Sm {ds v5:List D} {v8 v11 v14 v17 v20 v23 v26:Int} (h:V 153 ds = some (.agg [.os (5,0) v5,iN v8,iN v11,iN v14,iN v17,iN v20,iN v23,iN v26],[])) (K:List D->Int->Int->Int->Int->Int->Int->Int->Option Ret):jb V 153 ds (fun v0 v1=>tk7 v0 fun v5 v8 v11 v14 v17 v20 v23 v26=>(unn v1 ((K v5 v8 v11 v14 v17 v20 v23 v26)))) = K v5 v8 v11 v14 v17 v20 v23 v26:=(xh h _).trans rfl
theorem TN {ds v8 v11 v14:List D} {v17:Int} (h:V 215 ds = some (.tup [],[.op [.os (5,0) v8,.os (4,0) v11,.os (3,0) v14,iN v17]])) (K:List D->List D->List D->Int->Option Ret):jb V 215 ds (fun v0 v1=>iV v0 fun v2=>unn v2 (unc v1 fun v3 v4=>tk1 v3 fun v8 v11 v14 v17=>(unn v4 ((K v8 v11 v14 v17))))) = K v8 v11 v14 v17:=(xh h _).trans rfl
theorem Dh {ds:List D} {v2:Bool} (h:V 238 ds = some (.bool v2,[])) (K:Bool->Option Ret):jb V 238 ds (fun v0 v1=>asB v0 fun v2=>unn v1 ((K v2))) = K v2:=(xh h _).trans rfl
theorem Ng {ds:List D} {v5 v8:Int} (h:V 248 ds = some (.tup [iN v5,iN v8],[])) (K:Int->Int->Option Ret):jb V 248 ds (fun v0 v1=>tk9 v0 fun v5 v8=>(unn v1 ((K v5 v8)))) = K v5 v8:=(xh h _).trans rfl
theorem Sg {ds v8 v11 v14:List D} {v17:Int} (h:V 249 ds = some (.tup [],[.op [.os (5,0) v8,.os (4,0) v11,.os (3,0) v14,iN v17]])) (K:List D->List D->List D->Int->Option Ret):jb V 249 ds (fun v0 v1=>iV v0 fun v2=>unn v2 (unc v1 fun v3 v4=>tk1 v3 fun v8 v11 v14 v17=>(unn v4 ((K v8 v11 v14 v17))))) = K v8 v11 v14 v17:=(xh h _).trans rfl
theorem Du {ds:List D} {v2:ByteArray} (h:V 152 ds = some (.str v2,[])) (K:ByteArray->Option Ret):jb V 152 ds (fun v0 v1=>asS v0 fun v2=>unn v1 ((K v2))) = K v2:=(xh h _).trans rfl
theorem Sk {ds:List D} {v2:Int} {v8:List D} {v11 v14 v17 v20 v23 v26 v29:Int} (h:V 240 ds = some (iN v2,[.op [.os (5,0) v8,iN v11,iN v14,iN v17,iN v20,iN v23,iN v26,iN v29]])) (K:Int->List D->Int->Int->Int->Int->Int->Int->Int->Option Ret):jb V 240 ds (fun v0 v1=>asI .i64 v0 fun v2=>unc v1 fun v3 v4=>tk5 v3 fun v8 v11 v14 v17 v20 v23 v26 v29=>(unn v4 ((K v2 v8 v11 v14 v17 v20 v23 v26 v29)))) = K v2 v8 v11 v14 v17 v20 v23 v26 v29:=(xh h _).trans rfl
theorem AW {ds:List D} {v5:Int} {v8:List D} {v11:Bool} (h:V 234 ds = some (.tup [iN v5,.os (1,0) v8,.bool v11],[])) (K:Int->List D->Bool->Option Ret):jb V 234 ds (fun v0 v1=>Wk v0 fun v5 v8 v11=>(unn v1 ((K v5 v8 v11)))) = K v5 v8 v11:=(xh h _).trans rfl
theorem KN {ds v5:List D} {v8 v11 v14 v17 v20 v23 v26:Int} (h:V 89 ds = some (.agg [.os (5,0) v5,iN v8,iN v11,iN v14,iN v17,iN v20,iN v23,iN v26],[])) (K:List D->Int->Int->Int->Int->Int->Int->Int->Option Ret):jb V 89 ds (fun v0 v1=>tk7 v0 fun v5 v8 v11 v14 v17 v20 v23 v26=>(unn v1 ((K v5 v8 v11 v14 v17 v20 v23 v26)))) = K v5 v8 v11 v14 v17 v20 v23 v26:=(xh h _).trans rfl
theorem TK {ds v2:List D} (h:V 189 ds = some (.os (1,0) v2,[])) (K:List D->Option Ret):jb V 189 ds (fun v0 v1=>jl (1,0) v0 fun v2=>unn v1 ((K v2))) = K v2:=(xh h _).trans rfl
theorem KZ {ds v5:List D} {v8 v11 v14 v17 v20 v23 v26:Int} (h:V 92 ds = some (.agg [.os (5,0) v5,iN v8,iN v11,iN v14,iN v17,iN v20,iN v23,iN v26],[])) (K:List D->Int->Int->Int->Int->Int->Int->Int->Option Ret):jb V 92 ds (fun v0 v1=>tk7 v0 fun v5 v8 v11 v14 v17 v20 v23 v26=>(unn v1 ((K v5 v8 v11 v14 v17 v20 v23 v26)))) = K v5 v8 v11 v14 v17 v20 v23 v26:=(xh h _).trans rfl
theorem RZ {ds v5:List D} {v8 v11 v14 v17 v20 v23 v26:Int} (h:V 31 ds = some (.agg [.os (5,0) v5,iN v8,iN v11,iN v14,iN v17,iN v20,iN v23,iN v26],[])) (K:List D->Int->Int->Int->Int->Int->Int->Int->Option Ret):jb V 31 ds (fun v0 v1=>tk7 v0 fun v5 v8 v11 v14 v17 v20 v23 v26=>(unn v1 ((K v5 v8 v11 v14 v17 v20 v23 v26)))) = K v5 v8 v11 v14 v17 v20 v23 v26:=(xh h _).trans rfl
theorem Ld {ds v5:List D} {v8 v11 v14 v17 v20 v23 v26:Int} (h:V 32 ds = some (.agg [.os (5,0) v5,iN v8,iN v11,iN v14,iN v17,iN v20,iN v23,iN v26],[])) (K:List D->Int->Int->Int->Int->Int->Int->Int->Option Ret):jb V 32 ds (fun v0 v1=>tk7 v0 fun v5 v8 v11 v14 v17 v20 v23 v26=>(unn v1 ((K v5 v8 v11 v14 v17 v20 v23 v26)))) = K v5 v8 v11 v14 v17 v20 v23 v26:=(xh h _).trans rfl
theorem Na {ds:List D} {v2:ByteArray} (h:V 29 ds = some (.str v2,[])) (K:ByteArray->Option Ret):jb V 29 ds (fun v0 v1=>asS v0 fun v2=>unn v1 ((K v2))) = K v2:=(xh h _).trans rfl
theorem KM {ds:List D} {v2:Int} {v8:List D} (h:V 93 ds = some (iN v2,[.op [.os (5,0) v8]])) (K:Int->List D->Option Ret):jb V 93 ds (fun v0 v1=>asI .i64 v0 fun v2=>unc v1 fun v3 v4=>nC v3 fun v5=>unc v5 fun v6 v7=>jl (5,0) v6 fun v8=>unn v7 (unn v4 ((K v2 v8)))) = K v2 v8:=(xh h _).trans rfl
theorem KO {ds:List D} {v2:Int} {v8:List D} {v11 v14 v17 v20 v23 v26 v29:Int} (h:V 196 ds = some (iN v2,[.op [.os (5,0) v8,iN v11,iN v14,iN v17,iN v20,iN v23,iN v26,iN v29]])) (K:Int->List D->Int->Int->Int->Int->Int->Int->Int->Option Ret):jb V 196 ds (fun v0 v1=>asI .i64 v0 fun v2=>unc v1 fun v3 v4=>tk5 v3 fun v8 v11 v14 v17 v20 v23 v26 v29=>(unn v4 ((K v2 v8 v11 v14 v17 v20 v23 v26 v29)))) = K v2 v8 v11 v14 v17 v20 v23 v26 v29:=(xh h _).trans rfl
theorem Pd {ds v8 v11:List D} {v14 v17:Int} (h:V 191 ds = some (.tup [.agg [.os (5,0) v8],.os (1,0) v11,iN v14,iN v17],[])) (K:List D->List D->Int->Int->Option Ret):jb V 191 ds (fun v0 v1=>iV v0 fun v2=>unc v2 fun v3 v4=>asAgg v3 fun v5=>unc v5 fun v6 v7=>jl (5,0) v6 fun v8=>unn v7 (unc v4 fun v9 v10=>jl (1,0) v9 fun v11=>unc v10 fun v12 v13=>asI .i64 v12 fun v14=>unc v13 fun v15 v16=>asI .i64 v15 fun v17=>unn v16 (unn v1 ((K v8 v11 v14 v17))))) = K v8 v11 v14 v17:=(xh h _).trans rfl
theorem JY {ds v8 v11 v14:List D} {v17 v20:Int} (h:V 193 ds = some (.tup [.agg [.os (5,0) v8,.os (4,0) v11,.os (3,0) v14],iN v17,iN v20],[])) (K:List D->List D->List D->Int->Int->Option Ret):jb V 193 ds (fun v0 v1=>iV v0 fun v2=>unc v2 fun v3 v4=>Xz v3 fun v8 v11 v14=>(unc v4 fun v15 v16=>asI .i64 v15 fun v17=>unc v16 fun v18 v19=>asI .i64 v18 fun v20=>unn v19 (unn v1 ((K v8 v11 v14 v17 v20))))) = K v8 v11 v14 v17 v20:=(xh h _).trans rfl
theorem Sc {ds:List D} {v2:Bool} (h:V 126 ds = some (.bool v2,[])) (K:Bool->Option Ret):jb V 126 ds (fun v0 v1=>asB v0 fun v2=>unn v1 ((K v2))) = K v2:=(xh h _).trans rfl
theorem Di {ds:List D} {v2:Bool} (h:V 203 ds = some (.bool v2,[])) (K:Bool->Option Ret):jb V 203 ds (fun v0 v1=>asB v0 fun v2=>unn v1 ((K v2))) = K v2:=(xh h _).trans rfl
theorem M9 {ds v2 v8:List D} (h:V 137 ds = some (.os (1,0) v2,[.op [.os (5,0) v8]])) (K:List D->List D->Option Ret):jb V 137 ds (fun v0 v1=>jl (1,0) v0 fun v2=>unc v1 fun v3 v4=>nC v3 fun v5=>unc v5 fun v6 v7=>jl (5,0) v6 fun v8=>unn v7 (unn v4 ((K v2 v8)))) = K v2 v8:=(xh h _).trans rfl
theorem Gx {ds:List D} {v5:Int} {v8:Bool} (h:V 216 ds = some (.tup [iN v5,.bool v8],[])) (K:Int->Bool->Option Ret):jb V 216 ds (fun v0 v1=>tk4 v0 fun v5 v8=>(unn v1 ((K v5 v8)))) = K v5 v8:=(xh h _).trans rfl
theorem Jh {ds:List D} {v2:Int} {v8:List D} {v11 v14 v17 v20 v23 v26 v29:Int} (h:V 217 ds = some (iN v2,[.op [.os (5,0) v8,iN v11,iN v14,iN v17,iN v20,iN v23,iN v26,iN v29]])) (K:Int->List D->Int->Int->Int->Int->Int->Int->Int->Option Ret):jb V 217 ds (fun v0 v1=>asI .i64 v0 fun v2=>unc v1 fun v3 v4=>tk5 v3 fun v8 v11 v14 v17 v20 v23 v26 v29=>(unn v4 ((K v2 v8 v11 v14 v17 v20 v23 v26 v29)))) = K v2 v8 v11 v14 v17 v20 v23 v26 v29:=(xh h _).trans rfl
theorem Sj {ds:List D} {v2:Int} {v8:List D} {v11 v14 v17 v20 v23 v26 v29:Int} (h:V 219 ds = some (iN v2,[.op [.os (5,0) v8,iN v11,iN v14,iN v17,iN v20,iN v23,iN v26,iN v29]])) (K:Int->List D->Int->Int->Int->Int->Int->Int->Int->Option Ret):jb V 219 ds (fun v0 v1=>asI .i64 v0 fun v2=>unc v1 fun v3 v4=>tk5 v3 fun v8 v11 v14 v17 v20 v23 v26 v29=>(unn v4 ((K v2 v8 v11 v14 v17 v20 v23 v26 v29)))) = K v2 v8 v11 v14 v17 v20 v23 v26 v29:=(xh h _).trans rfl
theorem Si {ds:List D} {v2:Int} {v8:List D} {v11 v14 v17 v20 v23 v26 v29:Int} (h:V 220 ds = some (iN v2,[.op [.os (5,0) v8,iN v11,iN v14,iN v17,iN v20,iN v23,iN v26,iN v29]])) (K:Int->List D->Int->Int->Int->Int->Int->Int->Int->Option Ret):jb V 220 ds (fun v0 v1=>asI .i64 v0 fun v2=>unc v1 fun v3 v4=>tk5 v3 fun v8 v11 v14 v17 v20 v23 v26 v29=>(unn v4 ((K v2 v8 v11 v14 v17 v20 v23 v26 v29)))) = K v2 v8 v11 v14 v17 v20 v23 v26 v29:=(xh h _).trans rfl
theorem Ou {ds:List D} {v2:Int} (h:V 245 ds = some (iN v2,[])) (K:Int->Option Ret):jb V 245 ds (fun v0 v1=>asI .i64 v0 fun v2=>unn v1 ((K v2))) = K v2:=(xh h _).trans rfl
theorem Pe {ds:List D} {v5 v8:Int} {v14:List D} (h:V 246 ds = some (.tup [iN v5,iN v8],[.op [.os (5,0) v14]])) (K:Int->Int->List D->Option Ret):jb V 246 ds (fun v0 v1=>tk9 v0 fun v5 v8=>(unc v1 fun v9 v10=>nC v9 fun v11=>unc v11 fun v12 v13=>jl (5,0) v12 fun v14=>unn v13 (unn v10 ((K v5 v8 v14))))) = K v5 v8 v14:=(xh h _).trans rfl
theorem Se {ds:List D} {v2:Int} (h:V 232 ds = some (iN v2,[])) (K:Int->Option Ret):jb V 232 ds (fun v0 v1=>asI .i64 v0 fun v2=>unn v1 ((K v2))) = K v2:=(xh h _).trans rfl
theorem CZ {ds:List D} {v2:Int} {v8:List D} {v11 v14:Int} (h:V 143 ds = some (iN v2,[.op [.rs (1,0) v8,iN v11,iN v14]])) (K:Int->List D->Int->Int->Option Ret):jb V 143 ds (fun v0 v1=>asI .i64 v0 fun v2=>unc v1 fun v3 v4=>tk3 v3 fun v8 v11 v14=>(unn v4 ((K v2 v8 v11 v14)))) = K v2 v8 v11 v14:=(xh h _).trans rfl
theorem TM {ds:List D} {v5:Int} {v8:Bool} (h:V 227 ds = some (.tup [iN v5,.bool v8],[])) (K:Int->Bool->Option Ret):jb V 227 ds (fun v0 v1=>tk4 v0 fun v5 v8=>(unn v1 ((K v5 v8)))) = K v5 v8:=(xh h _).trans rfl
theorem Sf {ds:List D} {v2:Bool} (h:V 130 ds = some (.bool v2,[])) (K:Bool->Option Ret):jb V 130 ds (fun v0 v1=>asB v0 fun v2=>unn v1 ((K v2))) = K v2:=(xh h _).trans rfl
theorem LF {ds:List D} {v2:Bool} (h:V 177 ds = some (.bool v2,[])) (K:Bool->Option Ret):jb V 177 ds (fun v0 v1=>asB v0 fun v2=>unn v1 ((K v2))) = K v2:=(xh h _).trans rfl
end Go.Eng
