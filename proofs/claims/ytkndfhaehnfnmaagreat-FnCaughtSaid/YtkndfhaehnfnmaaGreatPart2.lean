/- the program and the reference on plain data, part 2 -/
import Derived.Test.YtkndfhaehnfnmaaGreatPart1
/-! the functions as the interpreter has them -/
namespace Go.Eng
open Go.Proofs Go.Proofs.Tryz
set_option maxRecDepth 100000
theorem Jl (p0:List D)(p1 p2:Int)(p3:List D):Ae p0 p1 p2 p3 =
 br (decide (p2<p1))
 (
 grd (decide (0<=p2)&&decide (p2<ni p0.length)) (dd p0 p2.toNat fun a=>
 tk2 a fun b c d e f=>(AY 67 [iN b] fun g=>(grd (decide (ni (List.length (p3++g))<=LIM)) (nam (p3++g) fun h=>
 br (b==2)
 (
 br (b==2)
 (AY 67 [iN c] fun i=>(grd (decide (ni (List.length (h++i))<=LIM)) (nam (h++i) fun j=>
 Ae p0 p1 (w6 (p2+1)) j)))
 (
 br (b==3)
 (AY 67 [(iN (w6 (c+1000000000)))] fun i=>(grd (decide (ni (List.length (h++i))<=LIM)) (nam (h++i) fun j=>
 Ae p0 p1 (w6 (p2+1)) j)))
 (
 br (b==4)
 (AY 138 [.str d] fun i=>(grd (decide (ni (List.length (h++i))<=LIM)) (nam (h++i) fun j=>
 Ae p0 p1 (w6 (p2+1)) j)))
 (
 br (b==5)
 (AY 67 [iN e] fun i=>(grd (decide (ni (List.length (h++i))<=LIM)) (nam (h++i) fun j=>
 AY 67 [iN f] fun k=>(grd (decide (ni (List.length (j++k))<=LIM)) (nam (j++k) fun l=>
 Ae p0 p1 (w6 (p2+1)) l)))))
 (
 br (b==6)
 (AY 67 [iN c] fun i=>(grd (decide (ni (List.length (h++i))<=LIM)) (nam (h++i) fun j=>
 AY 67 [iN e] fun k=>(grd (decide (ni (List.length (j++k))<=LIM)) (nam (j++k) fun l=>
 Ae p0 p1 (w6 (p2+1)) l)))))
 (
 br (b==7)
 (AY 67 [iN e] fun i=>(grd (decide (ni (List.length (h++i))<=LIM)) (nam (h++i) fun j=>
 Ae p0 p1 (w6 (p2+1)) j)))
 (Ae p0 p1 (w6 (p2+1)) h)))))))
 (
 br (b==8)
 (
 br (b==8)
 (AY 67 [iN c] fun i=>(grd (decide (ni (List.length (h++i))<=LIM)) (nam (h++i) fun j=>
 Ae p0 p1 (w6 (p2+1)) j)))
 (
 br (b==3)
 (AY 67 [(iN (w6 (c+1000000000)))] fun i=>(grd (decide (ni (List.length (h++i))<=LIM)) (nam (h++i) fun j=>
 Ae p0 p1 (w6 (p2+1)) j)))
 (
 br (b==4)
 (AY 138 [.str d] fun i=>(grd (decide (ni (List.length (h++i))<=LIM)) (nam (h++i) fun j=>
 Ae p0 p1 (w6 (p2+1)) j)))
 (
 br (b==5)
 (AY 67 [iN e] fun i=>(grd (decide (ni (List.length (h++i))<=LIM)) (nam (h++i) fun j=>
 AY 67 [iN f] fun k=>(grd (decide (ni (List.length (j++k))<=LIM)) (nam (j++k) fun l=>
 Ae p0 p1 (w6 (p2+1)) l)))))
 (
 br (b==6)
 (AY 67 [iN c] fun i=>(grd (decide (ni (List.length (h++i))<=LIM)) (nam (h++i) fun j=>
 AY 67 [iN e] fun k=>(grd (decide (ni (List.length (j++k))<=LIM)) (nam (j++k) fun l=>
 Ae p0 p1 (w6 (p2+1)) l)))))
 (
 br (b==7)
 (AY 67 [iN e] fun i=>(grd (decide (ni (List.length (h++i))<=LIM)) (nam (h++i) fun j=>
 Ae p0 p1 (w6 (p2+1)) j)))
 (Ae p0 p1 (w6 (p2+1)) h)))))))
 (
 br (b==9)
 (AY 67 [iN c] fun i=>(grd (decide (ni (List.length (h++i))<=LIM)) (nam (h++i) fun j=>
 Ae p0 p1 (w6 (p2+1)) j)))
 (
 br (b==3)
 (AY 67 [(iN (w6 (c+1000000000)))] fun i=>(grd (decide (ni (List.length (h++i))<=LIM)) (nam (h++i) fun j=>
 Ae p0 p1 (w6 (p2+1)) j)))
 (
 br (b==4)
 (AY 138 [.str d] fun i=>(grd (decide (ni (List.length (h++i))<=LIM)) (nam (h++i) fun j=>
 Ae p0 p1 (w6 (p2+1)) j)))
 (
 br (b==5)
 (AY 67 [iN e] fun i=>(grd (decide (ni (List.length (h++i))<=LIM)) (nam (h++i) fun j=>
 AY 67 [iN f] fun k=>(grd (decide (ni (List.length (j++k))<=LIM)) (nam (j++k) fun l=>
 Ae p0 p1 (w6 (p2+1)) l)))))
 (
 br (b==6)
 (AY 67 [iN c] fun i=>(grd (decide (ni (List.length (h++i))<=LIM)) (nam (h++i) fun j=>
 AY 67 [iN e] fun k=>(grd (decide (ni (List.length (j++k))<=LIM)) (nam (j++k) fun l=>
 Ae p0 p1 (w6 (p2+1)) l)))))
 (
 br (b==7)
 (AY 67 [iN e] fun i=>(grd (decide (ni (List.length (h++i))<=LIM)) (nam (h++i) fun j=>
 Ae p0 p1 (w6 (p2+1)) j)))
 (Ae p0 p1 (w6 (p2+1)) h)))))))))))))
 (some ((.os (1,0) p3),[])):=by
 exact(zQ _ _ _).trans (by kernel_rfl)
theorem aaV (p l d:List D)(h x:Int):V 215 [.op [.os (5,0) p,.os (4,0) l,.os (3,0) d,iN h],iN x] =
 grd (decide (0<=x)&&decide (x<ni p.length)) (dd p x.toNat fun a=>
 asAgg a fun b=>dd b 0 fun c=>
 asI .i64 c fun e=>br (e==5)
 (ck5 228 [.agg [.rs (5,0) p],iN x] fun f g=>((br (!g)
 (ck4 229 [.op [.os (5,0) p,.os (4,0) l,.os (3,0) d,iN h],.str ({ data:=#[109,97,105,110] }),.rs (1,0) [],.rs (1,0) [iN x]] fun i j k m=>(((some ((.tup []),[.op [.os (5,0) i,.os (4,0) j,.os (3,0) k,iN m]])))))
 (
 grd (decide (0<=0)&&decide (0<ni f.length)) (dd f 0 fun i=>
 asI .i64 i fun j=>grd (decide (0<=j)&&decide (j<ni p.length)) (dd p j.toNat fun k=>
 asAgg k fun m=>dd m 0 fun n=>
 asI .i64 n fun o=>br (o != 4)
 (ck4 229 [.op [.os (5,0) p,.os (4,0) l,.os (3,0) d,iN h],.str ({ data:=#[109,97,105,110] }),.rs (1,0) [],.rs (1,0) [iN x]] fun q r s t=>(((some ((.tup []),[.op [.os (5,0) q,.os (4,0) r,.os (3,0) s,iN t]])))))
 (
 grd (decide (0<=0)&&decide (0<ni f.length)) (dd f 0 fun q=>
 asI .i64 q fun r=>grd (decide (0<=r)&&decide (r<ni p.length)) (dd p r.toNat fun s=>
 asAgg s fun t=>dd t 2 fun u=>
 asS u fun v=>br (!kJ v { data:=#[100,101,102,105,110,101] })
 (ck4 229 [.op [.os (5,0) p,.os (4,0) l,.os (3,0) d,iN h],.str ({ data:=#[109,97,105,110] }),.rs (1,0) [],.rs (1,0) [iN x]] fun w y z A=>(((some ((.tup []),[.op [.os (5,0) w,.os (4,0) y,.os (3,0) z,iN A]])))))
 (
 br (decide (ni f.length<3))
 (some ((.tup []),[.op [.os (5,0) p,.os (4,0) l,.os (3,0) d,iN (1)]]))
 (
 grd (decide (0<=1)&&decide (1<ni f.length)) (dd f 1 fun w=>
 asI .i64 w fun y=>grd (decide (0<=y)&&decide (y<ni p.length)) (dd p y.toNat fun z=>
 asAgg z fun A=>dd A 0 fun B=>
 asI .i64 B fun C=>br (C != 5)
 (some ((.tup []),[.op [.os (5,0) p,.os (4,0) l,.os (3,0) d,iN (1)]]))
 (
 grd (decide (0<=1)&&decide (1<ni f.length)) (dd f 1 fun E=>
 asI .i64 E fun F=>ck5 228 [.agg [.rs (5,0) p],iN F] fun G H=>((br (!H)
 (some ((.tup []),[.op [.os (5,0) p,.os (4,0) l,.os (3,0) d,iN (1)]]))
 (
 grd (decide (0<=0)&&decide (0<ni G.length)) (dd G 0 fun I=>
 asI .i64 I fun J=>aeH 230 [.op [.os (5,0) p,.os (4,0) l,.os (3,0) d,iN h],iN J] fun K L M N O P=>(((br (!L)
 (some ((.tup []),[.op [.os (5,0) M,.os (4,0) N,.os (3,0) O,iN (1)]]))
 (grd (df G.length (some (1)) none) (ck6 231 [.op [.os (5,0) M,.os (4,0) N,.os (3,0) O,iN P],(.rs (1,0) (part G (some (Int.toNat (1),List.length G-Int.toNat (1)))))] fun Q R S T U=>((grd (df f.length (some (2)) none) (ck4 229 [.op [.os (5,0) R,.os (4,0) S,.os (3,0) T,iN U],.str K,.rs (1,0) Q,(.rs (1,0) (part f (some (Int.toNat (2),List.length f-Int.toNat (2)))))] fun W X Y Z=>(((some ((.tup []),[.op [.os (5,0) W,.os (4,0) X,.os (3,0) Y,iN Z]])))))))))))))))))))))))))))))))
 (ck4 229 [.op [.os (5,0) p,.os (4,0) l,.os (3,0) d,iN h],.str ({ data:=#[109,97,105,110] }),.rs (1,0) [],.rs (1,0) [iN x]] fun f g i j=>(((some ((.tup []),[.op [.os (5,0) f,.os (4,0) g,.os (3,0) i,iN j]])))))):=by
 exact(zR Tryz.func215 rfl _).trans (by kernel_rfl)
theorem aco (a0_0:List D)(a0_1 a0_2 a0_3 a0_4 a0_5 a0_6 a0_7:Int):V 28 [.agg [.rs (5,0) a0_0,iN a0_1,iN a0_2,iN a0_3,iN a0_4,iN a0_5,iN a0_6,iN a0_7]] =
 br (a0_5==1)
 (grd (decide (ni 4<=LIM)) (ck1 84 [.agg [.rs (5,0) a0_0],.rs (1,0) [iN a0_2,iN a0_3,iN a0_4,iN a0_7]] fun a=>(br (!a)
 (ck7 85 [.agg [.rs (5,0) a0_0,iN a0_1,iN a0_2,iN a0_3,iN a0_4,iN a0_5,iN a0_6,iN a0_7]] fun b c d e f g h i=>((some ((.agg [.os (5,0) b,iN c,iN d,iN e,iN f,iN g,iN h,iN i]),[]))))
 (aay 86 [.agg [.rs (5,0) a0_0],.rs (1,0) [iN a0_2,iN a0_3,iN a0_4,iN a0_7]] fun b c=>(((grd (decide (0<=0)&&decide (0<ni c.length)) (dd c 0 fun d=>
 asI .i64 d fun e=>grd (decide (0<=1)&&decide (1<ni c.length)) (dd c 1 fun f=>
 asI .i64 f fun g=>grd (decide (0<=2)&&decide (2<ni c.length)) (dd c 2 fun h=>
 asI .i64 h fun i=>grd (decide (0<=3)&&decide (3<ni c.length)) (dd c 3 fun j=>
 asI .i64 j fun k=>some ((.agg [.os (5,0) b,iN a0_1,iN e,iN g,iN i,iN a0_5,iN a0_6,iN k]),[]))))))))))))
 (
 br (a0_5==2)
 (grd (decide (ni 4<=LIM)) (ck1 84 [.agg [.rs (5,0) a0_0],.rs (1,0) [iN a0_2,iN a0_3,iN a0_4,iN a0_7]] fun a=>(br (!a)
 (ck7 85 [.agg [.rs (5,0) a0_0,iN a0_1,iN a0_2,iN a0_3,iN a0_4,iN a0_5,iN a0_6,iN a0_7]] fun b c d e f g h i=>((some ((.agg [.os (5,0) b,iN c,iN d,iN e,iN f,iN g,iN h,iN i]),[]))))
 (aay 86 [.agg [.rs (5,0) a0_0],.rs (1,0) [iN a0_2,iN a0_3,iN a0_4,iN a0_7]] fun b c=>(((grd (decide (0<=0)&&decide (0<ni c.length)) (dd c 0 fun d=>
 asI .i64 d fun e=>grd (decide (0<=1)&&decide (1<ni c.length)) (dd c 1 fun f=>
 asI .i64 f fun g=>grd (decide (0<=2)&&decide (2<ni c.length)) (dd c 2 fun h=>
 asI .i64 h fun i=>br (a0_5==2)
 (
 grd (decide (0<=3)&&decide (3<ni c.length)) (dd c 3 fun j=>
 asI .i64 j fun k=>some ((.agg [.os (5,0) b,iN a0_1,iN e,iN g,iN i,iN a0_5,iN a0_6,iN k]),[])))
 (some ((.agg [.os (5,0) b,iN a0_1,iN e,iN g,iN i,iN a0_5,iN a0_6,iN a0_7]),[]))))))))))))
 (ck1 84 [.agg [.rs (5,0) a0_0],.rs (1,0) [iN a0_2,iN a0_3,iN a0_4]] fun a=>(br (!a)
 (ck7 85 [.agg [.rs (5,0) a0_0,iN a0_1,iN a0_2,iN a0_3,iN a0_4,iN a0_5,iN a0_6,iN a0_7]] fun b c d e f g h i=>((some ((.agg [.os (5,0) b,iN c,iN d,iN e,iN f,iN g,iN h,iN i]),[]))))
 (aay 86 [.agg [.rs (5,0) a0_0],.rs (1,0) [iN a0_2,iN a0_3,iN a0_4]] fun b c=>(((grd (decide (0<=0)&&decide (0<ni c.length)) (dd c 0 fun d=>
 asI .i64 d fun e=>grd (decide (0<=1)&&decide (1<ni c.length)) (dd c 1 fun f=>
 asI .i64 f fun g=>grd (decide (0<=2)&&decide (2<ni c.length)) (dd c 2 fun h=>
 asI .i64 h fun i=>br (a0_5==2)
 (
 grd (decide (0<=3)&&decide (3<ni c.length)) (dd c 3 fun j=>
 asI .i64 j fun k=>some ((.agg [.os (5,0) b,iN a0_1,iN e,iN g,iN i,iN a0_5,iN a0_6,iN k]),[])))
 (some ((.agg [.os (5,0) b,iN a0_1,iN e,iN g,iN i,iN a0_5,iN a0_6,iN a0_7]),[])))))))))))):=by
 exact(zR Tryz.func28 rfl _).trans (by kernel_rfl)
theorem Nj (p:List D)(m1 m2 m3 m4 m5 m6 m7:Int)(cp cl cd:List D)(o i:Int):V 186 [.op [.os (5,0) p,iN m1,iN m2,iN m3,iN m4,iN m5,iN m6,iN m7,.rs (5,0) cp,.rs (4,0) cl,.rs (3,0) cd],iN o,iN i] =
 YM 207 [.op [.os (5,0) p,iN m1,iN m2,iN m3,iN m4,iN m5,iN m6,iN m7,.rs (5,0) cp,.rs (4,0) cl,.rs (3,0) cd],iN m3,iN o] fun a b c d e f g h j k l m n=>(((br (!b)
 (some ((iN (7)),[.op [.os (5,0) c,iN d,iN e,iN f,iN g,iN h,iN j,iN k,.rs (5,0) l,.rs (4,0) m,.rs (3,0) n]]))
 (YM 207 [.op [.os (5,0) c,iN d,iN e,iN f,iN g,iN h,iN j,iN k,.rs (5,0) l,.rs (4,0) m,.rs (3,0) n],iN a,iN i] fun q r s t u v w x y z A B C=>(((br (!r)
 (some ((iN (7)),[.op [.os (5,0) s,iN t,iN u,iN v,iN w,iN x,iN y,iN z,.rs (5,0) A,.rs (4,0) B,.rs (3,0) C]]))
 (Vf 185 [.op [.os (5,0) s,iN t,iN u,iN v,iN w,iN x,iN y,iN z,.rs (5,0) A,.rs (4,0) B,.rs (3,0) C],iN q] fun E F G H I J K L M N O=>(((some ((iN (0)),[.op [.os (5,0) E,iN F,iN G,iN H,iN I,iN J,iN K,iN L,.rs (5,0) M,.rs (4,0) N,.rs (3,0) O]])))))))))))):=by
 exact(zR Tryz.func186 rfl _).trans (by kernel_rfl)
theorem Tu (a0_0:List D)(a0_1 a0_2:Int):V 201 [.op [.rs (1,0) a0_0,iN a0_1,iN a0_2]] =
 ck9 76 [.op [.rs (1,0) a0_0,iN a0_1,iN a0_2],iN (8)] fun a b c d=>((br (a==0)
 (some ((.agg [iN (1),iN (0),.str ({ data:=#[] }),iN (0),iN (0)]),[.op [.rs (1,0) b,iN c,iN d]]))
 (
 br (a==1)
 (ck9 76 [.op [.rs (1,0) b,iN c,iN d],iN (2)] fun e f g h=>((some ((.agg [iN (2),iN e,.str ({ data:=#[] }),iN (0),iN (0)]),[.op [.rs (1,0) f,iN g,iN h]]))))
 (
 br (a==2)
 (QJ 75 [.op [.rs (1,0) b,iN c,iN d],(.rs (1,0) [.str ({ data:=#[97] }),.str ({ data:=#[98,99] }),.str ({ data:=#[120] }),.str ({ data:=#[102] }),.str ({ data:=#[43] }),.str ({ data:=#[108,105,115,116] })])] fun e f g h=>((some ((.agg [iN (4),iN (0),.str e,iN (0),iN (0)]),[.op [.rs (1,0) f,iN g,iN h]]))))
 (
 br (a==3)
 (ck9 76 [.op [.rs (1,0) b,iN c,iN d],iN (5)] fun e f g h=>((some ((.agg [iN (9),iN e,.str ({ data:=#[] }),iN (0),iN (0)]),[.op [.rs (1,0) f,iN g,iN h]]))))
 (
 br (a==4)
 (ck9 76 [.op [.rs (1,0) b,iN c,iN d],iN (5)] fun e f g h=>((some ((.agg [iN (8),iN e,.str ({ data:=#[] }),iN (0),iN (0)]),[.op [.rs (1,0) f,iN g,iN h]]))))
 (ck9 76 [.op [.rs (1,0) b,iN c,iN d],iN (12)] fun e f g h=>((some ((.agg [iN (3),(iN (w6 (e-3))),.str ({ data:=#[] }),iN (0),iN (0)]),[.op [.rs (1,0) f,iN g,iN h]])))))))))):=by
 exact(zR Tryz.func201 rfl _).trans (by kernel_rfl)
theorem UF (a0_0 a0_1 a0_2 a1_0:List D)(a1_1 a1_2 a1_3 a1_4 a1_5 a1_6 a1_7:Int):V 15 [.agg [.rs (5,0) a0_0,.rs (4,0) a0_1,.rs (3,0) a0_2],.agg [.rs (5,0) a1_0,iN a1_1,iN a1_2,iN a1_3,iN a1_4,iN a1_5,iN a1_6,iN a1_7]] =
 ck1 59 [.agg [.rs (5,0) a0_0,.rs (4,0) a0_1,.rs (3,0) a0_2]] fun a=>(br (!a)
 (some ((.bool false),[]))
 (ck1 60 [.agg [.rs (5,0) a1_0]] fun b=>(br (!b)
 (some ((.bool false),[]))
 (ck1 61 [.agg [.rs (5,0) a1_0],iN a1_2] fun c=>(br (!c)
 (some ((.bool false),[]))
 (ck1 61 [.agg [.rs (5,0) a1_0],iN a1_3] fun d=>(br (!d)
 (some ((.bool false),[]))
 (ck1 61 [.agg [.rs (5,0) a1_0],iN a1_4] fun e=>(br (!e)
 (some ((.bool false),[]))
 (ck1 62 [iN a1_1,iN (0),(iN (w6 (ni a0_1.length-1)))] fun f=>(br (a1_5==0)
 (
 br f
 (
 br (a1_6==0)
 (some ((.bool (a1_7==0)),[]))
 (some ((.bool false),[])))
 (some ((.bool false),[])))
 (
 br (a1_5==1)
 (
 br f
 (ck1 62 [iN a1_6,iN (13),iN (19)] fun g=>(br g
 (
 br (a1_6 != 18)
 (ck1 61 [.agg [.rs (5,0) a1_0],iN a1_7] fun h=>(some ((.bool h),[])))
 (some ((.bool false),[])))
 (some ((.bool false),[]))))
 (some ((.bool false),[])))
 (
 br (a1_5==2)
 (
 br (a1_1==0)
 (
 br (a1_6==0)
 (ck1 61 [.agg [.rs (5,0) a1_0],iN a1_7] fun g=>(some ((.bool g),[])))
 (some ((.bool false),[])))
 (some ((.bool false),[])))
 (
 br (a1_5==3)
 (
 br (a1_1==0)
 (ck1 62 [iN a1_6,iN (1),iN (7)] fun g=>(br g
 (some ((.bool (a1_7==0)),[]))
 (some ((.bool false),[]))))
 (some ((.bool false),[])))
 (some ((.bool false),[])))))))))))))))):=by
 exact(zR Tryz.func15 rfl _).trans (by kernel_rfl)
theorem Rv (a0_0 a0_1 a0_2 a1_0:List D)(a1_1 a1_2 a1_3 a1_4 a1_5 a1_6 a1_7:Int):V 19 [.agg [.rs (5,0) a0_0,.rs (4,0) a0_1,.rs (3,0) a0_2],.agg [.rs (5,0) a1_0,iN a1_1,iN a1_2,iN a1_3,iN a1_4,iN a1_5,iN a1_6,iN a1_7]] =
 ck1 14 [.agg [.rs (5,0) a0_0,.rs (4,0) a0_1,.rs (3,0) a0_2],(.agg [.rs (5,0) a1_0,iN a1_1,iN a1_2,iN a1_3,iN a1_4,iN a1_5,iN a1_6,iN a1_7])] fun a=>(br (!a)
 (some ((.tup [.str ({ data:=#[] }),.bool false]),[]))
 (ck7 18 [.agg [.rs (5,0) a1_0,iN a1_1,iN a1_2,iN a1_3,iN a1_4,iN a1_5,iN a1_6,iN a1_7]] fun b c d e f g h i=>((DL (ni 7) (0) c d e f g h i [] ([iN c,iN g,iN h,iN d,iN e,iN f,iN i]) b)))):=by
 exact(zR Tryz.func19 rfl _).trans (by kernel_rfl)
theorem PT (p0:List D)(p1 p2:Int)(p3:List D):IE p0 p1 p2 p3 =
 br (decide (p1<ni p0.length))
 (
 grd (decide (0<=p1)&&decide (p1<ni p0.length)) (dd p0 p1.toNat fun a=>
 asI .i64 a fun b=>ck4 215 [.op [.os (5,0) p3,.os (4,0) [],.os (3,0) [],iN p2],iN b] fun c d e f=>(((br (f==3)
 (some ((.tup [.agg [.os (5,0) [],.os (4,0) [],.os (3,0) []],iN (3),iN (0)]),[]))
 (
 br (f != 0)
 (some ((.tup [.agg [.os (5,0) [],.os (4,0) [],.os (3,0) []],iN f,iN p1]),[]))
 (D7 p0 (w6 (p1+1)) f c d e)))))))
 (ck1 59 [.agg [.rs (5,0) p3,.rs (4,0) [],.rs (3,0) []]] fun a=>(br (!a)
 (some ((.tup [.agg [.os (5,0) [],.os (4,0) [],.os (3,0) []],iN (3),iN (0)]),[]))
 (some ((.tup [.agg [.os (5,0) p3,.os (4,0) [],.os (3,0) []],iN (0),(iN (ni p0.length))]),[])))):=by
 exact(zQ _ _ _).trans (by kernel_rfl)
theorem Na (p0:Int)(p1 p2:List D):DN p0 p1 p2 =
 grd (decide (0<=p0)&&decide (p0<ni p2.length)) (dd p2 p0.toNat fun a=>
 asAgg a fun b=>dd b 0 fun c=>
 asI .i64 c fun d=>br (d==5)
 (
 grd (decide (0<=p0)&&decide (p0<ni p2.length)) (dd p2 p0.toNat fun e=>
 asAgg e fun f=>dd f 3 fun g=>
 asI .i64 g fun h=>grd (decide (ni (List.length (p1++[iN h]))<=LIM)) (nam (p1++[iN h]) fun i=>
 grd (decide (0<=p0)&&decide (p0<ni p2.length)) (dd p2 p0.toNat fun j=>
 asAgg j fun k=>dd k 4 fun l=>
 asI .i64 l fun m=>DN m i p2))))
 (
 grd (decide (0<=p0)&&decide (p0<ni p2.length)) (dd p2 p0.toNat fun e=>
 asAgg e fun f=>dd f 0 fun g=>
 asI .i64 g fun h=>some ((.tup [.os (1,0) p1,.bool (h==1)]),[.op [.os (5,0) p2]])))):=by
 exact(zQ _ _ _).trans (by kernel_rfl)
theorem J9 (p0:List D)(p1:Int)(p2:List D):Gk p0 p1 p2 =
 br (decide (p1<ni p0.length))
 (
 grd (decide (0<=p1)&&decide (p1<ni p0.length)) (dd p0 p1.toNat fun a=>
 asI .i64 a fun b=>ck1 61 [.agg [.rs (5,0) p2],iN b] fun c=>(br (!c)
 (some ((.tup [.agg [.os (5,0) [],.os (4,0) [],.os (3,0) []],iN (3),iN (0)]),[]))
 (Gk p0 (w6 (p1+1)) p2))))
 (Fi 147 [.agg [.rs (5,0) p2]] fun a=>((IE p0 (0) (0) a))):=by
 exact(zQ _ _ _).trans (by kernel_rfl)
theorem aaY (p:List D)(m1 m2 m3 m4 m5 m6 m7 v:Int):V 95 [.op [.os (5,0) p,iN m1,iN m2,iN m3,iN m4,iN m5,iN m6,iN m7],iN v] =
 AP 158 [.op [.os (5,0) p],(.agg [iN (5),iN (0),.str ({ data:=#[] }),iN v,iN m2])] fun a b=>((some ((.tup []),[.op [.os (5,0) b,iN m1,iN a,iN m3,iN m4,iN m5,iN m6,iN m7]]))):=by
 exact(zR Tryz.func95 rfl _).trans (by kernel_rfl)
theorem ZJ (p q:List D)(v:Int):V 96 [.op [.os (5,0) p],.agg [.rs (5,0) q],iN v] =
 AY 149 [.agg [.rs (5,0) q],.rs (1,0) [iN v]] fun a=>(aav 148 [.op [.os (5,0) p],(.agg [.rs (5,0) q]),.rs (1,0) a] fun b c=>((grd (decide (0<=v)&&decide (v<ni b.length)) (dd b v.toNat fun d=>
 asI .i64 d fun e=>some ((iN e),[.op [.os (5,0) c]]))))):=by
 exact(zR Tryz.func96 rfl _).trans (by kernel_rfl)
theorem Zk (a0_0:List D)(a0_1 a0_2 a1_:Int):V 155 [.op [.rs (1,0) a0_0,iN a0_1,iN a0_2],iN a1_] =
 ck9 76 [.op [.rs (1,0) a0_0,iN a0_1,iN a0_2],iN a1_] fun a b c d=>((some ((.bool (a==0)),[.op [.rs (1,0) b,iN c,iN d]]))):=by
 exact(zR Tryz.func155 rfl _).trans (by kernel_rfl)
theorem Gx (p0 p1:List D)(p2 p3:Int):Dv p0 p1 p2 p3 =
 br (decide (p3<p2))
 (
 grd (decide (0<=p3)&&decide (p3<ni p0.length)) (dd p0 p3.toNat fun a=>
 asI .i64 a fun b=>ck1 136 [iN b,(.bp [.rs (5,0) p1])] fun c=>(br c
 (some ((iN p3),[]))
 (Dv p0 p1 p2 (w6 (p3+1))))))
 (some ((iN (-1)),[])):=by
 exact(zQ _ _ _).trans (by kernel_rfl)
theorem JL (p0 p1:Int)(p2 p3 p4 p5:List D):Cn p0 p1 p2 p3 p4 p5 =
 br (decide (p0<ni p2.length))
 (
 br (p1==0)
 (DR p0 (0) p1 p2 p3 p4 p5)
 (some ((.os (1,0) p2),[.op [.os (5,0) p3,.os (4,0) p4,.os (3,0) p5,iN p1]])))
 (some ((.os (1,0) p2),[.op [.os (5,0) p3,.os (4,0) p4,.os (3,0) p5,iN p1]])):=by
 exact(zQ _ _ _).trans (by kernel_rfl)
theorem Dw (p0:List D)(p1:ByteArray)(p2 p3:Int):Bz p0 p1 p2 p3 =
 br (decide (p3<p2))
 (
 grd (decide (0<=p3)&&decide (p3<ni p0.length)) (dd p0 p3.toNat fun a=>
 asS a fun b=>br (kJ p1 b)
 (some ((iN p3),[]))
 (Bz p0 p1 p2 (w6 (p3+1)))))
 (some ((iN (-1)),[])):=by
 exact(zQ _ _ _).trans (by kernel_rfl)
theorem Lg (p0:ByteArray)(p1:Int)(p2:List D):GQ p0 p1 p2 =
 br (decide (p1<=19))
 (
 grd (decide (0<=p1)&&decide (p1<ni p2.length)) (dd p2 p1.toNat fun a=>
 asS a fun b=>br (kJ b p0)
 (some ((iN p1),[]))
 (GQ p0 (w6 (p1+1)) p2)))
 (some ((iN (0)),[])):=by
 exact(zQ _ _ _).trans (by kernel_rfl)
theorem aaL (a0_0 a1_:List D):V 189 [.agg [.rs (5,0) a0_0],.rs (1,0) a1_] =
 grd (decide (0<=ni a0_0.length)&&decide (ni a0_0.length<=LIM)) (FW a1_ (ni a1_.length) (0) a0_0 (List.replicate (Int.toNat (ni a0_0.length)) (D.bool false))):=by
 exact(zR Tryz.func189 rfl _).trans (by kernel_rfl)
theorem YW (a0_:ByteArray):V 208 [.str a0_] =
 AY 176 [] fun a=>(Ir 225 [.rs (1,0) a,.str a0_] fun b=>(some ((iN (w6 (b+1))),[]))):=by
 exact(zR Tryz.func208 rfl _).trans (by kernel_rfl)
theorem Zq (p l d:List D)(h:Int)(x e:List D):V 236 [.op [.os (5,0) p,.os (4,0) l,.os (3,0) d,iN h],.rs (1,0) x,.rs (1,1) e] =
 Fg x e (0) h p l d:=by
 exact(zR Tryz.func236 rfl _).trans (by kernel_rfl)
theorem aaO (a0_0 a0_1 a0_2:List D)(a1_:ByteArray):V 129 [.agg [.rs (5,0) a0_0,.rs (4,0) a0_1,.rs (3,0) a0_2],.str a1_] =
 IY a1_ (0) a0_0 a0_1 a0_2:=by
 exact(zR Tryz.func129 rfl _).trans (by kernel_rfl)
theorem JR (a0_:List D)(a1_:ByteArray):V 225 [.rs (1,0) a0_,.str a1_] =
 Bz a0_ a1_ (ni a0_.length) (0):=by
 exact(zR Tryz.func225 rfl _).trans (by kernel_rfl)
theorem Tj (l:List D)(s:ByteArray):V 178 [.rs (3,0) l,.fn 179 [.bp [.str s]]] =
 D6 l s (ni l.length) (0):=by
 exact(zR Tryz.func178 rfl _).trans (by kernel_rfl)
theorem aaW (a0_:List D)(a1_:ByteArray):V 248 [.rs (1,1) a0_,.str a1_] =
 Gb a0_ a1_ (0):=by
 exact(zR Tryz.func248 rfl _).trans (by kernel_rfl)

end Go.Eng
/-! the functions as the interpreter has them -/
namespace Go.Eng
open Go.Proofs Go.Proofs.Tryz
set_option maxRecDepth 100000
theorem Zu (p l d:List D)(h x:Int)(e:List D):V 244 [.op [.os (5,0) p,.os (4,0) l,.os (3,0) d,iN h],iN x,.rs (1,1) e] =
 shd (ck3 237 [.op [.os (5,0) p,.os (4,0) l,.os (3,0) d,iN h],(.agg [iN (1),iN x,iN (0),.str ({ data:=#[] })])] fun _ a b c f=>((some ((.tup []),[.op [.os (5,0) a,.os (4,0) b,.os (3,0) c,iN f]])))) fun T2:Option Ret=>shd (ck5 228 [.agg [.rs (5,0) p],iN x] fun a b=>((br (!b)
 (some ((.tup []),[.op [.os (5,0) p,.os (4,0) l,.os (3,0) d,iN (1)]]))
 (
 grd (decide (0<=0)&&decide (0<ni a.length)) (dd a 0 fun c=>
 asI .i64 c fun f=>grd (decide (0<=f)&&decide (f<ni p.length)) (dd p f.toNat fun g=>
 tk2 g fun i _ j _ _=>(br (i==4)
 (ck1 238 [.str j] fun k=>(br k
 (ck4 249 [.op [.os (5,0) p,.os (4,0) l,.os (3,0) d,iN h],.str j,.rs (1,0) a,.rs (1,1) e] fun m n o q=>(((some ((.tup []),[.op [.os (5,0) m,.os (4,0) n,.os (3,0) o,iN q]])))))
 (
 br (decide (ni a.length>5))
 (some ((.tup []),[.op [.os (5,0) p,.os (4,0) l,.os (3,0) d,iN (1)]]))
 (Dn e (0) h a p l d))))
 (
 br (decide (ni a.length>5))
 (some ((.tup []),[.op [.os (5,0) p,.os (4,0) l,.os (3,0) d,iN (1)]]))
 (Dn e (0) h a p l d))))))))) fun T1:Option Ret=>
 br (h != 0)
 (some ((.tup []),[.op [.os (5,0) p,.os (4,0) l,.os (3,0) d,iN h]]))
 (
 grd (decide (0<=x)&&decide (x<ni p.length)) (dd p x.toNat fun a=>
 tk2 a fun b _ c _ _=>(br (b==1)
 (
 br (b==1)
 T2
 (
 br (b==4)
 (ck1 238 [.str c] fun f=>(br f
 (some ((.tup []),[.op [.os (5,0) p,.os (4,0) l,.os (3,0) d,iN (1)]]))
 (adI 248 [.rs (1,1) e,.str c] fun g i=>((br (decide (g>=0))
 (ck3 237 [.op [.os (5,0) p,.os (4,0) l,.os (3,0) d,iN h],(.agg [iN (2),iN g,iN i,.str ({ data:=#[] })])] fun _ j k m n=>((some ((.tup []),[.op [.os (5,0) j,.os (4,0) k,.os (3,0) m,iN n]]))))
 (ck3 237 [.op [.os (5,0) p,.os (4,0) l,.os (3,0) d,iN h],(.agg [iN (3),iN (0),iN (0),.str c])] fun _ j k m n=>((some ((.tup []),[.op [.os (5,0) j,.os (4,0) k,.os (3,0) m,iN n]])))))))))
 (
 br (b != 5)
 (some ((.tup []),[.op [.os (5,0) p,.os (4,0) l,.os (3,0) d,iN (1)]]))
 T1)))
 (
 br (b==2)
 (
 br (b==2)
 T2
 (
 br (b==4)
 (ck1 238 [.str c] fun f=>(br f
 (some ((.tup []),[.op [.os (5,0) p,.os (4,0) l,.os (3,0) d,iN (1)]]))
 (adI 248 [.rs (1,1) e,.str c] fun g i=>((br (decide (g>=0))
 (ck3 237 [.op [.os (5,0) p,.os (4,0) l,.os (3,0) d,iN h],(.agg [iN (2),iN g,iN i,.str ({ data:=#[] })])] fun _ j k m n=>((some ((.tup []),[.op [.os (5,0) j,.os (4,0) k,.os (3,0) m,iN n]]))))
 (ck3 237 [.op [.os (5,0) p,.os (4,0) l,.os (3,0) d,iN h],(.agg [iN (3),iN (0),iN (0),.str c])] fun _ j k m n=>((some ((.tup []),[.op [.os (5,0) j,.os (4,0) k,.os (3,0) m,iN n]])))))))))
 (
 br (b != 5)
 (some ((.tup []),[.op [.os (5,0) p,.os (4,0) l,.os (3,0) d,iN (1)]]))
 T1)))
 (
 br (b==3)
 T2
 (
 br (b==4)
 (ck1 238 [.str c] fun f=>(br f
 (some ((.tup []),[.op [.os (5,0) p,.os (4,0) l,.os (3,0) d,iN (1)]]))
 (adI 248 [.rs (1,1) e,.str c] fun g i=>((br (decide (g>=0))
 (ck3 237 [.op [.os (5,0) p,.os (4,0) l,.os (3,0) d,iN h],(.agg [iN (2),iN g,iN i,.str ({ data:=#[] })])] fun _ j k m n=>((some ((.tup []),[.op [.os (5,0) j,.os (4,0) k,.os (3,0) m,iN n]]))))
 (ck3 237 [.op [.os (5,0) p,.os (4,0) l,.os (3,0) d,iN h],(.agg [iN (3),iN (0),iN (0),.str c])] fun _ j k m n=>((some ((.tup []),[.op [.os (5,0) j,.os (4,0) k,.os (3,0) m,iN n]])))))))))
 (
 br (b != 5)
 (some ((.tup []),[.op [.os (5,0) p,.os (4,0) l,.os (3,0) d,iN (1)]]))
 T1))))))):=by
 exact(zR Tryz.func244 rfl _).trans (by kernel_rfl)
theorem QN (p:List D)(m1 m2 m3 m4 m5 m6 m7:Int)(cp cl cd:List D) :V 133 [.op [.os (5,0) p,iN m1,iN m2,iN m3,iN m4,iN m5,iN m6,iN m7,.rs (5,0) cp,.rs (4,0) cl,.rs (3,0) cd]] =
 YM 182 [.op [.os (5,0) p,iN m1,iN m2,iN m3,iN m4,iN m5,iN m6,iN m7,.rs (5,0) cp,.rs (4,0) cl,.rs (3,0) cd]] fun a b c d e f g h i j k l m=>(((br (!b)
 (some ((iN (7)),[.op [.os (5,0) c,iN d,iN e,iN f,iN g,iN h,iN i,iN j,.rs (5,0) k,.rs (4,0) l,.rs (3,0) m]]))
 (
 grd (decide (0<=g)&&decide (g<ni c.length)) (dd c g.toNat fun n=>
 tk2 n fun o _ _ q r=>(br (o==1)
 (some ((iN (0)),[.op [.os (5,0) c,iN (0),iN e,iN f,iN g,iN (2),iN i,iN a,.rs (5,0) k,.rs (4,0) l,.rs (3,0) m]]))
 (
 br (o != 5)
 (some ((iN (7)),[.op [.os (5,0) c,iN d,iN e,iN f,iN g,iN h,iN i,iN j,.rs (5,0) k,.rs (4,0) l,.rs (3,0) m]]))
 (aeG 119 [.op [.os (5,0) c],iN q] fun s t u=>(((br (!t)
 (some ((iN (7)),[.op [.os (5,0) u,iN d,iN e,iN f,iN g,iN h,iN i,iN j,.rs (5,0) k,.rs (4,0) l,.rs (3,0) m]]))
 (
 br (ni s.length != 3)
 (some ((iN (7)),[.op [.os (5,0) u,iN d,iN e,iN f,iN g,iN h,iN i,iN j,.rs (5,0) k,.rs (4,0) l,.rs (3,0) m]]))
 (
 grd (decide (0<=0)&&decide (0<ni s.length)) (dd s 0 fun v=>
 asI .i64 v fun w=>grd (decide (0<=w)&&decide (w<ni u.length)) (dd u w.toNat fun x=>
 asAgg x fun y=>dd y 0 fun z=>
 asI .i64 z fun A=>br (A != 3)
 (some ((iN (7)),[.op [.os (5,0) u,iN d,iN e,iN f,iN g,iN h,iN i,iN j,.rs (5,0) k,.rs (4,0) l,.rs (3,0) m]]))
 (
 grd (decide (0<=0)&&decide (0<ni s.length)) (dd s 0 fun B=>
 asI .i64 B fun C=>grd (decide (0<=C)&&decide (C<ni u.length)) (dd u C.toNat fun E=>
 asAgg E fun F=>dd F 1 fun G=>
 asI .i64 G fun H=>ck1 57 [.agg [.rs (5,0) k,.rs (4,0) l,.rs (3,0) m],iN H] fun I=>(br (!I)
 (some ((iN (7)),[.op [.os (5,0) u,iN d,iN e,iN f,iN g,iN h,iN i,iN j,.rs (5,0) k,.rs (4,0) l,.rs (3,0) m]]))
 (
 grd (decide (0<=0)&&decide (0<ni s.length)) (dd s 0 fun J=>
 asI .i64 J fun K=>grd (decide (0<=K)&&decide (K<ni u.length)) (dd u K.toNat fun L=>
 asAgg L fun M=>dd M 1 fun N=>
 asI .i64 N fun O=>grd (decide (0<=1)&&decide (1<ni s.length)) (dd s 1 fun P=>
 asI .i64 P fun Q=>grd (decide (0<=2)&&decide (2<ni s.length)) (dd s 2 fun R=>
 asI .i64 R fun S=>Vf 185 [.op [.os (5,0) u,iN O,iN Q,iN S,iN r,iN h,iN i,iN j,.rs (5,0) k,.rs (4,0) l,.rs (3,0) m],iN a] fun T U W X Y Z a0 a1 a2 a3 a4=>(((some ((iN (0)),[.op [.os (5,0) T,iN U,iN W,iN X,iN Y,iN Z,iN a0,iN a1,.rs (5,0) a2,.rs (4,0) a3,.rs (3,0) a4]])))))))))))))))))))))))))))):=by
 exact(zR Tryz.func133 rfl _).trans (by kernel_rfl)
theorem Xq (cp cl cd p:List D)(m1 m2 m3 m4 m5 m6 m7 f:Int)(l:List D)(nx:Int):V 233 [.agg [.rs (5,0) cp,.rs (4,0) cl,.rs (3,0) cd],.op [.os (5,0) p,iN m1,iN m2,iN m3,iN m4,iN m5,iN m6,iN m7],iN f,.rs (1,0) l,iN nx] =
 grd (decide (0<=f)&&decide (f<ni p.length)) (dd p f.toNat fun a=>
 tk2 a fun b c _ d _=>(br (b==6)
 (
 grd (!decide (8=0)) (br (Int.tmod c (8) != ni l.length)
 (some ((iN (2)),[.op [.os (5,0) p,iN m1,iN m2,iN m3,iN m4,iN m5,iN m6,iN m7]]))
 (
 grd (!decide (8=0)) (br (decide (w6 (Int.tdiv c (8))>=ni cl.length))
 (some ((iN (7)),[.op [.os (5,0) p,iN m1,iN m2,iN m3,iN m4,iN m5,iN m6,iN m7]]))
 (AP 158 [.op [.os (5,0) p],(.agg [iN (3),iN nx,.str ({ data:=#[] }),iN (0),iN (0)])] fun e g=>((AP 210 [.op [.os (5,0) g],.rs (1,0) [iN e,iN m2,iN m3]] fun h i=>((AP 158 [.op [.os (5,0) i],(.agg [iN (5),iN (0),.str ({ data:=#[] }),iN h,iN m4])] fun j k=>((AP 210 [.op [.os (5,0) k],.rs (1,0) l] fun m n=>((AP 158 [.op [.os (5,0) n],(.agg [iN (5),iN (0),.str ({ data:=#[] }),iN m,iN d])] fun o q=>((AP 158 [.op [.os (5,0) q],(.agg [iN (1),iN (0),.str ({ data:=#[] }),iN (0),iN (0)])] fun r s=>((grd (!decide (8=0)) (some ((iN (0)),[(.op [.os (5,0) s,(iN (w6 (Int.tdiv c (8)))),iN r,iN o,iN j,iN m5,iN m6,iN m7])])))))))))))))))))))
 (
 br (b==8)
 (QI 240 [.agg [.rs (5,0) cp,.rs (4,0) cl,.rs (3,0) cd],(.op [.os (5,0) p,iN m1,iN m2,iN m3,iN m4,iN m5,iN m6,iN m7]),iN c,.rs (1,0) l,iN nx] fun e g h i j k m n o=>((some ((iN e),[.op [.os (5,0) g,iN h,iN i,iN j,iN k,iN m,iN n,iN o]]))))
 (
 br (b==7)
 (
 br (ni l.length != 1)
 (some ((iN (2)),[.op [.os (5,0) p,iN m1,iN m2,iN m3,iN m4,iN m5,iN m6,iN m7]]))
 (aeI 234 [.agg [.rs (5,0) p],iN d,iN (4)] fun e g h=>((br (!h)
 (some ((iN (7)),[.op [.os (5,0) p,iN m1,iN m2,iN m3,iN m4,iN m5,iN m6,iN m7]]))
 (
 grd (decide (0<=0)&&decide (0<ni g.length)) (dd g 0 fun i=>
 asI .i64 i fun j=>grd (decide (0<=1)&&decide (1<ni g.length)) (dd g 1 fun k=>
 asI .i64 k fun m=>grd (decide (0<=2)&&decide (2<ni g.length)) (dd g 2 fun n=>
 asI .i64 n fun o=>grd (decide (0<=0)&&decide (0<ni l.length)) (dd l 0 fun q=>
 asI .i64 q fun r=>Uw 95 [.op [.os (5,0) p,iN e,iN j,iN m,iN o,iN m5,iN m6,iN m7],iN r] fun s t u v w x y z=>(((some ((iN (0)),[.op [.os (5,0) s,iN t,iN u,iN v,iN w,iN x,iN y,iN z]])))))))))))))
 (some ((iN (3)),[.op [.os (5,0) p,iN m1,iN m2,iN m3,iN m4,iN m5,iN m6,iN m7]])))))):=by
 exact(zR Tryz.func233 rfl _).trans (by kernel_rfl)
theorem MF (p:List D)(m1 m2 m3 m4 m5 m6 m7:Int)(cp cl cd:List D)(n:Int)(l:List D):V 205 [.op [.os (5,0) p,iN m1,iN m2,iN m3,iN m4,iN m5,iN m6,iN m7,.rs (5,0) cp,.rs (4,0) cl,.rs (3,0) cd],iN n,.rs (1,0) l] =
 Ir 223 [iN n] fun a=>(br (a != ni l.length)
 (some ((iN (2)),[.op [.os (5,0) p,iN m1,iN m2,iN m3,iN m4,iN m5,iN m6,iN m7,.rs (5,0) cp,.rs (4,0) cl,.rs (3,0) cd]]))
 (
 br (n==18)
 (AP 157 [.op [.os (5,0) p],(.agg [iN (3),(iN (w6 (m1+1))),.str ({ data:=#[] }),iN (0),iN (0)])] fun b c=>((AP 222 [.op [.os (5,0) c],.rs (1,0) [iN b,iN m2,iN m3,iN m4]] fun d e=>((AP 157 [.op [.os (5,0) e],(.agg [iN (7),iN (0),.str ({ data:=#[] }),iN d,iN (0)])] fun f g=>((grd (decide (0<=0)&&decide (0<ni l.length)) (dd l 0 fun h=>
 asI .i64 h fun i=>LQ 184 [.op [.os (5,0) g,iN m1,iN m2,iN m3,iN m4,iN m5,iN m6,iN m7,.rs (5,0) cp,.rs (4,0) cl,.rs (3,0) cd],iN i,.rs (1,0) [iN f]] fun j k m o q r s t u v w x=>((some ((iN j),[.op [.os (5,0) k,iN m,iN o,iN q,iN r,iN s,iN t,iN u,.rs (5,0) v,.rs (4,0) w,.rs (3,0) x]])))))))))))
 (
 br (decide (n>12))
 (AP 222 [.op [.os (5,0) p],.rs (1,0) l] fun b c=>((some ((iN (0)),[.op [.os (5,0) c,iN m1,iN m2,iN m3,iN m4,iN (1),iN n,iN b,.rs (5,0) cp,.rs (4,0) cl,.rs (3,0) cd]]))))
 (adJ 224 [.op [.os (5,0) p],iN n,.rs (1,0) l] fun b c d=>(((br (c==3)
 (some ((iN (4)),[.op [.os (5,0) d,iN m1,iN m2,iN m3,iN m4,iN m5,iN m6,iN m7,.rs (5,0) cp,.rs (4,0) cl,.rs (3,0) cd]]))
 (
 br (c==4)
 (some ((iN (5)),[.op [.os (5,0) d,iN m1,iN m2,iN m3,iN m4,iN m5,iN m6,iN m7,.rs (5,0) cp,.rs (4,0) cl,.rs (3,0) cd]]))
 (Vf 185 [.op [.os (5,0) d,iN m1,iN m2,iN m3,iN m4,iN m5,iN m6,iN m7,.rs (5,0) cp,.rs (4,0) cl,.rs (3,0) cd],iN b] fun e f g h i j k m o q r=>(((some ((iN (0)),[(.op [.os (5,0) e,(iN (w6 (f+1))),iN g,iN h,iN i,iN j,iN k,iN m,.rs (5,0) o,.rs (4,0) q,.rs (3,0) r])]))))))))))))):=by
 exact(zR Tryz.func205 rfl _).trans (by kernel_rfl)
theorem Rx (a0_0 a0_1 a0_2:List D)(a1_:ByteArray):V 21 [.agg [.rs (5,0) a0_0,.rs (4,0) a0_1,.rs (3,0) a0_2],.str a1_] =
 ck8 71 [.op [.os (1,0) (iv a1_),iN (0),.bool true]] fun a b c d=>((ck8 71 [.op [.os (1,0) b,iN c,.bool d]] fun e f g h=>((ck8 71 [.op [.os (1,0) f,iN g,.bool h]] fun i j k l=>((ck8 71 [.op [.os (1,0) j,iN k,.bool l]] fun m n o p=>((ck8 71 [.op [.os (1,0) n,iN o,.bool p]] fun q r s t=>((ck8 71 [.op [.os (1,0) r,iN s,.bool t]] fun u v w x=>((ck8 71 [.op [.os (1,0) v,iN w,.bool x]] fun y z A B=>((afQ 72 [.op [.os (1,0) z,iN A,.bool B]] fun C _ _ E=>(((YN 19 [.agg [.rs (5,0) a0_0,.rs (4,0) a0_1,.rs (3,0) a0_2],(.agg [.rs (5,0) C,iN a,iN m,iN q,iN u,iN e,iN i,iN y])] fun F G=>((br (!E)
 (some ((.tup [.agg [.os (5,0) [],iN (0),iN (0),iN (0),iN (0),iN (0),iN (0),iN (0)],.bool false]),[]))
 (
 br (!G)
 (some ((.tup [.agg [.os (5,0) [],iN (0),iN (0),iN (0),iN (0),iN (0),iN (0),iN (0)],.bool false]),[]))
 (
 br (!kJ F a1_)
 (some ((.tup [.agg [.os (5,0) [],iN (0),iN (0),iN (0),iN (0),iN (0),iN (0),iN (0)],.bool false]),[]))
 (some ((.tup [.agg [.os (5,0) C,iN a,iN m,iN q,iN u,iN e,iN i,iN y],.bool true]),[]))))))))))))))))))))))):=by
 exact(zR Tryz.func21 rfl _).trans (by kernel_rfl)
theorem Ot (p:List D)(m1 m2 m3 m4 m5 m6 m7:Int)(cp cl cd:List D)(s:ByteArray):V 187 [.op [.os (5,0) p,iN m1,iN m2,iN m3,iN m4,iN m5,iN m6,iN m7,.rs (5,0) cp,.rs (4,0) cl,.rs (3,0) cd],.str s] =
 Ir 125 [.agg [.rs (5,0) cp,.rs (4,0) cl,.rs (3,0) cd],.str s] fun a=>(br (decide (a>=0))
 (
 grd (decide (0<=a)&&decide (a<ni cd.length)) (dd cd a.toNat fun b=>
 tk1 b fun _ c d=>(AP 157 [.op [.os (5,0) p],(.agg [iN (1),iN (0),.str ({ data:=#[] }),iN (0),iN (0)])] fun e f=>((AP 157 [.op [.os (5,0) f],(.agg [iN (6),(iN (w6 (w6 (8*c)+d))),.str ({ data:=#[] }),iN e,iN (0)])] fun g h=>((Vf 185 [.op [.os (5,0) h,iN m1,iN m2,iN m3,iN m4,iN m5,iN m6,iN m7,.rs (5,0) cp,.rs (4,0) cl,.rs (3,0) cd],iN g] fun i j k l m n o q r t u=>(((some ((iN (0)),[.op [.os (5,0) i,iN j,iN k,iN l,iN m,iN n,iN o,iN q,.rs (5,0) r,.rs (4,0) t,.rs (3,0) u]])))))))))))
 (Ir 208 [.str s] fun b=>(br (b==0)
 (some ((iN (1)),[.op [.os (5,0) p,iN m1,iN m2,iN m3,iN m4,iN m5,iN m6,iN m7,.rs (5,0) cp,.rs (4,0) cl,.rs (3,0) cd]]))
 (AP 157 [.op [.os (5,0) p],(.agg [iN (8),iN b,.str ({ data:=#[] }),iN (0),iN (0)])] fun c d=>((Vf 185 [.op [.os (5,0) d,iN m1,iN m2,iN m3,iN m4,iN m5,iN m6,iN m7,.rs (5,0) cp,.rs (4,0) cl,.rs (3,0) cd],iN c] fun e f g h i j k l m n o=>(((some ((iN (0)),[.op [.os (5,0) e,iN f,iN g,iN h,iN i,iN j,iN k,iN l,.rs (5,0) m,.rs (4,0) n,.rs (3,0) o]])))))))))):=by
 exact(zR Tryz.func187 rfl _).trans (by kernel_rfl)
theorem PW (p0:ByteArray)(p1 p2:List D)(p3 p4:Int)(p5 p6 p7:List D):DQ p0 p1 p2 p3 p4 p5 p6 p7 =
 br (decide (p3<ni p7.length))
 (
 br (p4==0)
 (
 grd (decide (0<=p3)&&decide (p3<ni p7.length)) (dd p7 p3.toNat fun a=>
 asAgg a fun b=>dd b 0 fun c=>
 asS c fun d=>br (kJ d p0)
 (DQ p0 p1 p2 (w6 (p3+1)) (2) p5 p6 p7)
 (DQ p0 p1 p2 (w6 (p3+1)) p4 p5 p6 p7)))
 (
 grd (decide (ni (List.length (p7++[D.agg [D.str p0,iN (ni p6.length),iN (ni p1.length)]]))<=LIM)) (nam (p7++[D.agg [D.str p0,iN (ni p6.length),iN (ni p1.length)]]) fun a=>
 ck4 236 [.op [.os (5,0) p5,.os (4,0) p6,.os (3,0) a,iN p4],.rs (1,0) p2,(.rs (1,1) [.rs (1,0) p1])] fun b c d e=>(((ck3 237 [.op [.os (5,0) b,.os (4,0) c,.os (3,0) d,iN e],(.agg [iN (8),iN (0),iN (0),.str ({ data:=#[] })])] fun _ f g h i=>((some ((.tup []),[.op [.os (5,0) f,.os (4,0) g,.os (3,0) h,iN i]])))))))))
 (
 grd (decide (ni (List.length (p7++[D.agg [D.str p0,iN (ni p6.length),iN (ni p1.length)]]))<=LIM)) (nam (p7++[D.agg [D.str p0,iN (ni p6.length),iN (ni p1.length)]]) fun a=>
 ck4 236 [.op [.os (5,0) p5,.os (4,0) p6,.os (3,0) a,iN p4],.rs (1,0) p2,(.rs (1,1) [.rs (1,0) p1])] fun b c d e=>(((ck3 237 [.op [.os (5,0) b,.os (4,0) c,.os (3,0) d,iN e],(.agg [iN (8),iN (0),iN (0),.str ({ data:=#[] })])] fun _ f g h i=>((some ((.tup []),[.op [.os (5,0) f,.os (4,0) g,.os (3,0) h,iN i]])))))))):=by
 exact(zQ _ _ _).trans (by kernel_rfl)
theorem Mh (p0 p1 p2:Int)(p3:Bool)(p4:List D):Fc p0 p1 p2 p3 p4 =
 br (decide (p1<p0))
 (
 br p3
 (
 br (decide (p1<=3000))
 (afS 141 [.op [.os (1,0) p4,iN p2,.bool p3]] fun a b c d e f g h=>(((grd (decide (ni 1<=LIM)) (BW p0 (w6 (p1+1)) g h f ([D.agg [iN a,iN b,D.str c,iN d,iN e]]))))))
 (some ((.agg [.os (5,0) []]),[.op [.os (1,0) p4,iN p2,.bool p3]])))
 (some ((.agg [.os (5,0) []]),[.op [.os (1,0) p4,iN p2,.bool p3]])))
 (some ((.agg [.os (5,0) []]),[.op [.os (1,0) p4,iN p2,.bool p3]])):=by
 exact(zQ _ _ _).trans (by kernel_rfl)
theorem aaT (a0_:ByteArray):V 227 [.str a0_] =
 br (decide (ni (ByteArray.size a0_)>1))
 (
 grd (decide (0<=0)&&decide (0<ni (ByteArray.size a0_))) (br (bt a0_ (0)==45)
 (
 grd (df (ByteArray.size a0_) (some (1)) none) (br (decide (ni (ByteArray.size (ByteArray.extract a0_ (Int.toNat (1)) (ByteArray.size a0_)))>10))
 (some ((.tup [iN (0),.bool false]),[]))
 (
 br (ni (ByteArray.size (ByteArray.extract a0_ (Int.toNat (1)) (ByteArray.size a0_)))==0)
 (some ((.tup [iN (0),.bool false]),[]))
 (CQ a0_ (ByteArray.extract a0_ (Int.toNat (1)) (ByteArray.size a0_)) (0) (0)))))
 (
 br (decide (ni (ByteArray.size a0_)>10))
 (some ((.tup [iN (0),.bool false]),[]))
 (
 br (ni (ByteArray.size a0_)==0)
 (some ((.tup [iN (0),.bool false]),[]))
 (CQ a0_ a0_ (0) (0))))))
 (
 br (decide (ni (ByteArray.size a0_)>10))
 (some ((.tup [iN (0),.bool false]),[]))
 (
 br (ni (ByteArray.size a0_)==0)
 (some ((.tup [iN (0),.bool false]),[]))
 (CQ a0_ a0_ (0) (0)))):=by
 exact(zR Tryz.func227 rfl _).trans (by kernel_rfl)
theorem Vo (a0_:Int):V 223 [iN a0_] =
 ck1 58 [iN a0_,iN (1),iN (19)] fun a=>(br (!a)
 (some ((iN (-1)),[]))
 (
 grd (decide (0<=w6 (a0_-1))&&decide (w6 (a0_-1)<ni 19)) (dd ([iN (2),iN (2),iN (2),iN (2),iN (2),iN (2),iN (1),iN (1),iN (1),iN (1),iN (2),iN (1),iN (1),iN (0),iN (2),iN (0),iN (1),iN (1),iN (1)]) (Int.toNat (w6 (a0_-1))) fun b=>
 asI .i64 b fun c=>some ((iN c),[])))):=by
 exact(zR Tryz.func223 rfl _).trans (by kernel_rfl)
theorem Jj (p0:List D)(p1 p2:Int)(p3:List D):EU p0 p1 p2 p3 =
 br (decide (p2>=0))
 (
 grd (decide (0<=p2)&&decide (p2<ni p0.length)) (dd p0 p2.toNat fun a=>
 asI .i64 a fun b=>AP 94 [.op [.os (5,0) p3],iN b,iN p1] fun c d=>((EU p0 c (w6 (p2-1)) d))))
 (some ((iN p1),[.op [.os (5,0) p3]])):=by
 exact(zQ _ _ _).trans (by kernel_rfl)
theorem TE (a0_:ByteArray):V 238 [.str a0_] =
 br (kJ a0_ { data:=#[113,117,111,116,101] })
 (some ((.bool true),[]))
 (
 br (kJ a0_ { data:=#[105,102] })
 (some ((.bool true),[]))
 (
 br (kJ a0_ { data:=#[102,110] })
 (some ((.bool true),[]))
 (
 br (kJ a0_ { data:=#[100,111] })
 (some ((.bool true),[]))
 (
 br (kJ a0_ { data:=#[108,101,116] })
 (some ((.bool true),[]))
 (some ((.bool (kJ a0_ { data:=#[100,101,102,105,110,101] })),[])))))):=by
 exact(zR Tryz.func238 rfl _).trans (by kernel_rfl)
theorem Zn (p l:List D):V 210 [.op [.os (5,0) p],.rs (1,0) l] =
 AP 158 [.op [.os (5,0) p],(.agg [iN (1),iN (0),.str ({ data:=#[] }),iN (0),iN (0)])] fun a b=>((GU l a (w6 (ni l.length-1)) b)):=by
 exact(zR Tryz.func210 rfl _).trans (by kernel_rfl)
theorem Rz (p q l:List D):V 137 [.op [.os (5,0) p],.agg [.rs (5,0) q],.rs (1,0) l] =
 grd (decide (0<=ni q.length)&&decide (ni q.length<=LIM)) (AY 189 [.agg [.rs (5,0) q],.rs (1,0) l] fun a=>(AK q (ni q.length) (0) (List.replicate (Int.toNat (ni q.length)) (iN (0))) a p)):=by
 exact(zR Tryz.func137 rfl _).trans (by kernel_rfl)
theorem Xg (a0_0 a1_:List D):V 65 [.agg [.rs (5,0) a0_0],.rs (1,0) a1_] =
 ck1 55 [.agg [.rs (5,0) a0_0]] fun a=>(br a
 (ck1 135 [.rs (1,0) a1_,(.fn 136 [(.bp [.rs (5,0) a0_0])])] fun b=>(some ((.bool (!b)),[])))
 (some ((.bool false),[]))):=by
 exact(zR Tryz.func65 rfl _).trans (by kernel_rfl)
theorem UB (a0_0:List D):V 68 [.agg [.rs (5,0) a0_0]] =
 AY 67 [(iN (ni a0_0.length))] fun a=>(Ae a0_0 (ni a0_0.length) (0) a):=by
 exact(zR Tryz.func68 rfl _).trans (by kernel_rfl)
theorem UA (p:List D)(n:Int)(l:List D):V 224 [.op [.os (5,0) p],iN n,.rs (1,0) l] =
 AM n l l (ni l.length) (0) p:=by
 exact(zR Tryz.func224 rfl _).trans (by kernel_rfl)
theorem Ry (p:List D)(v:Int):V 119 [.op [.os (5,0) p],iN v] =
 DN v [] p:=by
 exact(zR Tryz.func119 rfl _).trans (by kernel_rfl)

end Go.Eng
/-! the functions as the interpreter has them -/
namespace Go.Eng
open Go.Proofs Go.Proofs.Tryz
set_option maxRecDepth 100000
theorem ack (a0_0 a0_1 a0_2 a1_0:List D)(a1_1 a1_2 a1_3 a1_4 a1_5 a1_6 a1_7:Int):V 64 [.agg [.rs (5,0) a0_0,.rs (4,0) a0_1,.rs (3,0) a0_2],.agg [.rs (5,0) a1_0,iN a1_1,iN a1_2,iN a1_3,iN a1_4,iN a1_5,iN a1_6,iN a1_7]] =
 ck7 63 [.agg [.rs (5,0) a1_0,iN a1_1,iN a1_2,iN a1_3,iN a1_4,iN a1_5,iN a1_6,iN a1_7]] fun a b c d e f g h=>((grd (decide (0<=a1_1)&&decide (a1_1<ni a0_1.length)) (dd a0_1 a1_1.toNat fun i=>
 tk3 i fun j k l m=>(br (j==7)
 (LQ 132 [.op [.os (5,0) a,iN b,iN c,iN d,iN e,iN f,iN g,iN h,.rs (5,0) a0_0,.rs (4,0) a0_1,.rs (3,0) a0_2],iN l] fun n o p q r s t u v _ _ _=>((br (n==0)
 (
 br (decide (ni o.length>3000))
 (ck7 92 [.agg [.rs (5,0) a1_0,iN a1_1,iN a1_2,iN a1_3,iN a1_4,iN a1_5,iN a1_6,iN a1_7],iN (6)] fun w x y z A B C E=>((some ((.agg [.os (5,0) w,iN x,iN y,iN z,iN A,iN B,iN C,iN E]),[]))))
 (
 br (n != 0)
 (ck7 92 [.agg [.rs (5,0) a1_0,iN a1_1,iN a1_2,iN a1_3,iN a1_4,iN a1_5,iN a1_6,iN a1_7],iN n] fun w x y z A B C E=>((some ((.agg [.os (5,0) w,iN x,iN y,iN z,iN A,iN B,iN C,iN E]),[]))))
 (some ((.agg [.os (5,0) o,iN p,iN q,iN r,iN s,iN t,iN u,iN v]),[]))))
 (
 br (n != 0)
 (ck7 92 [.agg [.rs (5,0) a1_0,iN a1_1,iN a1_2,iN a1_3,iN a1_4,iN a1_5,iN a1_6,iN a1_7],iN n] fun w x y z A B C E=>((some ((.agg [.os (5,0) w,iN x,iN y,iN z,iN A,iN B,iN C,iN E]),[]))))
 (some ((.agg [.os (5,0) o,iN p,iN q,iN r,iN s,iN t,iN u,iN v]),[]))))))
 (
 br (j==8)
 (LQ 133 [.op [.os (5,0) a,iN b,iN c,iN d,iN e,iN f,iN g,iN h,.rs (5,0) a0_0,.rs (4,0) a0_1,.rs (3,0) a0_2]] fun n o p q r s t u v _ _ _=>((br (n==0)
 (
 br (decide (ni o.length>3000))
 (ck7 92 [.agg [.rs (5,0) a1_0,iN a1_1,iN a1_2,iN a1_3,iN a1_4,iN a1_5,iN a1_6,iN a1_7],iN (6)] fun w x y z A B C E=>((some ((.agg [.os (5,0) w,iN x,iN y,iN z,iN A,iN B,iN C,iN E]),[]))))
 (
 br (n != 0)
 (ck7 92 [.agg [.rs (5,0) a1_0,iN a1_1,iN a1_2,iN a1_3,iN a1_4,iN a1_5,iN a1_6,iN a1_7],iN n] fun w x y z A B C E=>((some ((.agg [.os (5,0) w,iN x,iN y,iN z,iN A,iN B,iN C,iN E]),[]))))
 (some ((.agg [.os (5,0) o,iN p,iN q,iN r,iN s,iN t,iN u,iN v]),[]))))
 (
 br (n != 0)
 (ck7 92 [.agg [.rs (5,0) a1_0,iN a1_1,iN a1_2,iN a1_3,iN a1_4,iN a1_5,iN a1_6,iN a1_7],iN n] fun w x y z A B C E=>((some ((.agg [.os (5,0) w,iN x,iN y,iN z,iN A,iN B,iN C,iN E]),[]))))
 (some ((.agg [.os (5,0) o,iN p,iN q,iN r,iN s,iN t,iN u,iN v]),[]))))))
 (LQ 134 [.op [.os (5,0) a,iN b,iN c,iN d,iN e,iN f,iN g,iN h,.rs (5,0) a0_0,.rs (4,0) a0_1,.rs (3,0) a0_2],.agg [iN j,iN k,iN l,.str m]] fun n o p q r s t u v _ _ _=>((br (n==0)
 (
 br (decide (ni o.length>3000))
 (ck7 92 [.agg [.rs (5,0) a1_0,iN a1_1,iN a1_2,iN a1_3,iN a1_4,iN a1_5,iN a1_6,iN a1_7],iN (6)] fun w x y z A B C E=>((some ((.agg [.os (5,0) w,iN x,iN y,iN z,iN A,iN B,iN C,iN E]),[]))))
 (
 br (n != 0)
 (ck7 92 [.agg [.rs (5,0) a1_0,iN a1_1,iN a1_2,iN a1_3,iN a1_4,iN a1_5,iN a1_6,iN a1_7],iN n] fun w x y z A B C E=>((some ((.agg [.os (5,0) w,iN x,iN y,iN z,iN A,iN B,iN C,iN E]),[]))))
 (some ((.agg [.os (5,0) o,iN p,iN q,iN r,iN s,iN t,iN u,iN v]),[]))))
 (
 br (n != 0)
 (ck7 92 [.agg [.rs (5,0) a1_0,iN a1_1,iN a1_2,iN a1_3,iN a1_4,iN a1_5,iN a1_6,iN a1_7],iN n] fun w x y z A B C E=>((some ((.agg [.os (5,0) w,iN x,iN y,iN z,iN A,iN B,iN C,iN E]),[]))))
 (some ((.agg [.os (5,0) o,iN p,iN q,iN r,iN s,iN t,iN u,iN v]),[]))))))))))):=by
 exact(zR Tryz.func64 rfl _).trans (by kernel_rfl)
theorem TC (a0_0:List D)(a0_1 a0_2 a1_:Int):V 214 [.op [.rs (1,0) a0_0,iN a0_1,iN a0_2],iN a1_] =
 br (decide (a1_<=0))
 (QJ 75 [.op [.rs (1,0) a0_0,iN a0_1,iN a0_2],(.rs (1,0) [.str ({ data:=#[49] }),.str ({ data:=#[120] }),.str ({ data:=#[121] }),.str ({ data:=#[45,50] }),.str ({ data:=#[35,116] }),.str ({ data:=#[40,41] }),.str ({ data:=#[102] }),.str ({ data:=#[40,113,117,111,116,101,32,97,41] }),.str ({ data:=#[48] })])] fun a b c d=>((some ((.str a),[.op [.rs (1,0) b,iN c,iN d]]))))
 (QJ 214 [.op [.rs (1,0) a0_0,iN a0_1,iN a0_2],(iN (w6 (a1_-1)))] fun a b c d=>((QJ 214 [.op [.rs (1,0) b,iN c,iN d],(iN (w6 (a1_-1)))] fun e f g h=>((ck9 76 [.op [.rs (1,0) f,iN g,iN h],iN (9)] fun i j k l=>((br (i==0)
 (grd (decide (ni (ByteArray.size { data:=#[40,105,102,32] }+ByteArray.size a)<=LIM)) (grd (decide (ni (ByteArray.size ({ data:=#[40,105,102,32] }++a)+ByteArray.size { data:=#[32] })<=LIM)) (grd (decide (ni (ByteArray.size ({ data:=#[40,105,102,32] }++a++{ data:=#[32] })+ByteArray.size e)<=LIM)) (grd (decide (ni (ByteArray.size ({ data:=#[40,105,102,32] }++a++{ data:=#[32] }++e)+ByteArray.size { data:=#[32] })<=LIM)) (QJ 214 [.op [.rs (1,0) j,iN k,iN l],(iN (w6 (a1_-2)))] fun m n o p=>((grd (decide (ni (ByteArray.size ({ data:=#[40,105,102,32] }++a++{ data:=#[32] }++e++{ data:=#[32] })+ByteArray.size m)<=LIM)) (grd (decide (ni (ByteArray.size ({ data:=#[40,105,102,32] }++a++{ data:=#[32] }++e++{ data:=#[32] }++m)+ByteArray.size { data:=#[41] })<=LIM)) (some ((.str ({ data:=#[40,105,102,32] }++a++{ data:=#[32] }++e++{ data:=#[32] }++m++{ data:=#[41] })),[.op [.rs (1,0) n,iN o,iN p]]))))))))))
 (
 br (i==1)
 (grd (decide (ni (ByteArray.size { data:=#[40,102,110,32,40,120,32,121,41,32] }+ByteArray.size a)<=LIM)) (grd (decide (ni (ByteArray.size ({ data:=#[40,102,110,32,40,120,32,121,41,32] }++a)+ByteArray.size { data:=#[41] })<=LIM)) (some ((.str ({ data:=#[40,102,110,32,40,120,32,121,41,32] }++a++{ data:=#[41] })),[.op [.rs (1,0) j,iN k,iN l]]))))
 (
 br (i==2)
 (grd (decide (ni (ByteArray.size { data:=#[40,108,101,116,32,120,32] }+ByteArray.size a)<=LIM)) (grd (decide (ni (ByteArray.size ({ data:=#[40,108,101,116,32,120,32] }++a)+ByteArray.size { data:=#[32] })<=LIM)) (grd (decide (ni (ByteArray.size ({ data:=#[40,108,101,116,32,120,32] }++a++{ data:=#[32] })+ByteArray.size e)<=LIM)) (grd (decide (ni (ByteArray.size ({ data:=#[40,108,101,116,32,120,32] }++a++{ data:=#[32] }++e)+ByteArray.size { data:=#[41] })<=LIM)) (some ((.str ({ data:=#[40,108,101,116,32,120,32] }++a++{ data:=#[32] }++e++{ data:=#[41] })),[.op [.rs (1,0) j,iN k,iN l]]))))))
 (
 br (i==3)
 (grd (decide (ni (ByteArray.size { data:=#[40,100,111,32] }+ByteArray.size a)<=LIM)) (grd (decide (ni (ByteArray.size ({ data:=#[40,100,111,32] }++a)+ByteArray.size { data:=#[32] })<=LIM)) (grd (decide (ni (ByteArray.size ({ data:=#[40,100,111,32] }++a++{ data:=#[32] })+ByteArray.size e)<=LIM)) (grd (decide (ni (ByteArray.size ({ data:=#[40,100,111,32] }++a++{ data:=#[32] }++e)+ByteArray.size { data:=#[41] })<=LIM)) (some ((.str ({ data:=#[40,100,111,32] }++a++{ data:=#[32] }++e++{ data:=#[41] })),[.op [.rs (1,0) j,iN k,iN l]]))))))
 (
 br (i==4)
 (grd (decide (ni (ByteArray.size { data:=#[40,112,114,105,110,116,32] }+ByteArray.size a)<=LIM)) (grd (decide (ni (ByteArray.size ({ data:=#[40,112,114,105,110,116,32] }++a)+ByteArray.size { data:=#[41] })<=LIM)) (some ((.str ({ data:=#[40,112,114,105,110,116,32] }++a++{ data:=#[41] })),[.op [.rs (1,0) j,iN k,iN l]]))))
 (
 br (i==5)
 (grd (decide (ni (ByteArray.size { data:=#[40,40,102,110,32,40,121,41,32] }+ByteArray.size a)<=LIM)) (grd (decide (ni (ByteArray.size ({ data:=#[40,40,102,110,32,40,121,41,32] }++a)+ByteArray.size { data:=#[41,32] })<=LIM)) (grd (decide (ni (ByteArray.size ({ data:=#[40,40,102,110,32,40,121,41,32] }++a++{ data:=#[41,32] })+ByteArray.size e)<=LIM)) (grd (decide (ni (ByteArray.size ({ data:=#[40,40,102,110,32,40,121,41,32] }++a++{ data:=#[41,32] }++e)+ByteArray.size { data:=#[41] })<=LIM)) (some ((.str ({ data:=#[40,40,102,110,32,40,121,41,32] }++a++{ data:=#[41,32] }++e++{ data:=#[41] })),[.op [.rs (1,0) j,iN k,iN l]]))))))
 (
 br (i==6)
 (QJ 75 [.op [.rs (1,0) j,iN k,iN l],(.rs (1,0) [.str ({ data:=#[43] }),.str ({ data:=#[45] }),.str ({ data:=#[42] }),.str ({ data:=#[60] }),.str ({ data:=#[61] }),.str ({ data:=#[99,111,110,115] }),.str ({ data:=#[101,113,63] })])] fun m n o p=>((grd (decide (ni (ByteArray.size { data:=#[40] }+ByteArray.size m)<=LIM)) (grd (decide (ni (ByteArray.size ({ data:=#[40] }++m)+ByteArray.size { data:=#[32] })<=LIM)) (grd (decide (ni (ByteArray.size ({ data:=#[40] }++m++{ data:=#[32] })+ByteArray.size a)<=LIM)) (grd (decide (ni (ByteArray.size ({ data:=#[40] }++m++{ data:=#[32] }++a)+ByteArray.size { data:=#[32] })<=LIM)) (grd (decide (ni (ByteArray.size ({ data:=#[40] }++m++{ data:=#[32] }++a++{ data:=#[32] })+ByteArray.size e)<=LIM)) (grd (decide (ni (ByteArray.size ({ data:=#[40] }++m++{ data:=#[32] }++a++{ data:=#[32] }++e)+ByteArray.size { data:=#[41] })<=LIM)) (some ((.str ({ data:=#[40] }++m++{ data:=#[32] }++a++{ data:=#[32] }++e++{ data:=#[41] })),[.op [.rs (1,0) n,iN o,iN p]]))))))))))
 (
 br (i==7)
 (QJ 75 [.op [.rs (1,0) j,iN k,iN l],(.rs (1,0) [.str ({ data:=#[99,97,114] }),.str ({ data:=#[99,100,114] }),.str ({ data:=#[110,117,108,108,63] }),.str ({ data:=#[112,97,105,114,63] }),.str ({ data:=#[110,111,116] }),.str ({ data:=#[99,97,108,108,99,99] })])] fun m n o p=>((grd (decide (ni (ByteArray.size { data:=#[40] }+ByteArray.size m)<=LIM)) (grd (decide (ni (ByteArray.size ({ data:=#[40] }++m)+ByteArray.size { data:=#[32] })<=LIM)) (grd (decide (ni (ByteArray.size ({ data:=#[40] }++m++{ data:=#[32] })+ByteArray.size a)<=LIM)) (grd (decide (ni (ByteArray.size ({ data:=#[40] }++m++{ data:=#[32] }++a)+ByteArray.size { data:=#[41] })<=LIM)) (some ((.str ({ data:=#[40] }++m++{ data:=#[32] }++a++{ data:=#[41] })),[.op [.rs (1,0) n,iN o,iN p]]))))))))
 (some ((.str a),[.op [.rs (1,0) j,iN k,iN l]])))))))))))))))):=by
 exact(zR Tryz.func214 rfl _).trans (by kernel_rfl)
theorem aci (a0_0:List D)(a0_1 a0_2 a0_3 a0_4 a0_5 a0_6 a0_7:Int):V 18 [.agg [.rs (5,0) a0_0,iN a0_1,iN a0_2,iN a0_3,iN a0_4,iN a0_5,iN a0_6,iN a0_7]] =
 br (a0_5==1)
 (grd (decide (ni 4<=LIM)) (ck1 65 [.agg [.rs (5,0) a0_0],.rs (1,0) [iN a0_2,iN a0_3,iN a0_4,iN a0_7]] fun a=>(br (!a)
 (ck7 63 [.agg [.rs (5,0) a0_0,iN a0_1,iN a0_2,iN a0_3,iN a0_4,iN a0_5,iN a0_6,iN a0_7]] fun b c d e f g h i=>((some ((.agg [.os (5,0) b,iN c,iN d,iN e,iN f,iN g,iN h,iN i]),[]))))
 (aay 66 [.agg [.rs (5,0) a0_0],.rs (1,0) [iN a0_2,iN a0_3,iN a0_4,iN a0_7]] fun b c=>(((grd (decide (0<=0)&&decide (0<ni c.length)) (dd c 0 fun d=>
 asI .i64 d fun e=>grd (decide (0<=1)&&decide (1<ni c.length)) (dd c 1 fun f=>
 asI .i64 f fun g=>grd (decide (0<=2)&&decide (2<ni c.length)) (dd c 2 fun h=>
 asI .i64 h fun i=>grd (decide (0<=3)&&decide (3<ni c.length)) (dd c 3 fun j=>
 asI .i64 j fun k=>some ((.agg [.os (5,0) b,iN a0_1,iN e,iN g,iN i,iN a0_5,iN a0_6,iN k]),[]))))))))))))
 (
 br (a0_5==2)
 (grd (decide (ni 4<=LIM)) (ck1 65 [.agg [.rs (5,0) a0_0],.rs (1,0) [iN a0_2,iN a0_3,iN a0_4,iN a0_7]] fun a=>(br (!a)
 (ck7 63 [.agg [.rs (5,0) a0_0,iN a0_1,iN a0_2,iN a0_3,iN a0_4,iN a0_5,iN a0_6,iN a0_7]] fun b c d e f g h i=>((some ((.agg [.os (5,0) b,iN c,iN d,iN e,iN f,iN g,iN h,iN i]),[]))))
 (aay 66 [.agg [.rs (5,0) a0_0],.rs (1,0) [iN a0_2,iN a0_3,iN a0_4,iN a0_7]] fun b c=>(((grd (decide (0<=0)&&decide (0<ni c.length)) (dd c 0 fun d=>
 asI .i64 d fun e=>grd (decide (0<=1)&&decide (1<ni c.length)) (dd c 1 fun f=>
 asI .i64 f fun g=>grd (decide (0<=2)&&decide (2<ni c.length)) (dd c 2 fun h=>
 asI .i64 h fun i=>br (a0_5==2)
 (
 grd (decide (0<=3)&&decide (3<ni c.length)) (dd c 3 fun j=>
 asI .i64 j fun k=>some ((.agg [.os (5,0) b,iN a0_1,iN e,iN g,iN i,iN a0_5,iN a0_6,iN k]),[])))
 (some ((.agg [.os (5,0) b,iN a0_1,iN e,iN g,iN i,iN a0_5,iN a0_6,iN a0_7]),[]))))))))))))
 (ck1 65 [.agg [.rs (5,0) a0_0],.rs (1,0) [iN a0_2,iN a0_3,iN a0_4]] fun a=>(br (!a)
 (ck7 63 [.agg [.rs (5,0) a0_0,iN a0_1,iN a0_2,iN a0_3,iN a0_4,iN a0_5,iN a0_6,iN a0_7]] fun b c d e f g h i=>((some ((.agg [.os (5,0) b,iN c,iN d,iN e,iN f,iN g,iN h,iN i]),[]))))
 (aay 66 [.agg [.rs (5,0) a0_0],.rs (1,0) [iN a0_2,iN a0_3,iN a0_4]] fun b c=>(((grd (decide (0<=0)&&decide (0<ni c.length)) (dd c 0 fun d=>
 asI .i64 d fun e=>grd (decide (0<=1)&&decide (1<ni c.length)) (dd c 1 fun f=>
 asI .i64 f fun g=>grd (decide (0<=2)&&decide (2<ni c.length)) (dd c 2 fun h=>
 asI .i64 h fun i=>br (a0_5==2)
 (
 grd (decide (0<=3)&&decide (3<ni c.length)) (dd c 3 fun j=>
 asI .i64 j fun k=>some ((.agg [.os (5,0) b,iN a0_1,iN e,iN g,iN i,iN a0_5,iN a0_6,iN k]),[])))
 (some ((.agg [.os (5,0) b,iN a0_1,iN e,iN g,iN i,iN a0_5,iN a0_6,iN a0_7]),[])))))))))))):=by
 exact(zR Tryz.func18 rfl _).trans (by kernel_rfl)
theorem QF (p0:ByteArray)(p1:Nat)(p2 p3 p4:Int)(p5 p6 p7 p8:List D):CG p0 p1 p2 p3 p4 p5 p6 p7 p8 =
 br (decide (p2<ni (ByteArray.size p0)))
 (grd (decide (0<=p2)&&decide (p2<ni (ByteArray.size p0))) (ck1 211 [.int .u8 (bt p0 p2)] fun a=>(br a
 (CG p0 p1 (w6 (p2+1)) p3 p4 p5 p6 p7 p8)
 (grd (df (ByteArray.size p0) (some p4) (some p2)) (Vg 212 [(.str (ByteArray.extract p0 p4.toNat p2.toNat))] fun b c d e f g=>(((br (!g)
 (Fi 147 [.agg [.rs (5,0) p5]] fun h=>((some ((.tup [.agg [.os (5,0) h],.os (1,0) p6,iN (3),iN p4]),[]))))
 (
 grd (decide (0<=p3)&&decide (p3<ni p1)&&decide (0+p1<=List.length p7)) (dd p7 (0+Int.toNat p3) fun h=>
 asAgg h fun i=>dd i 1 fun j=>
 jH (1,0) j fun k=>asAgg h fun l=>AP 158 [.op [.os (5,0) p8],.agg [iN b,iN c,.str d,iN e,iN f]] fun m n=>((grd (decide (ni (List.length (k++[iN m]))<=LIM)) (nam (k++[iN m]) fun o=>
 grd (decide (0<=p3)&&decide (p3<ni p1)&&decide (0+p1<=List.length (List.set p7 (0+Int.toNat p3) (D.agg (List.take 1 l++[D.dead]++List.drop 2 l))))) (dd (List.set p7 (0+Int.toNat p3) (D.agg (List.take 1 l++[D.dead]++List.drop 2 l))) (0+Int.toNat p3) fun p=>
 asAgg p fun q=>nam (List.set (List.set p7 (0+Int.toNat p3) (D.agg (List.take 1 l++[D.dead]++List.drop 2 l))) (0+Int.toNat p3)
 (D.agg
 (List.take 1 q ++
 [D.os
 (TypeInfo.size (Tables.types (Program.toTables Tryz.prog))[3],
 match rZ Tryz.prog (3) with
 |true=>0
 |false=>1)
 o] ++
 List.drop 2 q))) fun r=>
 AE p0 p1 p2 p5 p6 r n))))))))))))))
 (grd (df (ByteArray.size p0) (some p4) (some p2)) (Vg 212 [(.str (ByteArray.extract p0 p4.toNat p2.toNat))] fun a b c d e f=>(((br (!f)
 (Fi 147 [.agg [.rs (5,0) p5]] fun g=>((some ((.tup [.agg [.os (5,0) g],.os (1,0) p6,iN (3),iN p4]),[]))))
 (
 grd (decide (0<=p3)&&decide (p3<ni p1)&&decide (0+p1<=List.length p7)) (dd p7 (0+Int.toNat p3) fun g=>
 asAgg g fun h=>dd h 1 fun i=>
 jH (1,0) i fun j=>asAgg g fun k=>AP 158 [.op [.os (5,0) p8],.agg [iN a,iN b,.str c,iN d,iN e]] fun l m=>((grd (decide (ni (List.length (j++[iN l]))<=LIM)) (nam (j++[iN l]) fun n=>
 grd (decide (0<=p3)&&decide (p3<ni p1)&&decide (0+p1<=List.length (List.set p7 (0+Int.toNat p3) (D.agg (List.take 1 k++[D.dead]++List.drop 2 k))))) (dd (List.set p7 (0+Int.toNat p3) (D.agg (List.take 1 k++[D.dead]++List.drop 2 k))) (0+Int.toNat p3) fun o=>
 asAgg o fun p=>nam (List.set (List.set p7 (0+Int.toNat p3) (D.agg (List.take 1 k++[D.dead]++List.drop 2 k))) (0+Int.toNat p3)
 (D.agg
 (List.take 1 p ++
 [D.os
 (TypeInfo.size (Tables.types (Program.toTables Tryz.prog))[3],
 match rZ Tryz.prog (3) with
 |true=>0
 |false=>1)
 n] ++
 List.drop 2 p))) fun q=>
 AE p0 p1 p2 p5 p6 q m))))))))))):=by
 exact(zQ _ _ _).trans (by kernel_rfl)
theorem Vt (a0_0:List D)(a1_:Int)(a2_:List D):V 235 [.agg [.rs (5,0) a0_0],iN a1_,.rs (1,0) a2_] =
 grd (decide (0<=0)&&decide (0<ni a2_.length)) (dd a2_ 0 fun a=>
 asI .i64 a fun b=>grd (decide (0<=b)&&decide (b<ni a0_0.length)) (dd a0_0 b.toNat fun c=>
 tk2 c fun d e _ _ _=>(br (a1_==6)
 (
 grd (decide (0<=0)&&decide (0<ni a2_.length)) (dd a2_ 0 fun f=>
 asI .i64 f fun g=>grd (decide (0<=1)&&decide (1<ni a2_.length)) (dd a2_ 1 fun h=>
 asI .i64 h fun i=>some ((.agg [iN (5),iN (0),.str ({ data:=#[] }),iN g,iN i]),[]))))
 (
 br (a1_==9)
 (ck2 241 [.bool (d==1)] fun f g h i j=>((some ((.agg [iN f,iN g,.str h,iN i,iN j]),[]))))
 (
 br (a1_==10)
 (ck2 241 [.bool (d==5)] fun f g h i j=>((some ((.agg [iN f,iN g,.str h,iN i,iN j]),[]))))
 (
 br (a1_==11)
 (
 grd (decide (0<=0)&&decide (0<ni a2_.length)) (dd a2_ 0 fun f=>
 asI .i64 f fun g=>grd (decide (0<=1)&&decide (1<ni a2_.length)) (dd a2_ 1 fun h=>
 asI .i64 h fun i=>ck1 242 [.agg [.rs (5,0) a0_0],iN g,iN i] fun j=>(ck2 241 [.bool j] fun k l m n o=>((some ((.agg [iN k,iN l,.str m,iN n,iN o]),[])))))))
 (
 br (a1_==12)
 (
 br (d==2)
 (ck2 241 [.bool (e==0)] fun f g h i j=>((some ((.agg [iN f,iN g,.str h,iN i,iN j]),[]))))
 (ck2 241 [.bool false] fun f g h i j=>((some ((.agg [iN f,iN g,.str h,iN i,iN j]),[])))))
 (
 grd (decide (0<=1)&&decide (1<ni a2_.length)) (dd a2_ 1 fun f=>
 asI .i64 f fun g=>grd (decide (0<=g)&&decide (g<ni a0_0.length)) (dd a0_0 g.toNat fun h=>
 asAgg h fun i=>dd i 1 fun j=>
 asI .i64 j fun k=>ck2 243 [iN a1_,iN e,iN k] fun l m n o p=>((some ((.agg [iN l,iN m,.str n,iN o,iN p]),[]))))))))))))):=by
 exact(zR Tryz.func235 rfl _).trans (by kernel_rfl)
theorem Jk (p0:Int)(p1 p2:List D)(p3 p4:Int)(p5:List D):AM p0 p1 p2 p3 p4 p5 =
 br (decide (p4<p3))
 (
 grd (decide (0<=p4)&&decide (p4<ni p2.length)) (dd p2 p4.toNat fun a=>
 asI .i64 a fun b=>br (decide (p0<=5))
 (
 grd (decide (0<=b)&&decide (b<ni p5.length)) (dd p5 b.toNat fun c=>
 asAgg c fun d=>dd d 0 fun e=>
 asI .i64 e fun f=>br (f != 3)
 (some ((.tup [iN (-1),iN (3)]),[.op [.os (5,0) p5]]))
 (
 br (p0==7)
 (
 grd (decide (0<=b)&&decide (b<ni p5.length)) (dd p5 b.toNat fun g=>
 asAgg g fun h=>dd h 0 fun i=>
 asI .i64 i fun j=>br (j != 5)
 (some ((.tup [iN (-1),iN (3)]),[.op [.os (5,0) p5]]))
 (AM p0 p1 p2 p3 (w6 (p4+1)) p5)))
 (
 br (p0==8)
 (
 grd (decide (0<=b)&&decide (b<ni p5.length)) (dd p5 b.toNat fun g=>
 asAgg g fun h=>dd h 0 fun i=>
 asI .i64 i fun j=>br (j != 5)
 (some ((.tup [iN (-1),iN (3)]),[.op [.os (5,0) p5]]))
 (AM p0 p1 p2 p3 (w6 (p4+1)) p5)))
 (AM p0 p1 p2 p3 (w6 (p4+1)) p5)))))
 (
 br (p0==7)
 (
 grd (decide (0<=b)&&decide (b<ni p5.length)) (dd p5 b.toNat fun c=>
 asAgg c fun d=>dd d 0 fun e=>
 asI .i64 e fun f=>br (f != 5)
 (some ((.tup [iN (-1),iN (3)]),[.op [.os (5,0) p5]]))
 (AM p0 p1 p2 p3 (w6 (p4+1)) p5)))
 (
 br (p0==8)
 (
 grd (decide (0<=b)&&decide (b<ni p5.length)) (dd p5 b.toNat fun c=>
 asAgg c fun d=>dd d 0 fun e=>
 asI .i64 e fun f=>br (f != 5)
 (some ((.tup [iN (-1),iN (3)]),[.op [.os (5,0) p5]]))
 (AM p0 p1 p2 p3 (w6 (p4+1)) p5)))
 (AM p0 p1 p2 p3 (w6 (p4+1)) p5)))))
 (
 br (p0==7)
 (
 grd (decide (0<=0)&&decide (0<ni p1.length)) (dd p1 0 fun a=>
 asI .i64 a fun b=>grd (decide (0<=b)&&decide (b<ni p5.length)) (dd p5 b.toNat fun c=>
 asAgg c fun d=>dd d 3 fun e=>
 asI .i64 e fun f=>some ((.tup [iN f,iN (0)]),[.op [.os (5,0) p5]]))))
 (
 br (p0==8)
 (
 grd (decide (0<=0)&&decide (0<ni p1.length)) (dd p1 0 fun a=>
 asI .i64 a fun b=>grd (decide (0<=b)&&decide (b<ni p5.length)) (dd p5 b.toNat fun c=>
 asAgg c fun d=>dd d 4 fun e=>
 asI .i64 e fun f=>some ((.tup [iN f,iN (0)]),[.op [.os (5,0) p5]]))))
 (ck2 235 [.agg [.rs (5,0) p5],iN p0,.rs (1,0) p1] fun a b c d e=>((ck1 58 [iN b,iN (-1000000000),iN (1000000000)] fun f=>(br (!f)
 (some ((.tup [iN (-1),iN (4)]),[.op [.os (5,0) p5]]))
 (AP 157 [.op [.os (5,0) p5],.agg [iN a,iN b,.str c,iN d,iN e]] fun g h=>((some ((.tup [iN g,iN (0)]),[.op [.os (5,0) h]])))))))))):=by
 exact(zQ _ _ _).trans (by kernel_rfl)
theorem KT (p0:List D)(p1 p2 p3:Int):GE p0 p1 p2 p3 =
 br (decide (p3<9))
 (
 br (decide (w6 (p1+p3)<ni p0.length))
 (
 grd (decide (0<=w6 (p1+p3))&&decide (w6 (p1+p3)<ni p0.length)) (dd p0 (Int.toNat (w6 (p1+p3))) fun a=>
 asI .u8 a fun b=>grd (!decide (128=0)) (grd (!decide (w6 (7*p3)<0)) (br (decide (b<128))
 (
 br (b==0)
 (
 br (decide (p3>0))
 (some ((.tup [iN (0),iN (0),.bool false]),[]))
 (some ((.tup [(iN (w6 (ni (BitVec.toNat (BitVec.ofInt (IntKind.bits IntKind.i64) p2 ||| BitVec.ofInt (IntKind.bits IntKind.i64) (w6 (w6 (Int.tmod b (128))*2 ^ min (Int.toNat (w6 (7*p3))) (IntKind.bits IntKind.i64)))))))),(iN (w6 (w6 (p1+p3)+1))),.bool true]),[])))
 (some ((.tup [(iN (w6 (ni (BitVec.toNat (BitVec.ofInt (IntKind.bits IntKind.i64) p2 ||| BitVec.ofInt (IntKind.bits IntKind.i64) (w6 (w6 (Int.tmod b (128))*2 ^ min (Int.toNat (w6 (7*p3))) (IntKind.bits IntKind.i64)))))))),(iN (w6 (w6 (p1+p3)+1))),.bool true]),[])))
 (GE p0 p1 (w6 (ni (BitVec.toNat (BitVec.ofInt (IntKind.bits IntKind.i64) p2 ||| BitVec.ofInt (IntKind.bits IntKind.i64) (w6 (w6 (Int.tmod b (128))*2 ^ min (Int.toNat (w6 (7*p3))) (IntKind.bits IntKind.i64))))))) (w6 (p3+1)))))))
 (some ((.tup [iN (0),iN (0),.bool false]),[])))
 (some ((.tup [iN (0),iN (0),.bool false]),[])):=by
 exact(zQ _ _ _).trans (by kernel_rfl)
theorem FX (p0 p1 p2 p3 p4 p5 p6 p7 p8:Int)(p9 p10 p11 p12:List D):Dh p0 p1 p2 p3 p4 p5 p6 p7 p8 p9 p10 p11 p12 =
 br (decide (p1>0))
 (
 grd (decide (0<=p0)&&decide (p0<ni p12.length)) (dd p12 p0.toNat fun a=>
 asAgg a fun b=>dd b 0 fun c=>
 asI .i64 c fun d=>br (d != 5)
 (some ((.tup [iN (0),.bool false]),[.op [.os (5,0) p12,iN p2,iN p3,iN p4,iN p5,iN p6,iN p7,iN p8,.rs (5,0) p9,.rs (4,0) p10,.rs (3,0) p11]]))
 (
 grd (decide (0<=p0)&&decide (p0<ni p12.length)) (dd p12 p0.toNat fun e=>
 asAgg e fun f=>dd f 4 fun g=>
 asI .i64 g fun h=>Dh h (w6 (p1-1)) p2 p3 p4 p5 p6 p7 p8 p9 p10 p11 p12))))
 (
 grd (decide (0<=p0)&&decide (p0<ni p12.length)) (dd p12 p0.toNat fun a=>
 asAgg a fun b=>dd b 0 fun c=>
 asI .i64 c fun d=>br (d != 5)
 (some ((.tup [iN (0),.bool false]),[.op [.os (5,0) p12,iN p2,iN p3,iN p4,iN p5,iN p6,iN p7,iN p8,.rs (5,0) p9,.rs (4,0) p10,.rs (3,0) p11]]))
 (
 grd (decide (0<=p0)&&decide (p0<ni p12.length)) (dd p12 p0.toNat fun e=>
 asAgg e fun f=>dd f 3 fun g=>
 asI .i64 g fun h=>some ((.tup [iN h,.bool true]),[.op [.os (5,0) p12,iN p2,iN p3,iN p4,iN p5,iN p6,iN p7,iN p8,.rs (5,0) p9,.rs (4,0) p10,.rs (3,0) p11]]))))):=by
 exact(zQ _ _ _).trans (by kernel_rfl)
theorem Xr (a0_0:List D)(a1_ a2_:Int):V 234 [.agg [.rs (5,0) a0_0],iN a1_,iN a2_] =
 ck5 228 [.agg [.rs (5,0) a0_0],iN a1_] fun a b=>((br (!b)
 (some ((.tup [iN (0),.os (1,0) [],.bool false]),[]))
 (
 br (ni a.length != a2_)
 (some ((.tup [iN (0),.os (1,0) [],.bool false]),[]))
 (
 grd (decide (0<=0)&&decide (0<ni a.length)) (dd a 0 fun c=>
 asI .i64 c fun d=>grd (decide (0<=d)&&decide (d<ni a0_0.length)) (dd a0_0 d.toNat fun e=>
 asAgg e fun f=>dd f 0 fun g=>
 asI .i64 g fun h=>br (h != 3)
 (some ((.tup [iN (0),.os (1,0) [],.bool false]),[]))
 (
 grd (decide (0<=0)&&decide (0<ni a.length)) (dd a 0 fun i=>
 asI .i64 i fun j=>grd (decide (0<=j)&&decide (j<ni a0_0.length)) (dd a0_0 j.toNat fun k=>
 asAgg k fun l=>dd l 1 fun m=>
 asI .i64 m fun n=>grd (df a.length (some (1)) none) (some ((.tup [iN n,(.os (1,0) (part a (some (Int.toNat (1),List.length a-Int.toNat (1))))),.bool true]),[]))))))))))):=by
 exact(zR Tryz.func234 rfl _).trans (by kernel_rfl)
theorem ZG (a0_0:List D)(a0_1 a0_2 a0_3 a0_4 a0_5 a0_6 a0_7 a1_:Int):V 97 [.agg [.rs (5,0) a0_0,iN a0_1,iN a0_2,iN a0_3,iN a0_4,iN a0_5,iN a0_6,iN a0_7],iN a1_] =
 ck7 85 [.agg [.rs (5,0) a0_0,iN a0_1,iN a0_2,iN a0_3,iN a0_4,iN a0_5,iN a0_6,iN a0_7]] fun a _ b c d _ _ _=>((some ((.agg [.os (5,0) a,iN (0),iN b,iN c,iN d,iN (3),iN a1_,iN (0)]),[]))):=by
 exact(zR Tryz.func97 rfl _).trans (by kernel_rfl)
theorem Zx (p l d:List D)(h x:Int):V 230 [.op [.os (5,0) p,.os (4,0) l,.os (3,0) d,iN h],iN x] =
 grd (decide (0<=x)&&decide (x<ni p.length)) (dd p x.toNat fun a=>
 tk2 a fun b _ c _ _=>(br (b==4)
 (ck1 238 [.str c] fun e=>(some ((.tup [.str c,.bool (!e)]),[.op [.os (5,0) p,.os (4,0) l,.os (3,0) d,iN h]])))
 (some ((.tup [.str c,.bool false]),[.op [.os (5,0) p,.os (4,0) l,.os (3,0) d,iN h]])))):=by
 exact(zR Tryz.func230 rfl _).trans (by kernel_rfl)
theorem RH (p:List D)(m1 m2 m3 m4 m5 m6 m7:Int)(cp cl cd:List D)(v:Int):V 185 [.op [.os (5,0) p,iN m1,iN m2,iN m3,iN m4,iN m5,iN m6,iN m7,.rs (5,0) cp,.rs (4,0) cl,.rs (3,0) cd],iN v] =
 AP 94 [.op [.os (5,0) p],iN v,iN m2] fun a b=>((some ((.tup []),[.op [.os (5,0) b,iN m1,iN a,iN m3,iN m4,iN m5,iN m6,iN m7,.rs (5,0) cp,.rs (4,0) cl,.rs (3,0) cd]]))):=by
 exact(zR Tryz.func185 rfl _).trans (by kernel_rfl)
theorem Lq (p0:List D)(p1:Int)(p2 p3 p4:List D):GX p0 p1 p2 p3 p4 =
 br (decide (p1<ni p0.length))
 (
 grd (decide (0<=p1)&&decide (p1<ni p0.length)) (dd p0 p1.toNat fun a=>
 asI .i64 a fun b=>grd (decide (0<=b)&&decide (b<ni p2.length)) (dd p2 b.toNat fun c=>
 asI .i64 c fun d=>grd (decide (ni (List.length (p3++[iN d]))<=LIM)) (nam (p3++[iN d]) fun e=>
 GX p0 (w6 (p1+1)) p2 e p4))))
 (some ((.tup [.agg [.os (5,0) p4],.os (1,0) p3]),[])):=by
 exact(zQ _ _ _).trans (by kernel_rfl)
theorem Kh (p0:List D)(p1:Int)(p2:List D):Ew p0 p1 p2 =
 br (decide (p1<ni p0.length))
 (
 grd (decide (0<=p1)&&decide (p1<ni p0.length)) (dd p0 p1.toNat fun a=>
 asI .i64 a fun b=>ck1 61 [.agg [.rs (5,0) p2],iN b] fun c=>(br (!c)
 (some ((.bool false),[]))
 (Ew p0 (w6 (p1+1)) p2))))
 (ck1 60 [.agg [.rs (5,0) p2]] fun a=>(some ((.bool a),[]))):=by
 exact(zQ _ _ _).trans (by kernel_rfl)
theorem Oz (a0_:Int):V 202 [iN a0_] =
 br (decide (a0_<0))
 (aaw 202 [(iN (w6 (0-a0_)))] fun a=>(grd (decide (ni (ByteArray.size { data:=#[45] }+ByteArray.size a)<=LIM)) (some ((.str ({ data:=#[45] }++a)),[]))))
 (
 br (a0_==0)
 (some ((.str ({ data:=#[48] })),[]))
 (Fx a0_ ({ data:=#[] }))):=by
 exact(zR Tryz.func202 rfl _).trans (by kernel_rfl)
theorem Xe (a0_0 a0_1 a0_2:List D)(a1_:Int):V 57 [.agg [.rs (5,0) a0_0,.rs (4,0) a0_1,.rs (3,0) a0_2],iN a1_] =
 ck1 58 [iN a1_,iN (0),(iN (w6 (ni a0_1.length-1)))] fun a=>(some ((.bool a),[])):=by
 exact(zR Tryz.func57 rfl _).trans (by kernel_rfl)
theorem Xt (a0_0 a1_:List D):V 149 [.agg [.rs (5,0) a0_0],.rs (1,0) a1_] =
 grd (decide (0<=ni a0_0.length)&&decide (ni a0_0.length<=LIM)) (Eu a1_ (0) a0_0 (List.replicate (Int.toNat (ni a0_0.length)) (D.bool false))):=by
 exact(zR Tryz.func149 rfl _).trans (by kernel_rfl)
theorem aaS (a0_0:List D)(a1_:Int):V 61 [.agg [.rs (5,0) a0_0],iN a1_] =
 ck1 62 [iN a1_,iN (0),(iN (w6 (ni a0_0.length-1)))] fun a=>(some ((.bool a),[])):=by
 exact(zR Tryz.func61 rfl _).trans (by kernel_rfl)
theorem aaQ (a0_:List D):V 51 [.rs (1,0) a0_] =
 IZ a0_ (w6 (17000+ni a0_.length)) (0):=by
 exact(zR Tryz.func51 rfl _).trans (by kernel_rfl)
theorem Vx (a0_0:List D)(a1_:Int):V 228 [.agg [.rs (5,0) a0_0],iN a1_] =
 Fw a1_ a0_0 []:=by
 exact(zR Tryz.func228 rfl _).trans (by kernel_rfl)
theorem Zf (a0_:ByteArray):V 128 [.str a0_] =
 Ff a0_ (0):=by
 exact(zR Tryz.func128 rfl _).trans (by kernel_rfl)

end Go.Eng
/-! the functions as the interpreter has them -/
namespace Go.Eng
open Go.Proofs Go.Proofs.Tryz
set_option maxRecDepth 100000
theorem Qc (p:List D)(m1 m2 m3 m4 m5 m6 m7:Int)(cp cl cd:List D)(io im ii:Int)(is:ByteArray):V 134 [.op [.os (5,0) p,iN m1,iN m2,iN m3,iN m4,iN m5,iN m6,iN m7,.rs (5,0) cp,.rs (4,0) cl,.rs (3,0) cd],.agg [iN io,iN im,iN ii,.str is]] =
 br (io==1)
 (AP 93 [.op [.os (5,0) p],(
 .agg [.rs (5,0) cp]),iN im] fun a b=>((Vf 185 [.op [.os (5,0) b,iN m1,iN m2,iN m3,iN m4,iN m5,iN m6,iN m7,.rs (5,0) cp,.rs (4,0) cl,.rs (3,0) cd],iN a] fun c d e f g h i j k l m=>(((ck1 57 [.agg [.rs (5,0) k,.rs (4,0) l,.rs (3,0) m],(iN (w6 (m1+1)))] fun n=>(br (!n)
 (some ((iN (7)),[.op [.os (5,0) c,iN d,iN e,iN f,iN g,iN h,iN i,iN j,.rs (5,0) k,.rs (4,0) l,.rs (3,0) m]]))
 (some ((iN (0)),[(.op [.os (5,0) c,(iN (w6 (m1+1))),iN e,iN f,iN g,iN h,iN i,iN j,.rs (5,0) k,.rs (4,0) l,.rs (3,0) m])])))))))))
 (
 br (io==2)
 (LQ 186 [.op [.os (5,0) p,iN m1,iN m2,iN m3,iN m4,iN m5,iN m6,iN m7,.rs (5,0) cp,.rs (4,0) cl,.rs (3,0) cd],iN im,iN ii] fun a b c d e f g h i j k l=>((br (a==0)
 (ck1 57 [.agg [.rs (5,0) j,.rs (4,0) k,.rs (3,0) l],(iN (w6 (m1+1)))] fun m=>(br (!m)
 (some ((iN (7)),[.op [.os (5,0) b,iN c,iN d,iN e,iN f,iN g,iN h,iN i,.rs (5,0) j,.rs (4,0) k,.rs (3,0) l]]))
 (some ((iN a),[(.op [.os (5,0) b,(iN (w6 (m1+1))),iN d,iN e,iN f,iN g,iN h,iN i,.rs (5,0) j,.rs (4,0) k,.rs (3,0) l])]))))
 (some ((iN a),[(.op [.os (5,0) b,(iN (w6 (m1+1))),iN d,iN e,iN f,iN g,iN h,iN i,.rs (5,0) j,.rs (4,0) k,.rs (3,0) l])])))))
 (
 br (io==3)
 (LQ 187 [.op [.os (5,0) p,iN m1,iN m2,iN m3,iN m4,iN m5,iN m6,iN m7,.rs (5,0) cp,.rs (4,0) cl,.rs (3,0) cd],.str is] fun a b c d e f g h i j k l=>((br (a==0)
 (ck1 57 [.agg [.rs (5,0) j,.rs (4,0) k,.rs (3,0) l],(iN (w6 (m1+1)))] fun m=>(br (!m)
 (some ((iN (7)),[.op [.os (5,0) b,iN c,iN d,iN e,iN f,iN g,iN h,iN i,.rs (5,0) j,.rs (4,0) k,.rs (3,0) l]]))
 (some ((iN a),[(.op [.os (5,0) b,(iN (w6 (m1+1))),iN d,iN e,iN f,iN g,iN h,iN i,.rs (5,0) j,.rs (4,0) k,.rs (3,0) l])]))))
 (some ((iN a),[(.op [.os (5,0) b,(iN (w6 (m1+1))),iN d,iN e,iN f,iN g,iN h,iN i,.rs (5,0) j,.rs (4,0) k,.rs (3,0) l])])))))
 (
 br (io==5)
 (ck1 57 [.agg [.rs (5,0) cp,.rs (4,0) cl,.rs (3,0) cd],iN im] fun a=>(br (!a)
 (some ((iN (7)),[.op [.os (5,0) p,iN m1,iN m2,iN m3,iN m4,iN m5,iN m6,iN m7,.rs (5,0) cp,.rs (4,0) cl,.rs (3,0) cd]]))
 (some ((iN (0)),[.op [.os (5,0) p,iN im,iN m2,iN m3,iN m4,iN m5,iN m6,iN m7,.rs (5,0) cp,.rs (4,0) cl,.rs (3,0) cd]]))))
 (
 br (io==6)
 (AP 157 [.op [.os (5,0) p],(.agg [iN (6),(iN (w6 (w6 (8*im)+ii))),.str ({ data:=#[] }),iN m3,iN (0)])] fun a b=>((Vf 185 [.op [.os (5,0) b,iN m1,iN m2,iN m3,iN m4,iN m5,iN m6,iN m7,.rs (5,0) cp,.rs (4,0) cl,.rs (3,0) cd],iN a] fun c d e f g h i j k l m=>(((ck1 57 [.agg [.rs (5,0) k,.rs (4,0) l,.rs (3,0) m],(iN (w6 (m1+1)))] fun n=>(br (!n)
 (some ((iN (7)),[.op [.os (5,0) c,iN d,iN e,iN f,iN g,iN h,iN i,iN j,.rs (5,0) k,.rs (4,0) l,.rs (3,0) m]]))
 (some ((iN (0)),[(.op [.os (5,0) c,(iN (w6 (m1+1))),iN e,iN f,iN g,iN h,iN i,iN j,.rs (5,0) k,.rs (4,0) l,.rs (3,0) m])])))))))))
 (YM 182 [.op [.os (5,0) p,iN m1,iN m2,iN m3,iN m4,iN m5,iN m6,iN m7,.rs (5,0) cp,.rs (4,0) cl,.rs (3,0) cd]] fun a b c d e f g h i j k l m=>(((br (!b)
 (some ((iN (7)),[.op [.os (5,0) c,iN d,iN e,iN f,iN g,iN h,iN i,iN j,.rs (5,0) k,.rs (4,0) l,.rs (3,0) m]]))
 (
 grd (decide (0<=a)&&decide (a<ni c.length)) (dd c a.toNat fun n=>
 tk2 n fun o q _ _ _=>(br (io==4)
 (
 br (o==2)
 (
 br (q==0)
 (ck1 57 [.agg [.rs (5,0) k,.rs (4,0) l,.rs (3,0) m],iN im] fun r=>(br (!r)
 (some ((iN (7)),[.op [.os (5,0) c,iN d,iN e,iN f,iN g,iN h,iN i,iN j,.rs (5,0) k,.rs (4,0) l,.rs (3,0) m]]))
 (some ((iN (0)),[.op [.os (5,0) c,iN im,iN e,iN f,iN g,iN h,iN i,iN j,.rs (5,0) k,.rs (4,0) l,.rs (3,0) m]]))))
 (ck1 57 [.agg [.rs (5,0) k,.rs (4,0) l,.rs (3,0) m],(iN (w6 (m1+1)))] fun r=>(br (!r)
 (some ((iN (7)),[.op [.os (5,0) c,iN d,iN e,iN f,iN g,iN h,iN i,iN j,.rs (5,0) k,.rs (4,0) l,.rs (3,0) m]]))
 (some ((iN (0)),[(.op [.os (5,0) c,(iN (w6 (m1+1))),iN e,iN f,iN g,iN h,iN i,iN j,.rs (5,0) k,.rs (4,0) l,.rs (3,0) m])])))))
 (ck1 57 [.agg [.rs (5,0) k,.rs (4,0) l,.rs (3,0) m],(iN (w6 (m1+1)))] fun r=>(br (!r)
 (some ((iN (7)),[.op [.os (5,0) c,iN d,iN e,iN f,iN g,iN h,iN i,iN j,.rs (5,0) k,.rs (4,0) l,.rs (3,0) m]]))
 (some ((iN (0)),[(.op [.os (5,0) c,(iN (w6 (m1+1))),iN e,iN f,iN g,iN h,iN i,iN j,.rs (5,0) k,.rs (4,0) l,.rs (3,0) m])])))))
 (ck1 57 [.agg [.rs (5,0) k,.rs (4,0) l,.rs (3,0) m],(iN (w6 (m1+1)))] fun r=>(br (!r)
 (some ((iN (7)),[.op [.os (5,0) c,iN d,iN e,iN f,iN g,iN h,iN i,iN j,.rs (5,0) k,.rs (4,0) l,.rs (3,0) m]]))
 (some ((iN (0)),[(.op [.os (5,0) c,(iN (w6 (m1+1))),iN e,iN f,iN g,iN h,iN i,iN j,.rs (5,0) k,.rs (4,0) l,.rs (3,0) m])]))))))))))))))):=by
 exact(zR Tryz.func134 rfl _).trans (by kernel_rfl)
theorem ZF (a0_0:List D)(a0_1 a0_2:Int):V 52 [.op [.rs (1,0) a0_0,iN a0_1,iN a0_2]] =
 afR 112 [.op [.rs (1,0) a0_0,iN a0_1,iN a0_2]] fun a b c d e f g h i j k l m n=>(((((ck9 76 [.op [.rs (1,0) l,iN m,iN n],iN (30)] fun o p q r=>((br (o==0)
 (ck9 76 [.op [.rs (1,0) p,iN q,iN r],iN (50)] fun s t u v=>((ck9 122 [.op [.rs (1,0) t,iN u,iN v],(.rs (1,0) [iN (-1),iN (0),(iN (w6 (ni b.length-1))),(iN (ni b.length)),iN s])] fun w x y z=>((some ((.tup [.agg [.rs (5,0) a,.rs (4,0) b,.rs (3,0) c],(.agg [.rs (5,0) d,iN w,iN f,iN g,iN h,iN i,iN j,iN k])]),[.op [.rs (1,0) x,iN y,iN z]]))))))
 (
 br (o==1)
 (ck9 76 [.op [.rs (1,0) p,iN q,iN r],iN (5)] fun s t u v=>((some ((.tup [.agg [.rs (5,0) a,.rs (4,0) b,.rs (3,0) c],(.agg [.rs (5,0) d,iN e,iN f,iN g,iN h,iN s,iN j,iN k])]),[.op [.rs (1,0) t,iN u,iN v]]))))
 (
 br (o==2)
 (ck9 76 [.op [.rs (1,0) p,iN q,iN r],iN (21)] fun s t u v=>((some ((.tup [.agg [.rs (5,0) a,.rs (4,0) b,.rs (3,0) c],(.agg [.rs (5,0) d,iN e,iN f,iN g,iN h,iN i,iN s,iN k])]),[.op [.rs (1,0) t,iN u,iN v]]))))
 (
 br (o==3)
 (ck9 91 [.op [.rs (1,0) p,iN q,iN r],(.agg [.rs (5,0) d])] fun s t u v=>((some ((.tup [.agg [.rs (5,0) a,.rs (4,0) b,.rs (3,0) c],(.agg [.rs (5,0) d,iN e,iN f,iN g,iN h,iN i,iN j,iN s])]),[.op [.rs (1,0) t,iN u,iN v]]))))
 (
 br (o==4)
 (ck9 91 [.op [.rs (1,0) p,iN q,iN r],(.agg [.rs (5,0) d])] fun s t u v=>((some ((.tup [.agg [.rs (5,0) a,.rs (4,0) b,.rs (3,0) c],(.agg [.rs (5,0) d,iN e,iN s,iN g,iN h,iN i,iN j,iN k])]),[.op [.rs (1,0) t,iN u,iN v]]))))
 (
 br (o==5)
 (ck9 91 [.op [.rs (1,0) p,iN q,iN r],(.agg [.rs (5,0) d])] fun s t u v=>((some ((.tup [.agg [.rs (5,0) a,.rs (4,0) b,.rs (3,0) c],(.agg [.rs (5,0) d,iN e,iN f,iN s,iN h,iN i,iN j,iN k])]),[.op [.rs (1,0) t,iN u,iN v]]))))
 (
 br (o==6)
 (ck9 91 [.op [.rs (1,0) p,iN q,iN r],(.agg [.rs (5,0) d])] fun s t u v=>((some ((.tup [.agg [.rs (5,0) a,.rs (4,0) b,.rs (3,0) c],(.agg [.rs (5,0) d,iN e,iN f,iN g,iN s,iN i,iN j,iN k])]),[.op [.rs (1,0) t,iN u,iN v]]))))
 (
 br (o==7)
 (aeM 74 [.op [.rs (1,0) p,iN q,iN r]] fun s t u v w x=>(((some ((.tup [.agg [.os (5,0) s,.os (4,0) t,.os (3,0) u],(.agg [.rs (5,0) d,iN e,iN f,iN g,iN h,iN i,iN j,iN k])]),[.op [.rs (1,0) v,iN w,iN x]])))))
 (
 br (o==8)
 (aeN 90 [.op [.rs (1,0) p,iN q,iN r]] fun s t u v=>(((some ((.tup [.agg [.rs (5,0) a,.rs (4,0) b,.rs (3,0) c],(.agg [.os (5,0) s,iN e,iN f,iN g,iN h,iN i,iN j,iN k])]),[.op [.rs (1,0) t,iN u,iN v]])))))
 (some ((.tup [.agg [.rs (5,0) a,.rs (4,0) b,.rs (3,0) c],(.agg [.rs (5,0) d,iN e,iN f,iN g,iN h,iN i,iN j,iN k])]),[.op [.rs (1,0) p,iN q,iN r]]))))))))))))))))):=by
 exact(zR Tryz.func52 rfl _).trans (by kernel_rfl)
theorem Zm (a0_0:List D)(a0_1 a0_2:Int):V 90 [.op [.rs (1,0) a0_0,iN a0_1,iN a0_2]] =
 aeN 154 [.op [.rs (1,0) a0_0,iN a0_1,iN a0_2]] fun a b c d=>(((br (decide (ni a.length>0))
 (YO 155 [.op [.rs (1,0) b,iN c,iN d],iN (12)] fun e f g h=>((br e
 (ck9 76 [.op [.rs (1,0) f,iN g,iN h],(iN (ni a.length))] fun i j k l=>((grd (decide (0<=i)&&decide (i<ni a.length)) (dd a i.toNat fun m=>
 asAgg m fun n=>unc n fun o p=>asI .i64 o fun q=>unc p fun r s=>asI .i64 r fun t=>unc s fun u v=>asS u fun w=>unc v fun x y=>asI .i64 x fun z=>unc y fun A B=>asI .i64 A fun C=>unn B (aax 156 [.op [.rs (1,0) j,iN k,iN l],.agg [iN q,iN t,.str w,iN z,iN C]] fun E F G H I J K L=>(((grd (decide (0<=i)&&decide (i<ni a.length)) (dd a i.toNat fun _=>
 nam (List.set a i.toNat (D.agg [iN E,iN F,D.str G,iN H,iN I])) fun M=>
 YO 155 [(
 .op [.rs (1,0) J,iN K,iN L]),iN (60)] fun N O P Q=>((br N
 (ck9 76 [.op [.rs (1,0) O,iN P,iN Q],iN (2)] fun R S T U=>((grd (decide (0<=w6 (3000+R))&&decide (w6 (3000+R)<=LIM)) (CX (0) S T U (List.replicate (Int.toNat (w6 (3000+R))) (D.agg [iN (0),iN (0),D.str { data:=#[] },iN (0),iN (0)]))))))
 (some ((.agg [.os (5,0) M]),[.op [.rs (1,0) O,iN P,iN Q]])))))))))))))
 (YO 155 [.op [.rs (1,0) f,iN g,iN h],iN (60)] fun i j k l=>((br i
 (ck9 76 [.op [.rs (1,0) j,iN k,iN l],iN (2)] fun m n o p=>((grd (decide (0<=w6 (3000+m))&&decide (w6 (3000+m)<=LIM)) (CX (0) n o p (List.replicate (Int.toNat (w6 (3000+m))) (D.agg [iN (0),iN (0),D.str { data:=#[] },iN (0),iN (0)]))))))
 (some ((.agg [.os (5,0) a]),[.op [.rs (1,0) j,iN k,iN l]]))))))))
 (YO 155 [.op [.rs (1,0) b,iN c,iN d],iN (60)] fun e f g h=>((br e
 (ck9 76 [.op [.rs (1,0) f,iN g,iN h],iN (2)] fun i j k l=>((grd (decide (0<=w6 (3000+i))&&decide (w6 (3000+i)<=LIM)) (CX (0) j k l (List.replicate (Int.toNat (w6 (3000+i))) (D.agg [iN (0),iN (0),D.str { data:=#[] },iN (0),iN (0)]))))))
 (some ((.agg [.os (5,0) a]),[.op [.rs (1,0) f,iN g,iN h]])))))))):=by
 exact(zR Tryz.func90 rfl _).trans (by kernel_rfl)
theorem ZI (a0_0 a0_1 a0_2 a1_0:List D)(a1_1 a1_2 a1_3 a1_4 a1_5 a1_6 a1_7:Int):V 153 [.agg [.rs (5,0) a0_0,.rs (4,0) a0_1,.rs (3,0) a0_2],.agg [.rs (5,0) a1_0,iN a1_1,iN a1_2,iN a1_3,iN a1_4,iN a1_5,iN a1_6,iN a1_7]] =
 ck7 85 [.agg [.rs (5,0) a1_0,iN a1_1,iN a1_2,iN a1_3,iN a1_4,iN a1_5,iN a1_6,iN a1_7]] fun a b c d e f g h=>((grd (decide (0<=a1_1)&&decide (a1_1<ni a0_1.length)) (dd a0_1 a1_1.toNat fun i=>
 tk3 i fun j k l m=>(QI 196 [.agg [.rs (5,0) a0_0,.rs (4,0) a0_1,.rs (3,0) a0_2],(.op [.os (5,0) a,iN b,iN c,iN d,iN e,iN f,iN g,iN h]),.agg [iN j,iN k,iN l,.str m]] fun n o p q r s t u v=>((br (n != 0)
 (ck7 97 [.agg [.rs (5,0) a1_0,iN a1_1,iN a1_2,iN a1_3,iN a1_4,iN a1_5,iN a1_6,iN a1_7],iN n] fun w x y z A B C E=>((some ((.agg [.os (5,0) w,iN x,iN y,iN z,iN A,iN B,iN C,iN E]),[]))))
 (ck1 62 [iN p,iN (0),(iN (w6 (ni a0_1.length-1)))] fun w=>(br (!w)
 (ck7 97 [.agg [.rs (5,0) a1_0,iN a1_1,iN a1_2,iN a1_3,iN a1_4,iN a1_5,iN a1_6,iN a1_7],iN (7)] fun x y z A B C E F=>((some ((.agg [.os (5,0) x,iN y,iN z,iN A,iN B,iN C,iN E,iN F]),[]))))
 (
 br (decide (ni o.length>3000))
 (ck7 97 [.agg [.rs (5,0) a1_0,iN a1_1,iN a1_2,iN a1_3,iN a1_4,iN a1_5,iN a1_6,iN a1_7],iN (6)] fun x y z A B C E F=>((some ((.agg [.os (5,0) x,iN y,iN z,iN A,iN B,iN C,iN E,iN F]),[]))))
 (some ((.agg [.os (5,0) o,iN p,iN q,iN r,iN s,iN t,iN u,iN v]),[]))))))))))):=by
 exact(zR Tryz.func153 rfl _).trans (by kernel_rfl)
theorem UE (a0_0 a0_1 a0_2 a1_0:List D)(a2_:Int):V 171 [.agg [.rs (5,0) a0_0,.rs (4,0) a0_1,.rs (3,0) a0_2],.agg [.rs (5,0) a1_0],iN a2_] =
 ck1 59 [.agg [.rs (5,0) a0_0,.rs (4,0) a0_1,.rs (3,0) a0_2]] fun a=>(br (!a)
 (some ((.tup [.agg [.os (5,0) [],iN (0),iN (0),iN (0),iN (0),iN (0),iN (0),iN (0)],.bool false]),[]))
 (ck1 60 [.agg [.rs (5,0) a1_0]] fun b=>(br (!b)
 (some ((.tup [.agg [.os (5,0) [],iN (0),iN (0),iN (0),iN (0),iN (0),iN (0),iN (0)],.bool false]),[]))
 (ck1 61 [.agg [.rs (5,0) a1_0],iN a2_] fun c=>(br (!c)
 (some ((.tup [.agg [.os (5,0) [],iN (0),iN (0),iN (0),iN (0),iN (0),iN (0),iN (0)],.bool false]),[]))
 (
 br (decide (w6 (ni a1_0.length+2)>3000))
 (some ((.tup [.agg [.os (5,0) [],iN (0),iN (0),iN (0),iN (0),iN (0),iN (0),iN (0)],.bool false]),[]))
 (
 grd (decide (0<=a2_)&&decide (a2_<ni a1_0.length)) (dd a1_0 a2_.toNat fun d=>
 tk2 d fun e f _ g _=>(br (e != 6)
 (some ((.tup [.agg [.os (5,0) [],iN (0),iN (0),iN (0),iN (0),iN (0),iN (0),iN (0)],.bool false]),[]))
 (
 grd (!decide (8=0)) (br (Int.tmod f (8) != 0)
 (some ((.tup [.agg [.os (5,0) [],iN (0),iN (0),iN (0),iN (0),iN (0),iN (0),iN (0)],.bool false]),[]))
 (
 grd (!decide (8=0)) (br (decide (w6 (Int.tdiv f (8))>=ni a0_1.length))
 (some ((.tup [.agg [.os (5,0) [],iN (0),iN (0),iN (0),iN (0),iN (0),iN (0),iN (0)],.bool false]),[]))
 (Fi 147 [.agg [.rs (5,0) a1_0]] fun h=>((AP 158 [.op [.os (5,0) h],(.agg [iN (1),iN (0),.str ({ data:=#[] }),iN (0),iN (0)])] fun i j=>((AP 158 [.op [.os (5,0) j],(.agg [iN (5),iN (0),.str ({ data:=#[] }),iN i,iN g])] fun k l=>((grd (!decide (8=0)) (some ((.tup [(.agg [.os (5,0) l,(iN (w6 (Int.tdiv f (8)))),iN i,iN k,iN i,iN (0),iN (0),iN (0)]),.bool true]),[])))))))))))))))))))))):=by
 exact(zR Tryz.func171 rfl _).trans (by kernel_rfl)
theorem GV (p0:Int)(p1:List D)(p2 p3:Int):CJ p0 p1 p2 p3 =
 br (decide (p0<4))
 (QJ 192 [.op [.rs (1,0) p1,iN p2,iN p3]] fun a b c d=>((aeJ 191 [.agg [.rs (5,0) []],.str a] fun e f g _=>(((aeK 193 [.agg [.rs (5,0) e],.rs (1,0) f] fun h i j k _=>(((br (g==0)
 (
 br (k==0)
 (some ((.agg [.os (5,0) h,.os (4,0) i,.os (3,0) j]),[.op [.rs (1,0) b,iN c,iN d]]))
 (CJ (w6 (p0+1)) b c d))
 (CJ (w6 (p0+1)) b c d))))))))))
 (aeJ 191 [.agg [.rs (5,0) []],.str ({ data:=#[40,112,114,105,110,116,32,49,41] })] fun a b _ _=>(((aeK 193 [.agg [.rs (5,0) a],.rs (1,0) b] fun c d e _ _=>(((some ((.agg [.os (5,0) c,.os (4,0) d,.os (3,0) e]),[.op [.rs (1,0) p1,iN p2,iN p3]])))))))):=by
 exact(zQ _ _ _).trans (by kernel_rfl)
theorem acn (a0_0 a0_1 a0_2 a1_0:List D)(a1_1 a1_2 a1_3 a1_4 a1_5 a1_6 a1_7:Int):V 89 [.agg [.rs (5,0) a0_0,.rs (4,0) a0_1,.rs (3,0) a0_2],.agg [.rs (5,0) a1_0,iN a1_1,iN a1_2,iN a1_3,iN a1_4,iN a1_5,iN a1_6,iN a1_7]] =
 ck1 15 [.agg [.rs (5,0) a0_0,.rs (4,0) a0_1,.rs (3,0) a0_2],(.agg [.rs (5,0) a1_0,iN a1_1,iN a1_2,iN a1_3,iN a1_4,iN a1_5,iN a1_6,iN a1_7])] fun a=>(br (!a)
 (some ((.agg [.os (5,0) [],iN (0),iN (0),iN (0),iN (0),iN (3),iN (7),iN (0)]),[]))
 (
 br (a1_5 != 0)
 (ck7 85 [.agg [.rs (5,0) a1_0,iN a1_1,iN a1_2,iN a1_3,iN a1_4,iN a1_5,iN a1_6,iN a1_7]] fun b c d e f g h i=>((some ((.agg [.os (5,0) b,iN c,iN d,iN e,iN f,iN g,iN h,iN i]),[]))))
 (ck7 153 [.agg [.rs (5,0) a0_0,.rs (4,0) a0_1,.rs (3,0) a0_2],(.agg [.rs (5,0) a1_0,iN a1_1,iN a1_2,iN a1_3,iN a1_4,iN a1_5,iN a1_6,iN a1_7])] fun b c d e f g h i=>((some ((.agg [.os (5,0) b,iN c,iN d,iN e,iN f,iN g,iN h,iN i]),[])))))):=by
 exact(zR Tryz.func89 rfl _).trans (by kernel_rfl)
theorem Zj (a0_0:List D)(a0_1 a0_2:Int):V 143 [.op [.rs (1,0) a0_0,iN a0_1,iN a0_2]] =
 grd (!decide (33<0)) (grd (!decide (45<0)) (br (decide (a0_1<ni a0_0.length))
 (
 grd (decide (0<=a0_1)&&decide (a0_1<ni a0_0.length)) (dd a0_0 a0_1.toNat fun a=>
 asI .u8 a fun b=>some ((iN (w6 (ni (BitVec.toNat (BitVec.ofInt (IntKind.bits IntKind.i64) (w6 (w6 (ni (BitVec.toNat (BitVec.ofInt (IntKind.bits IntKind.i64) (w6 (ni (BitVec.toNat (BitVec.ofInt (IntKind.bits IntKind.i64) (Int.fdiv (w6 (w6 (a0_2*6364136223846793005)+1442695040888963407)) (2 ^ min (Int.toNat (33)) (IntKind.bits IntKind.i64))) ^^^ BitVec.ofInt (IntKind.bits IntKind.i64) (Int.fdiv (w6 (w6 (a0_2*6364136223846793005)+1442695040888963407)) (2 ^ min (Int.toNat (45)) (IntKind.bits IntKind.i64))))))) &&& BitVec.ofInt (IntKind.bits IntKind.i64) (255))))+w6 b)) &&& BitVec.ofInt (IntKind.bits IntKind.i64) (255)))))),[(.op [.rs (1,0) a0_0,(iN (w6 (a0_1+1))),(iN (w6 (w6 (a0_2*6364136223846793005)+1442695040888963407)))])])))
 (some ((iN (w6 (ni (BitVec.toNat (BitVec.ofInt (IntKind.bits IntKind.i64) (w6 (ni (BitVec.toNat (BitVec.ofInt (IntKind.bits IntKind.i64) (Int.fdiv (w6 (w6 (a0_2*6364136223846793005)+1442695040888963407)) (2 ^ min (Int.toNat (33)) (IntKind.bits IntKind.i64))) ^^^ BitVec.ofInt (IntKind.bits IntKind.i64) (Int.fdiv (w6 (w6 (a0_2*6364136223846793005)+1442695040888963407)) (2 ^ min (Int.toNat (45)) (IntKind.bits IntKind.i64))))))) &&& BitVec.ofInt (IntKind.bits IntKind.i64) (255)))))),[(.op [.rs (1,0) a0_0,iN a0_1,(iN (w6 (w6 (a0_2*6364136223846793005)+1442695040888963407)))])])))):=by
 exact(zR Tryz.func143 rfl _).trans (by kernel_rfl)
theorem Mr (p0 p1:Int)(p2:List D):I9 p0 p1 p2 =
 br (decide (p1>0))
 (
 grd (decide (0<=p0)&&decide (p0<ni p2.length)) (dd p2 p0.toNat fun a=>
 asAgg a fun b=>dd b 0 fun c=>
 asI .i64 c fun d=>br (d==5)
 (
 grd (decide (0<=p0)&&decide (p0<ni p2.length)) (dd p2 p0.toNat fun e=>
 asAgg e fun f=>dd f 4 fun g=>
 asI .i64 g fun h=>I9 h (w6 (p1-1)) p2))
 (
 grd (decide (0<=p0)&&decide (p0<ni p2.length)) (dd p2 p0.toNat fun e=>
 asAgg e fun f=>dd f 0 fun g=>
 asI .i64 g fun h=>br (h != 5)
 (some ((.tup [iN (0),.bool false]),[]))
 (
 grd (decide (0<=p0)&&decide (p0<ni p2.length)) (dd p2 p0.toNat fun i=>
 asAgg i fun j=>dd j 3 fun k=>
 asI .i64 k fun l=>some ((.tup [iN l,.bool true]),[])))))))
 (
 grd (decide (0<=p0)&&decide (p0<ni p2.length)) (dd p2 p0.toNat fun a=>
 asAgg a fun b=>dd b 0 fun c=>
 asI .i64 c fun d=>br (d != 5)
 (some ((.tup [iN (0),.bool false]),[]))
 (
 grd (decide (0<=p0)&&decide (p0<ni p2.length)) (dd p2 p0.toNat fun e=>
 asAgg e fun f=>dd f 3 fun g=>
 asI .i64 g fun h=>some ((.tup [iN h,.bool true]),[]))))):=by
 exact(zQ _ _ _).trans (by kernel_rfl)
theorem FK (p0 p1 p2:Int)(p3:Bool)(p4 p5:List D):BW p0 p1 p2 p3 p4 p5 =
 br (decide (p1<p0))
 (
 br p3
 (
 br (decide (p1<=3000))
 (afS 141 [.op [.os (1,0) p4,iN p2,.bool p3]] fun a b c d e f g h=>(((grd (decide (ni (List.length (p5++[D.agg [iN a,iN b,D.str c,iN d,iN e]]))<=LIM)) (nam (p5++[D.agg [iN a,iN b,D.str c,iN d,iN e]]) fun i=>
 BW p0 (w6 (p1+1)) g h f i)))))
 (some ((.agg [.os (5,0) p5]),[.op [.os (1,0) p4,iN p2,.bool p3]])))
 (some ((.agg [.os (5,0) p5]),[.op [.os (1,0) p4,iN p2,.bool p3]])))
 (some ((.agg [.os (5,0) p5]),[.op [.os (1,0) p4,iN p2,.bool p3]])):=by
 exact(zQ _ _ _).trans (by kernel_rfl)
theorem KZ (p0:Int)(p1 p2 p3:List D):GL p0 p1 p2 p3 =
 br (decide (p0<ni p3.length))
 (
 grd (decide (0<=p0)&&decide (p0<ni p3.length)) (dd p3 p0.toNat fun a=>
 tk1 a fun b c d=>(ck1 128 [.str b] fun e=>(br (!e)
 (some ((.bool false),[]))
 (Ir 129 [.agg [.rs (5,0) p1,.rs (4,0) p2,.rs (3,0) p3],.str b] fun f=>(br (f != p0)
 (some ((.bool false),[]))
 (ck1 62 [iN c,iN (0),(iN (w6 (ni p2.length-1)))] fun g=>(br (!g)
 (some ((.bool false),[]))
 (ck1 62 [iN d,iN (0),iN (4)] fun h=>(br (!h)
 (some ((.bool false),[]))
 (GL (w6 (p0+1)) p1 p2 p3)))))))))))
 (some ((.bool true),[])):=by
 exact(zQ _ _ _).trans (by kernel_rfl)
theorem Ga (p0 p1:Int)(p2:List D)(p3 p4:Int)(p5:List D):Di p0 p1 p2 p3 p4 p5 =
 br (decide (p1<p0))
 (aax 197 [.op [.rs (1,0) p2,iN p3,iN p4],iN p1] fun a b c d e f g h=>(((AP 158 [.op [.os (5,0) p5],.agg [iN a,iN b,.str c,iN d,iN e]] fun _ i=>((Di p0 (w6 (p1+1)) f g h i))))))
 (some ((.agg [.os (5,0) p5]),[.op [.rs (1,0) p2,iN p3,iN p4]])):=by
 exact(zQ _ _ _).trans (by kernel_rfl)
theorem acm (a0_0:List D)(a1_:ByteArray):V 191 [.agg [.rs (5,0) a0_0],.str a1_] =
 ck1 60 [.agg [.rs (5,0) a0_0]] fun a=>(br (!a)
 (some ((.tup [.agg [.os (5,0) []],.os (1,0) [],iN (6),iN (0)]),[]))
 (
 br (decide (ni (ByteArray.size a1_)>400))
 (Fi 147 [.agg [.rs (5,0) a0_0]] fun b=>((some ((.tup [.agg [.os (5,0) b],.os (1,0) [],iN (1),iN (0)]),[]))))
 (Fi 147 [.agg [.rs (5,0) a0_0]] fun b=>((AL a1_ (0) a0_0 [] ([D.agg
 [iN (0),
 D.os
 (TypeInfo.size (Tables.types (Program.toTables Tryz.prog))[3],
 match rZ Tryz.prog (3) with
 |true=>0
 |false=>1)
 []]]) b))))):=by
 exact(zR Tryz.func191 rfl _).trans (by kernel_rfl)
theorem acg (a0_0:List D)(a1_ a2_:Int):V 242 [.agg [.rs (5,0) a0_0],iN a1_,iN a2_] =
 ck1 55 [.agg [.rs (5,0) a0_0]] fun a=>(br (!a)
 (some ((.bool false),[]))
 (ck1 56 [.agg [.rs (5,0) a0_0],iN a1_] fun b=>(br (!b)
 (some ((.bool false),[]))
 (ck1 56 [.agg [.rs (5,0) a0_0],iN a2_] fun c=>(br (!c)
 (some ((.bool false),[]))
 (AY 247 [.agg [.rs (5,0) a0_0]] fun d=>(grd (decide (0<=a1_)&&decide (a1_<ni d.length)) (dd d a1_.toNat fun e=>
 asI .i64 e fun f=>grd (decide (0<=a2_)&&decide (a2_<ni d.length)) (dd d a2_.toNat fun g=>
 asI .i64 g fun h=>some ((.bool (f==h)),[])))))))))):=by
 exact(zR Tryz.func242 rfl _).trans (by kernel_rfl)
theorem KV (p0:List D)(p1 p2:Int)(p3:List D):GG p0 p1 p2 p3 =
 br (decide (p2<p1))
 (
 grd (decide (0<=p2)&&decide (p2<ni p0.length)) (dd p0 p2.toNat fun a=>
 tk2 a fun b c d e f=>(ck1 126 [.agg [iN b,iN c,.str d,iN e,iN f],iN p2] fun g=>(br (!g)
 (some ((.bool false),[]))
 (GG p0 p1 (w6 (p2+1)) p3)))))
 (some ((.bool (decide (ni p3.length<=3000))),[])):=by
 exact(zQ _ _ _).trans (by kernel_rfl)
theorem Tm (a0_:Int):V 177 [.int .u8 a0_] =
 br (decide (a0_>=97))
 (
 br (decide (a0_<=122))
 (some ((.bool true),[]))
 (grd (decide (0<8)) (ck1 203 [.rs (1,0) [.int .u8 (43),.int .u8 (45),.int .u8 (42),.int .u8 (60),.int .u8 (61),.int .u8 (63),.int .u8 (33),.int .u8 (47)],.int .u8 a0_] fun a=>(some ((.bool a),[])))))
 (grd (decide (0<8)) (ck1 203 [.rs (1,0) [.int .u8 (43),.int .u8 (45),.int .u8 (42),.int .u8 (60),.int .u8 (61),.int .u8 (63),.int .u8 (33),.int .u8 (47)],.int .u8 a0_] fun a=>(some ((.bool a),[])))):=by
 exact(zR Tryz.func177 rfl _).trans (by kernel_rfl)
theorem aaZ (a0_0:List D)(a0_1 a0_2:Int)(a1_0 a1_1 a1_2 a2_0:List D)(a2_1 a2_2 a2_3 a2_4 a2_5 a2_6 a2_7 a3_:Int):V 172 [.op [.rs (1,0) a0_0,iN a0_1,iN a0_2],.agg [.rs (5,0) a1_0,.rs (4,0) a1_1,.rs (3,0) a1_2],.agg [.os (5,0) a2_0,iN a2_1,iN a2_2,iN a2_3,iN a2_4,iN a2_5,iN a2_6,iN a2_7],iN a3_] =
 Gc a3_ (0) a0_0 a0_1 a0_2 a1_0 a1_1 a1_2 a2_1 a2_2 a2_3 a2_4 a2_5 a2_6 a2_7 (0) (0) (0) (0) (0) (0) (0) a2_0:=by
 exact(zR Tryz.func172 rfl _).trans (by kernel_rfl)
theorem Kf (p0:List D)(p1:Int)(p2 p3:List D):Eu p0 p1 p2 p3 =
 br (decide (p1<ni p0.length))
 (
 grd (decide (0<=p1)&&decide (p1<ni p0.length)) (dd p0 p1.toNat fun a=>
 asI .i64 a fun b=>grd (decide (0<=b)&&decide (b<ni p3.length)) (dd p3 b.toNat fun _=>
 nam (List.set p3 b.toNat (D.bool true)) fun c=>
 Eu p0 (w6 (p1+1)) p2 c)))
 (BJ (w6 (ni p2.length-1)) p2 p3):=by
 exact(zQ _ _ _).trans (by kernel_rfl)
theorem PZ (p q:List D)(v:Int):V 93 [.op [.os (5,0) p],.agg [.rs (5,0) q],iN v] =
 aav 137 [.op [.os (5,0) p],(.agg [.rs (5,0) q]),.rs (1,0) [iN v]] fun a b=>((grd (decide (0<=v)&&decide (v<ni a.length)) (dd a v.toNat fun c=>
 asI .i64 c fun d=>some ((iN d),[.op [.os (5,0) b]])))):=by
 exact(zR Tryz.func93 rfl _).trans (by kernel_rfl)
theorem Qa (p:List D)(m1 m2 m3 m4 m5 m6 m7:Int)(cp cl cd:List D)(v n:Int):V 207 [.op [.os (5,0) p,iN m1,iN m2,iN m3,iN m4,iN m5,iN m6,iN m7,.rs (5,0) cp,.rs (4,0) cl,.rs (3,0) cd],iN v,iN n] =
 Dh v n m1 m2 m3 m4 m5 m6 m7 cp cl cd p:=by
 exact(zR Tryz.func207 rfl _).trans (by kernel_rfl)
theorem YR (a0_:List D)(a1_:Int):V 140 [.rs (1,0) a0_,iN a1_] =
 ck1 58 [iN a1_,iN (0),(iN (w6 (ni a0_.length-1)))] fun a=>(br (!a)
 (some ((.tup [iN (0),iN (0),.bool false]),[]))
 (GE a0_ a1_ (0) (0))):=by
 exact(zR Tryz.func140 rfl _).trans (by kernel_rfl)
theorem YU (a0_:ByteArray):V 124 [.str a0_] =
 ck1 58 [(iN (ni (ByteArray.size a0_))),iN (1),iN (12)] fun a=>(br (!a)
 (some ((.bool false),[]))
 (Fa a0_ (ni (ByteArray.size a0_)) (0))):=by
 exact(zR Tryz.func124 rfl _).trans (by kernel_rfl)
theorem Mo (p0:List D)(p1:ByteArray)(p2:Int):Gb p0 p1 p2 =
 br (decide (p2<ni p0.length))
 (I8 p0 p1 p2 (0))
 (some ((.tup [iN (-1),iN (0)]),[])):=by
 exact(zQ _ _ _).trans (by kernel_rfl)
theorem acl (r:Int)(p:List D):V 136 [iN r,.bp [.rs (5,0) p]] =
 ck1 56 [.agg [.rs (5,0) p],iN r] fun a=>(some ((.bool (!a)),[])):=by
 exact(zR Tryz.func136 rfl _).trans (by kernel_rfl)
theorem YX (a0_:Int):V 67 [iN a0_] =
 br (decide (a0_<0))
 (some ((.os (1,0) []),[]))
 (GI a0_ []):=by
 exact(zR Tryz.func67 rfl _).trans (by kernel_rfl)
theorem Xu (a0_0 a1_:List D):V 84 [.agg [.rs (5,0) a0_0],.rs (1,0) a1_] =
 Ew a1_ (0) a0_0:=by
 exact(zR Tryz.func84 rfl _).trans (by kernel_rfl)
theorem UH (a0_0:List D):V 252 [.agg [.rs (5,0) a0_0]] =
 Cz (0) a0_0 [] []:=by
 exact(zR Tryz.func252 rfl _).trans (by kernel_rfl)

end Go.Eng
/-! the functions as the interpreter has them -/
namespace Go.Eng
open Go.Proofs Go.Proofs.Tryz
set_option maxRecDepth 100000
theorem acs (cp cl cd p:List D)(m1 m2 m3 m4 m5 m6 m7 io im ii:Int)(is:ByteArray):V 196 [.agg [.rs (5,0) cp,.rs (4,0) cl,.rs (3,0) cd],.op [.os (5,0) p,iN m1,iN m2,iN m3,iN m4,iN m5,iN m6,iN m7],.agg [iN io,iN im,iN ii,.str is]] =
 br (io==1)
 (AP 96 [.op [.os (5,0) p],(.agg [.rs (5,0) cp]),iN im] fun a b=>((Uw 95 [.op [.os (5,0) b,iN m1,iN m2,iN m3,iN m4,iN m5,iN m6,iN m7],iN a] fun c _ d e f g h i=>(((some ((iN (0)),[(.op [.os (5,0) c,(iN (w6 (m1+1))),iN d,iN e,iN f,iN g,iN h,iN i])])))))))
 (
 br (io==2)
 (aca 216 [.agg [.rs (5,0) p],iN m3,iN im] fun a b=>((br (!b)
 (some ((iN (7)),[.op [.os (5,0) p,iN m1,iN m2,iN m3,iN m4,iN m5,iN m6,iN m7]]))
 (aca 216 [.agg [.rs (5,0) p],iN a,iN ii] fun c d=>((br (!d)
 (some ((iN (7)),[.op [.os (5,0) p,iN m1,iN m2,iN m3,iN m4,iN m5,iN m6,iN m7]]))
 (Uw 95 [.op [.os (5,0) p,iN m1,iN m2,iN m3,iN m4,iN m5,iN m6,iN m7],iN c] fun e _ f g h i j k=>(((some ((iN (0)),[(.op [.os (5,0) e,(iN (w6 (m1+1))),iN f,iN g,iN h,iN i,iN j,iN k])])))))))))))
 (
 br (io==3)
 (QI 217 [.agg [.rs (5,0) cp,.rs (4,0) cl,.rs (3,0) cd],(.op [.os (5,0) p,iN m1,iN m2,iN m3,iN m4,iN m5,iN m6,iN m7]),.str is] fun a b c d e f g h i=>((br (a != 0)
 (some ((iN a),[.op [.os (5,0) b,iN c,iN d,iN e,iN f,iN g,iN h,iN i]]))
 (some ((iN (0)),[(.op [.os (5,0) b,(iN (w6 (m1+1))),iN d,iN e,iN f,iN g,iN h,iN i])])))))
 (
 br (io==4)
 (aau 218 [.op [.os (5,0) p,iN m1,iN m2,iN m3,iN m4,iN m5,iN m6,iN m7]] fun a b c d e f g h i j=>(((br (!b)
 (some ((iN (7)),[.op [.os (5,0) c,iN d,iN e,iN f,iN g,iN h,iN i,iN j]]))
 (
 grd (decide (0<=a)&&decide (a<ni c.length)) (dd c a.toNat fun k=>
 tk2 k fun l m _ _ _=>(br (l==2)
 (
 br (m==0)
 (some ((iN (0)),[.op [.os (5,0) c,iN im,iN e,iN f,iN g,iN h,iN i,iN j]]))
 (some ((iN (0)),[(.op [.os (5,0) c,(iN (w6 (m1+1))),iN e,iN f,iN g,iN h,iN i,iN j])])))
 (some ((iN (0)),[(.op [.os (5,0) c,(iN (w6 (m1+1))),iN e,iN f,iN g,iN h,iN i,iN j])])))))))))
 (
 br (io==5)
 (some ((iN (0)),[.op [.os (5,0) p,iN im,iN m2,iN m3,iN m4,iN m5,iN m6,iN m7]]))
 (
 br (io==6)
 (AP 158 [.op [.os (5,0) p],(.agg [iN (6),(iN (w6 (w6 (8*im)+ii))),.str ({ data:=#[] }),iN m3,iN (0)])] fun a b=>((Uw 95 [.op [.os (5,0) b,iN m1,iN m2,iN m3,iN m4,iN m5,iN m6,iN m7],iN a] fun c _ d e f g h i=>(((some ((iN (0)),[(.op [.os (5,0) c,(iN (w6 (m1+1))),iN d,iN e,iN f,iN g,iN h,iN i])])))))))
 (
 br (io==7)
 (QI 219 [.agg [.rs (5,0) cp,.rs (4,0) cl,.rs (3,0) cd],(.op [.os (5,0) p,iN m1,iN m2,iN m3,iN m4,iN m5,iN m6,iN m7]),iN ii,(iN (w6 (m1+1)))] fun a b c d e f g h i=>((some ((iN a),[.op [.os (5,0) b,iN c,iN d,iN e,iN f,iN g,iN h,iN i]]))))
 (
 br (io==8)
 (QI 220 [.op [.os (5,0) p,iN m1,iN m2,iN m3,iN m4,iN m5,iN m6,iN m7]] fun a b c d e f g h i=>((some ((iN a),[.op [.os (5,0) b,iN c,iN d,iN e,iN f,iN g,iN h,iN i]]))))
 (
 br (io==9)
 (aau 218 [.op [.os (5,0) p,iN m1,iN m2,iN m3,iN m4,iN m5,iN m6,iN m7]] fun _ a b c d e f g h i=>(((br (!a)
 (some ((iN (7)),[.op [.os (5,0) b,iN c,iN d,iN e,iN f,iN g,iN h,iN i]]))
 (some ((iN (0)),[(.op [.os (5,0) b,(iN (w6 (m1+1))),iN d,iN e,iN f,iN g,iN h,iN i])]))))))
 (some ((iN (0)),[(.op [.os (5,0) p,(iN (w6 (m1+1))),iN m2,iN m3,iN m4,iN m5,iN m6,iN m7])])))))))))):=by
 exact(zR Tryz.func196 rfl _).trans (by kernel_rfl)
theorem Vu (a0_:List D):V 4 [.rs (1,0) a0_] =
 ck1 12 [.rs (1,0) a0_] fun a=>(br a
 (some ((.bool true),[]))
 (agI 13 [.rs (1,0) a0_] fun b c d e f g h i j k l m=>((((YN 19 [.agg [.rs (5,0) b,.rs (4,0) c,.rs (3,0) d],(.agg [.rs (5,0) e,iN f,iN g,iN h,iN i,iN j,iN k,iN l])] fun n o=>((YN 20 [.agg [.rs (5,0) b,.rs (4,0) c,.rs (3,0) d],(.agg [.rs (5,0) e,iN f,iN g,iN h,iN i,iN j,iN k,iN l])] fun _ p=>((br (!o==p)
 (some ((.bool false),[]))
 (
 br (!o)
 (
 br (kJ n { data:=#[] })
 (ck1 14 [.agg [.rs (5,0) b,.rs (4,0) c,.rs (3,0) d],(.agg [.rs (5,0) e,iN f,iN g,iN h,iN i,iN j,iN k,iN l])] fun q=>(some ((.bool (!q)),[])))
 (some ((.bool false),[])))
 (
 br (decide (ni e.length>2000))
 (some ((.bool true),[]))
 (Uv 21 [.agg [.rs (5,0) b,.rs (4,0) c,.rs (3,0) d],.str n] fun q r s t u v w x y=>(((aeF 22 [.agg [.rs (5,0) b,.rs (4,0) c,.rs (3,0) d],(.agg [.rs (5,0) e,iN f,iN g,iN h,iN i,iN j,iN k,iN l]),iN m] fun z A B C E F G H I=>(((aeF 22 [.agg [.rs (5,0) b,.rs (4,0) c,.rs (3,0) d],(.agg [.rs (5,0) q,iN r,iN s,iN t,iN u,iN v,iN w,iN x]),iN m] fun J K L M N O P Q R=>(((YN 19 [.agg [.rs (5,0) b,.rs (4,0) c,.rs (3,0) d],(.agg [.rs (5,0) z,iN A,iN B,iN C,iN E,iN F,iN G,iN H])] fun S T=>((YN 19 [.agg [.rs (5,0) b,.rs (4,0) c,.rs (3,0) d],(.agg [.rs (5,0) J,iN K,iN L,iN M,iN N,iN O,iN P,iN Q])] fun U W=>((br y
 (
 br (I==R)
 (
 br T
 (
 br W
 (some ((.bool (kJ S U)),[]))
 (some ((.bool false),[])))
 (some ((.bool false),[])))
 (some ((.bool false),[])))
 (some ((.bool false),[])))))))))))))))))))))))))))):=by
 exact(zR Tryz.func4 rfl _).trans (by kernel_rfl)
theorem ZH (cp cl cd p:List D)(m1 m2 m3 m4 m5 m6 m7 n:Int)(l:List D)(nx:Int):V 240 [.agg [.rs (5,0) cp,.rs (4,0) cl,.rs (3,0) cd],.op [.os (5,0) p,iN m1,iN m2,iN m3,iN m4,iN m5,iN m6,iN m7],iN n,.rs (1,0) l,iN nx] =
 Ir 245 [iN n] fun a=>(br (ni l.length != a)
 (some ((iN (2)),[.op [.os (5,0) p,iN m1,iN m2,iN m3,iN m4,iN m5,iN m6,iN m7]]))
 (
 br (n==18)
 (AP 158 [.op [.os (5,0) p],(.agg [iN (3),iN nx,.str ({ data:=#[] }),iN (0),iN (0)])] fun b c=>((AP 210 [.op [.os (5,0) c],.rs (1,0) [iN b,iN m2,iN m3,iN m4]] fun d e=>((AP 158 [.op [.os (5,0) e],(.agg [iN (7),iN (0),.str ({ data:=#[] }),iN d,iN (0)])] fun f g=>((grd (decide (0<=0)&&decide (0<ni l.length)) (dd l 0 fun h=>
 asI .i64 h fun i=>QI 233 [.agg [.rs (5,0) cp,.rs (4,0) cl,.rs (3,0) cd],(.op [.os (5,0) g,iN m1,iN m2,iN m3,iN m4,iN m5,iN m6,iN m7]),iN i,.rs (1,0) [iN f],iN nx] fun j k m o q r s t u=>((some ((iN j),[.op [.os (5,0) k,iN m,iN o,iN q,iN r,iN s,iN t,iN u]])))))))))))
 (
 br (decide (n>12))
 (AP 210 [.op [.os (5,0) p],.rs (1,0) l] fun b c=>((some ((iN (0)),[.op [.os (5,0) c,iN m1,iN m2,iN m3,iN m4,iN (1),iN n,iN b]]))))
 (adJ 246 [.op [.os (5,0) p],iN n,.rs (1,0) l] fun b c d=>(((br (c==3)
 (some ((iN (4)),[.op [.os (5,0) d,iN m1,iN m2,iN m3,iN m4,iN m5,iN m6,iN m7]]))
 (
 br (c==4)
 (some ((iN (5)),[.op [.os (5,0) d,iN m1,iN m2,iN m3,iN m4,iN m5,iN m6,iN m7]]))
 (Uw 95 [.op [.os (5,0) d,iN m1,iN m2,iN m3,iN m4,iN m5,iN m6,iN m7],iN b] fun e _ f g h i j k=>(((some ((iN (0)),[.op [.os (5,0) e,iN nx,iN f,iN g,iN h,iN i,iN j,iN k]]))))))))))))):=by
 exact(zR Tryz.func240 rfl _).trans (by kernel_rfl)
theorem VC (cp cl cd p:List D)(m1 m2 m3 m4 m5 m6 m7:Int)(s:ByteArray):V 217 [.agg [.rs (5,0) cp,.rs (4,0) cl,.rs (3,0) cd],.op [.os (5,0) p,iN m1,iN m2,iN m3,iN m4,iN m5,iN m6,iN m7],.str s] =
 Ir 129 [.agg [.rs (5,0) cp,.rs (4,0) cl,.rs (3,0) cd],.str s] fun a=>(br (decide (a>=0))
 (AP 158 [.op [.os (5,0) p],(.agg [iN (1),iN (0),.str ({ data:=#[] }),iN (0),iN (0)])] fun b c=>((grd (decide (0<=a)&&decide (a<ni cd.length)) (dd cd a.toNat fun d=>
 asAgg d fun e=>dd e 1 fun f=>
 asI .i64 f fun g=>grd (decide (0<=a)&&decide (a<ni cd.length)) (dd cd a.toNat fun h=>
 asAgg h fun i=>dd i 2 fun j=>
 asI .i64 j fun k=>AP 158 [.op [.os (5,0) c],(.agg [iN (6),(iN (w6 (w6 (8*g)+k))),.str ({ data:=#[] }),iN b,iN (0)])] fun l m=>((Uw 95 [.op [.os (5,0) m,iN m1,iN m2,iN m3,iN m4,iN m5,iN m6,iN m7],iN l] fun n o q r t u v w=>(((some ((iN (0)),[.op [.os (5,0) n,iN o,iN q,iN r,iN t,iN u,iN v,iN w]])))))))))))
 (Ir 232 [.str s] fun b=>(br (b==0)
 (some ((iN (1)),[.op [.os (5,0) p,iN m1,iN m2,iN m3,iN m4,iN m5,iN m6,iN m7]]))
 (AP 158 [.op [.os (5,0) p],(.agg [iN (8),iN b,.str ({ data:=#[] }),iN (0),iN (0)])] fun c d=>((Uw 95 [.op [.os (5,0) d,iN m1,iN m2,iN m3,iN m4,iN m5,iN m6,iN m7],iN c] fun e f g h i j k l=>(((some ((iN (0)),[.op [.os (5,0) e,iN f,iN g,iN h,iN i,iN j,iN k,iN l]])))))))))):=by
 exact(zR Tryz.func217 rfl _).trans (by kernel_rfl)
theorem aaU (p l d:List D)(h:Int)(n x e:List D):V 254 [.op [.os (5,0) p,.os (4,0) l,.os (3,0) d,iN h],.rs (1,0) n,.rs (1,0) x,.rs (1,1) e] =
 ck3 237 [(.op [.os (5,0) p,(.os (
 4,0) l),.os (3,0) d,iN h]),(.agg [iN (6),iN (0),(iN (ni n.length)),.str ({ data:=#[] })])] fun a b c f g=>((ck3 237 [.op [.os (5,0) b,.os (4,0) c,.os (3,0) f,iN g],(.agg [iN (5),iN (0),iN (0),.str ({ data:=#[] })])] fun i j k m o=>((ck4 253 [.op [.os (5,0) j,.os (4,0) k,.os (3,0) m,iN o],iN a] fun q r s t=>(((grd (decide (ni (List.length ([D.rs (1,0) n]++e))<=LIM)) (nam ([D.rs (1,0) n]++e) fun u=>
 ck4 236 [.op [.os (5,0) q,.os (4,0) r,.os (3,0) s,iN t],.rs (1,0) x,.rs (1,1) u] fun v w y z=>(((ck3 237 [.op [.os (5,0) v,.os (4,0) w,.os (3,0) y,iN z],(.agg [iN (8),iN (0),iN (0),.str ({ data:=#[] })])] fun _ A B C E=>((ck4 253 [.op [.os (5,0) A,.os (4,0) B,.os (3,0) C,iN E],iN i] fun F G H I=>(((some ((.tup []),[.op [.os (5,0) F,.os (4,0) G,.os (3,0) H,iN I]]))))))))))))))))):=by
 exact(zR Tryz.func254 rfl _).trans (by kernel_rfl)
theorem Xj (a0_0:List D)(a0_1 a0_2 a1_:Int):V 76 [.op [.rs (1,0) a0_0,iN a0_1,iN a0_2],iN a1_] =
 br (decide (a1_<=0))
 (some ((iN (0)),[.op [.rs (1,0) a0_0,iN a0_1,iN a0_2]]))
 (
 br (decide (a1_<=256))
 (ck9 143 [.op [.rs (1,0) a0_0,iN a0_1,iN a0_2]] fun a b c d=>((grd (!decide (a1_=0)) (some ((iN (Int.tmod a a1_)),[.op [.rs (1,0) b,iN c,iN d]])))))
 (ck9 143 [.op [.rs (1,0) a0_0,iN a0_1,iN a0_2]] fun a b c d=>((ck9 143 [.op [.rs (1,0) b,iN c,iN d]] fun e f g h=>((ck9 143 [.op [.rs (1,0) f,iN g,iN h]] fun i j k l=>((ck9 143 [.op [.rs (1,0) j,iN k,iN l]] fun m n o p=>((grd (!decide (a1_=0)) (some ((iN (Int.tmod (w6 (w6 (w6 (w6 (a*16777216)+w6 (e*65536))+w6 (i*256))+m)) a1_)),[.op [.rs (1,0) n,iN o,iN p]])))))))))))):=by
 exact(zR Tryz.func76 rfl _).trans (by kernel_rfl)
theorem Mg (p0:Int)(p1 p2:List D):Ct p0 p1 p2 =
 br (decide (p0>=0))
 (
 grd (decide (0<=p0)&&decide (p0<ni p2.length)) (dd p2 p0.toNat fun a=>
 asB a fun b=>br (!b)
 (Ct (w6 (p0-1)) p1 p2)
 (
 grd (decide (0<=p0)&&decide (p0<ni p1.length)) (dd p1 p0.toNat fun c=>
 tk2 c fun d _ _ e f=>(br (d==5)
 (
 grd (decide (0<=e)&&decide (e<ni p2.length)) (dd p2 e.toNat fun _=>
 nam (List.set p2 e.toNat (D.bool true)) fun g=>
 grd (decide (0<=f)&&decide (f<ni g.length)) (dd g f.toNat fun _=>
 nam (List.set g f.toNat (D.bool true)) fun h=>
 Ct (w6 (p0-1)) p1 h)))
 (
 br (d==6)
 (
 br (d==6)
 (
 grd (decide (0<=e)&&decide (e<ni p2.length)) (dd p2 e.toNat fun _=>
 nam (List.set p2 e.toNat (D.bool true)) fun g=>
 Ct (w6 (p0-1)) p1 g))
 (Ct (w6 (p0-1)) p1 p2))
 (
 br (d==7)
 (
 grd (decide (0<=e)&&decide (e<ni p2.length)) (dd p2 e.toNat fun _=>
 nam (List.set p2 e.toNat (D.bool true)) fun g=>
 Ct (w6 (p0-1)) p1 g))
 (Ct (w6 (p0-1)) p1 p2))))))))
 (some ((.os (1,0) p2),[])):=by
 exact(zQ _ _ _).trans (by kernel_rfl)
theorem Tt (a0_0 a0_1 a0_2:List D)(a1_:ByteArray):V 78 [.agg [.rs (5,0) a0_0,.rs (4,0) a0_1,.rs (3,0) a0_2],.str a1_] =
 Ir 129 [.agg [.rs (5,0) a0_0,.rs (4,0) a0_1,.rs (3,0) a0_2],.str a1_] fun a=>(ck1 59 [.agg [.rs (5,0) a0_0,.rs (4,0) a0_1,.rs (3,0) a0_2]] fun b=>(br (!b)
 (some ((.tup [.agg [.os (5,0) [],iN (0),iN (0),iN (0),iN (0),iN (0),iN (0),iN (0)],.bool false]),[]))
 (
 br (decide (a<0))
 (some ((.tup [.agg [.os (5,0) [],iN (0),iN (0),iN (0),iN (0),iN (0),iN (0),iN (0)],.bool false]),[]))
 (
 grd (decide (0<=a)&&decide (a<ni a0_2.length)) (dd a0_2 a.toNat fun c=>
 asAgg c fun d=>dd d 2 fun e=>
 asI .i64 e fun f=>br (f != 0)
 (some ((.tup [.agg [.os (5,0) [],iN (0),iN (0),iN (0),iN (0),iN (0),iN (0),iN (0)],.bool false]),[]))
 (
 grd (decide (0<=a)&&decide (a<ni a0_2.length)) (dd a0_2 a.toNat fun g=>
 asAgg g fun h=>dd h 1 fun i=>
 asI .i64 i fun j=>some ((.tup [(.agg [(.os (5,0) [.agg [iN (1),iN (0),.str ({ data:=#[] }),iN (0),iN (0)],(.agg [iN (5),iN (0),.str ({ data:=#[] }),iN (0),iN (0)])]),iN j,iN (0),iN (1),iN (0),iN (0),iN (0),iN (0)]),.bool true]),[])))))))):=by
 exact(zR Tryz.func78 rfl _).trans (by kernel_rfl)
theorem EF (p0:List D)(p1 p2:Int)(p3 p4 p5:List D):D7 p0 p1 p2 p3 p4 p5 =
 br (decide (p1<ni p0.length))
 (
 grd (decide (0<=p1)&&decide (p1<ni p0.length)) (dd p0 p1.toNat fun a=>
 asI .i64 a fun b=>ck4 215 [.op [.os (5,0) p3,.os (4,0) p4,.os (3,0) p5,iN p2],iN b] fun c d e f=>(((br (f==3)
 (some ((.tup [.agg [.os (5,0) [],.os (4,0) [],.os (3,0) []],iN (3),iN (0)]),[]))
 (
 br (f != 0)
 (some ((.tup [.agg [.os (5,0) [],.os (4,0) [],.os (3,0) []],iN f,iN p1]),[]))
 (D7 p0 (w6 (p1+1)) f c d e)))))))
 (ck1 59 [.agg [.rs (5,0) p3,.rs (4,0) p4,.rs (3,0) p5]] fun a=>(br (!a)
 (some ((.tup [.agg [.os (5,0) [],.os (4,0) [],.os (3,0) []],iN (3),iN (0)]),[]))
 (some ((.tup [.agg [.os (5,0) p3,.os (4,0) p4,.os (3,0) p5],iN (0),(iN (ni p0.length))]),[])))):=by
 exact(zQ _ _ _).trans (by kernel_rfl)
theorem Zt (p l d:List D)(h io im ii:Int)(is:ByteArray):V 237 [.op [.os (5,0) p,.os (4,0) l,.os (3,0) d,iN h],.agg [iN io,iN im,iN ii,.str is]] =
 br (h==0)
 (
 br (ni l.length==400)
 (some ((iN (0)),[.op [.os (5,0) p,.os (4,0) l,.os (3,0) d,iN (3)]]))
 (
 br (h != 0)
 (some ((iN (0)),[.op [.os (5,0) p,.os (4,0) l,.os (3,0) d,iN h]]))
 (
 grd (decide (ni (List.length (l++[D.agg [iN io,iN im,iN ii,D.str is]]))<=LIM)) (nam (l++[D.agg [iN io,iN im,iN ii,D.str is]]) fun a=>
 some ((iN (w6 (ni a.length-1))),[.op [.os (5,0) p,.os (4,0) a,.os (3,0) d,iN h]])))))
 (
 br (h != 0)
 (some ((iN (0)),[.op [.os (5,0) p,.os (4,0) l,.os (3,0) d,iN h]]))
 (
 grd (decide (ni (List.length (l++[D.agg [iN io,iN im,iN ii,D.str is]]))<=LIM)) (nam (l++[D.agg [iN io,iN im,iN ii,D.str is]]) fun a=>
 some ((iN (w6 (ni a.length-1))),[.op [.os (5,0) p,.os (4,0) a,.os (3,0) d,iN h]])))):=by
 exact(zR Tryz.func237 rfl _).trans (by kernel_rfl)
theorem Ke (p0:List D)(p1 p2:Int)(p3 p4 p5 p6:List D):CI p0 p1 p2 p3 p4 p5 p6 =
 br (decide (p1<ni p0.length))
 (
 br (p2==0)
 (
 grd (decide (0<=p1)&&decide (p1<ni p0.length)) (dd p0 p1.toNat fun a=>
 asI .i64 a fun b=>aeH 230 [.op [.os (5,0) p4,.os (4,0) p5,.os (3,0) p6,iN p2],iN b] fun c d e f g h=>(((br (!d)
 (
 grd (decide (ni (List.length (p3++[D.str c]))<=LIM)) (nam (p3++[D.str c]) fun i=>
 CI p0 (w6 (p1+1)) (1) i e f g))
 (
 grd (decide (ni (List.length (p3++[D.str c]))<=LIM)) (nam (p3++[D.str c]) fun i=>
 CI p0 (w6 (p1+1)) h i e f g)))))))
 (Cn (0) p2 p3 p4 p5 p6))
 (Cn (0) p2 p3 p4 p5 p6):=by
 exact(zQ _ _ _).trans (by kernel_rfl)
theorem Kr (p:List D)(m1 m2 m3 m4 m5 m6 m7:Int)(cp cl cd:List D) :V 182 [.op [.os (5,0) p,iN m1,iN m2,iN m3,iN m4,iN m5,iN m6,iN m7,.rs (5,0) cp,.rs (4,0) cl,.rs (3,0) cd]] =
 grd (decide (0<=m2)&&decide (m2<ni p.length)) (dd p m2.toNat fun a=>
 tk2 a fun b _ _ c d=>(br (b != 5)
 (some ((.tup [iN (0),.bool false]),[.op [.os (5,0) p,iN m1,iN m2,iN m3,iN m4,iN m5,iN m6,iN m7,.rs (5,0) cp,.rs (4,0) cl,.rs (3,0) cd]]))
 (some ((.tup [iN c,.bool true]),[.op [.os (5,0) p,iN m1,iN d,iN m3,iN m4,iN m5,iN m6,iN m7,.rs (5,0) cp,.rs (4,0) cl,.rs (3,0) cd]])))):=by
 exact(zR Tryz.func182 rfl _).trans (by kernel_rfl)
theorem Y0 (a0_0:List D)(a0_1 a0_2 a0_3 a0_4 a0_5 a0_6 a0_7 a1_:Int):V 92 [.agg [.rs (5,0) a0_0,iN a0_1,iN a0_2,iN a0_3,iN a0_4,iN a0_5,iN a0_6,iN a0_7],iN a1_] =
 ck7 63 [.agg [.rs (5,0) a0_0,iN a0_1,iN a0_2,iN a0_3,iN a0_4,iN a0_5,iN a0_6,iN a0_7]] fun a _ b c d _ _ _=>((some ((.agg [.os (5,0) a,iN (0),iN b,iN c,iN d,iN (3),iN a1_,iN (0)]),[]))):=by
 exact(zR Tryz.func92 rfl _).trans (by kernel_rfl)
theorem Zp (a0_:ByteArray):V 212 [.str a0_] =
 br (kJ a0_ { data:=#[35,116] })
 (some ((.tup [.agg [iN (2),iN (1),.str ({ data:=#[] }),iN (0),iN (0)],.bool true]),[]))
 (
 br (kJ a0_ { data:=#[35,102] })
 (some ((.tup [.agg [iN (2),iN (0),.str ({ data:=#[] }),iN (0),iN (0)],.bool true]),[]))
 (aca 227 [.str a0_] fun a b=>((br b
 (some ((.tup [.agg [iN (3),iN a,.str ({ data:=#[] }),iN (0),iN (0)],.bool true]),[]))
 (ck1 128 [.str a0_] fun c=>(some ((.tup [.agg [iN (4),iN (0),.str a0_,iN (0),iN (0)],.bool c]),[]))))))):=by
 exact(zR Tryz.func212 rfl _).trans (by kernel_rfl)
theorem Xp :V 239 [] =
 some ((.os (1,0) [.str ({ data:=#[] }),.str ({ data:=#[43] }),.str ({ data:=#[45] }),.str ({ data:=#[42] }),.str ({ data:=#[60] }),.str ({ data:=#[61] }),.str ({ data:=#[99,111,110,115] }),.str ({ data:=#[99,97,114] }),.str ({ data:=#[99,100,114] }),.str ({ data:=#[110,117,108,108,63] }),.str ({ data:=#[112,97,105,114,63] }),.str ({ data:=#[101,113,63] }),.str ({ data:=#[110,111,116] }),.str ({ data:=#[112,114,105,110,116] }),.str ({ data:=#[115,101,108,102] }),.str ({ data:=#[115,101,110,100] }),.str ({ data:=#[114,101,99,118] }),.str ({ data:=#[115,112,97,119,110] }),.str ({ data:=#[99,97,108,108,99,99] }),.str ({ data:=#[103,111] })]),[]):=by
 exact(zR Tryz.func239 rfl _).trans (by kernel_rfl)
theorem Q9 (p0:Int)(p1:List D):GT p0 p1 =
 br (decide (p0>127))
 (
 grd (!decide (128=0)) (grd (decide (ni (List.length (p1++[D.int IntKind.u8 (IntKind.wrap IntKind.u8 (w6 (Int.tmod p0 (128)+128)))]))<=LIM)) (nam (p1++[D.int IntKind.u8 (IntKind.wrap IntKind.u8 (w6 (Int.tmod p0 (128)+128)))]) fun a=>
 grd (!decide (128=0)) (GT (w6 (Int.tdiv p0 (128))) a))))
 (
 grd (decide (ni (List.length (p1++[D.int IntKind.u8 (IntKind.wrap IntKind.u8 p0)]))<=LIM)) (nam (p1++[D.int IntKind.u8 (IntKind.wrap IntKind.u8 p0)]) fun a=>
 some ((.os (1,0) a),[]))):=by
 exact(zQ _ _ _).trans (by kernel_rfl)
theorem acq (p l d:List D)(h x:Int):V 253 [.op [.os (5,0) p,.os (4,0) l,.os (3,0) d,iN h],iN x] =
 br (h==0)
 (
 grd (decide (0<=x)&&decide (x<ni l.length)) (dd l x.toNat fun a=>
 asAgg a fun b=>nam (List.set l x.toNat (D.agg (List.take 1 b++[iN (ni l.length)]++List.drop 2 b))) fun c=>
 some ((.tup []),[.op [.os (5,0) p,.os (4,0) c,.os (3,0) d,iN h]])))
 (some ((.tup []),[.op [.os (5,0) p,.os (4,0) l,.os (3,0) d,iN h]])):=by
 exact(zR Tryz.func253 rfl _).trans (by kernel_rfl)
theorem ZD (a0_0:List D)(a0_1 a0_2 a0_3 a0_4 a0_5 a0_6 a0_7:Int):V 85 [.agg [.rs (5,0) a0_0,iN a0_1,iN a0_2,iN a0_3,iN a0_4,iN a0_5,iN a0_6,iN a0_7]] =
 Fi 147 [.agg [.rs (5,0) a0_0]] fun a=>((some ((.agg [.os (5,0) a,iN a0_1,iN a0_2,iN a0_3,iN a0_4,iN a0_5,iN a0_6,iN a0_7]),[]))):=by
 exact(zR Tryz.func85 rfl _).trans (by kernel_rfl)
theorem Uz (p:List D)(a b:Int):V 94 [.op [.os (5,0) p],iN a,iN b] =
 AP 157 [.op [.os (5,0) p],(.agg [iN (5),iN (0),.str ({ data:=#[] }),iN a,iN b])] fun c d=>((some ((iN c),[.op [.os (5,0) d]]))):=by
 exact(zR Tryz.func94 rfl _).trans (by kernel_rfl)
theorem acj (a0_0 a1_:List D):V 66 [.agg [.rs (5,0) a0_0],.rs (1,0) a1_] =
 aav 137 [.op [.os (5,0) []],(.agg [.rs (5,0) a0_0]),.rs (1,0) a1_] fun a b=>((JQ a1_ (ni a1_.length) (0) a [] b)):=by
 exact(zR Tryz.func66 rfl _).trans (by kernel_rfl)
theorem aaK (a0_0 a0_1 a0_2:List D)(a1_:ByteArray):V 125 [.agg [.rs (5,0) a0_0,.rs (4,0) a0_1,.rs (3,0) a0_2],.str a1_] =
 Ir 178 [.rs (3,0) a0_2,(.fn 179 [(.bp [.str a1_])])] fun a=>(some ((iN a),[])):=by
 exact(zR Tryz.func125 rfl _).trans (by kernel_rfl)
theorem Y6 (a0_0:List D)(a1_:Int):V 56 [.agg [.rs (5,0) a0_0],iN a1_] =
 ck1 58 [iN a1_,iN (0),(iN (w6 (ni a0_0.length-1)))] fun a=>(some ((.bool a),[])):=by
 exact(zR Tryz.func56 rfl _).trans (by kernel_rfl)
theorem GC (a0_:List D):V 181 [.rs (5,0) a0_] =
 xh a0_
 (some ((.os (5,0) []),[]))
 (
 grd (decide (ni (List.length ([]++a0_))<=LIM)) (nam ([]++a0_) fun a=>
 some ((.os (5,0) a),[]))):=by
 exact(zR Tryz.func181 rfl _).trans (by kernel_rfl)
theorem Vq (a0_0:List D):V 131 [.agg [.rs (5,0) a0_0]] =
 agJ 181 [.rs (5,0) a0_0] fun a=>(some ((.agg [.os (5,0) a]),[])):=by
 exact(zR Tryz.func131 rfl _).trans (by kernel_rfl)
theorem aeX (a:ByteArray)(b c:Int)(s:ByteArray):V 179 [.agg [.str a,iN b,iN c],.bp [.str s]] =
 some ((.bool (kJ a s)),[]):=by
 exact(zR Tryz.func179 rfl _).trans (by kernel_rfl)
theorem aaX (a0_0:List D)(a1_ a2_:Int):V 216 [.agg [.rs (5,0) a0_0],iN a1_,iN a2_] =
 I9 a1_ a2_ a0_0:=by
 exact(zR Tryz.func216 rfl _).trans (by kernel_rfl)
theorem W9 (a0_0:List D):V 247 [.agg [.rs (5,0) a0_0]] =
 Au a0_0 (ni a0_0.length) (0) [] []:=by
 exact(zR Tryz.func247 rfl _).trans (by kernel_rfl)
theorem Zg (a0_0:List D):V 60 [.agg [.rs (5,0) a0_0]] =
 GP (0) a0_0:=by
 exact(zR Tryz.func60 rfl _).trans (by kernel_rfl)

end Go.Eng
/-! the functions as the interpreter has them -/
namespace Go.Eng
open Go.Proofs Go.Proofs.Tryz
set_option maxRecDepth 100000
theorem RE (b:List D)(i:Int)(k:Bool) :V 141 [.op [.os (1,0) b,iN i,.bool k]] =
 ck8 71 [.op [.os (1,0) b,iN i,.bool k]] fun a c d e=>((br (a==2)
 (
 br (a==2)
 (ck8 71 [.op [.os (1,0) c,iN d,.bool e]] fun f g h j=>((some ((.agg [iN a,iN f,.str ({ data:=#[] }),iN (0),iN (0)]),[.op [.os (1,0) g,iN h,.bool j]]))))
 (
 br (a==3)
 (ck8 71 [.op [.os (1,0) c,iN d,.bool e]] fun f g h j=>((some ((.agg [iN a,(iN (w6 (f-1000000000))),.str ({ data:=#[] }),iN (0),iN (0)]),[.op [.os (1,0) g,iN h,.bool j]]))))
 (
 br (a==4)
 (aeL 190 [.op [.os (1,0) c,iN d,.bool e]] fun f g h j=>((some ((.agg [iN a,iN (0),.str f,iN (0),iN (0)]),[.op [.os (1,0) g,iN h,.bool j]]))))
 (
 br (a==5)
 (ck8 71 [.op [.os (1,0) c,iN d,.bool e]] fun f g h j=>((ck8 71 [.op [.os (1,0) g,iN h,.bool j]] fun l m n o=>((some ((.agg [iN a,iN (0),.str ({ data:=#[] }),iN f,iN l]),[.op [.os (1,0) m,iN n,.bool o]]))))))
 (
 br (a==6)
 (ck8 71 [.op [.os (1,0) c,iN d,.bool e]] fun f g h j=>((ck8 71 [.op [.os (1,0) g,iN h,.bool j]] fun l m n o=>((some ((.agg [iN a,iN f,.str ({ data:=#[] }),iN l,iN (0)]),[.op [.os (1,0) m,iN n,.bool o]]))))))
 (
 br (a==7)
 (ck8 71 [.op [.os (1,0) c,iN d,.bool e]] fun f g h j=>((some ((.agg [iN a,iN (0),.str ({ data:=#[] }),iN f,iN (0)]),[.op [.os (1,0) g,iN h,.bool j]]))))
 (some ((.agg [iN a,iN (0),.str ({ data:=#[] }),iN (0),iN (0)]),[.op [.os (1,0) c,iN d,.bool e]]))))))))
 (
 br (a==8)
 (
 br (a==8)
 (ck8 71 [.op [.os (1,0) c,iN d,.bool e]] fun f g h j=>((some ((.agg [iN a,iN f,.str ({ data:=#[] }),iN (0),iN (0)]),[.op [.os (1,0) g,iN h,.bool j]]))))
 (
 br (a==3)
 (ck8 71 [.op [.os (1,0) c,iN d,.bool e]] fun f g h j=>((some ((.agg [iN a,(iN (w6 (f-1000000000))),.str ({ data:=#[] }),iN (0),iN (0)]),[.op [.os (1,0) g,iN h,.bool j]]))))
 (
 br (a==4)
 (aeL 190 [.op [.os (1,0) c,iN d,.bool e]] fun f g h j=>((some ((.agg [iN a,iN (0),.str f,iN (0),iN (0)]),[.op [.os (1,0) g,iN h,.bool j]]))))
 (
 br (a==5)
 (ck8 71 [.op [.os (1,0) c,iN d,.bool e]] fun f g h j=>((ck8 71 [.op [.os (1,0) g,iN h,.bool j]] fun l m n o=>((some ((.agg [iN a,iN (0),.str ({ data:=#[] }),iN f,iN l]),[.op [.os (1,0) m,iN n,.bool o]]))))))
 (
 br (a==6)
 (ck8 71 [.op [.os (1,0) c,iN d,.bool e]] fun f g h j=>((ck8 71 [.op [.os (1,0) g,iN h,.bool j]] fun l m n o=>((some ((.agg [iN a,iN f,.str ({ data:=#[] }),iN l,iN (0)]),[.op [.os (1,0) m,iN n,.bool o]]))))))
 (
 br (a==7)
 (ck8 71 [.op [.os (1,0) c,iN d,.bool e]] fun f g h j=>((some ((.agg [iN a,iN (0),.str ({ data:=#[] }),iN f,iN (0)]),[.op [.os (1,0) g,iN h,.bool j]]))))
 (some ((.agg [iN a,iN (0),.str ({ data:=#[] }),iN (0),iN (0)]),[.op [.os (1,0) c,iN d,.bool e]]))))))))
 (
 br (a==9)
 (ck8 71 [.op [.os (1,0) c,iN d,.bool e]] fun f g h j=>((some ((.agg [iN a,iN f,.str ({ data:=#[] }),iN (0),iN (0)]),[.op [.os (1,0) g,iN h,.bool j]]))))
 (
 br (a==3)
 (ck8 71 [.op [.os (1,0) c,iN d,.bool e]] fun f g h j=>((some ((.agg [iN a,(iN (w6 (f-1000000000))),.str ({ data:=#[] }),iN (0),iN (0)]),[.op [.os (1,0) g,iN h,.bool j]]))))
 (
 br (a==4)
 (aeL 190 [.op [.os (1,0) c,iN d,.bool e]] fun f g h j=>((some ((.agg [iN a,iN (0),.str f,iN (0),iN (0)]),[.op [.os (1,0) g,iN h,.bool j]]))))
 (
 br (a==5)
 (ck8 71 [.op [.os (1,0) c,iN d,.bool e]] fun f g h j=>((ck8 71 [.op [.os (1,0) g,iN h,.bool j]] fun l m n o=>((some ((.agg [iN a,iN (0),.str ({ data:=#[] }),iN f,iN l]),[.op [.os (1,0) m,iN n,.bool o]]))))))
 (
 br (a==6)
 (ck8 71 [.op [.os (1,0) c,iN d,.bool e]] fun f g h j=>((ck8 71 [.op [.os (1,0) g,iN h,.bool j]] fun l m n o=>((some ((.agg [iN a,iN f,.str ({ data:=#[] }),iN l,iN (0)]),[.op [.os (1,0) m,iN n,.bool o]]))))))
 (
 br (a==7)
 (ck8 71 [.op [.os (1,0) c,iN d,.bool e]] fun f g h j=>((some ((.agg [iN a,iN (0),.str ({ data:=#[] }),iN f,iN (0)]),[.op [.os (1,0) g,iN h,.bool j]]))))
 (some ((.agg [iN a,iN (0),.str ({ data:=#[] }),iN (0),iN (0)]),[.op [.os (1,0) c,iN d,.bool e]]))))))))))):=by
 exact(zR Tryz.func141 rfl _).trans (by kernel_rfl)
theorem GH (p0:List D)(p1 p2:Int)(p3 p4 p5:List D):AK p0 p1 p2 p3 p4 p5 =
 br (decide (p2<p1))
 (
 grd (decide (0<=p2)&&decide (p2<ni p0.length)) (dd p0 p2.toNat fun a=>
 tk2 a fun b c d e f=>(grd (decide (0<=p2)&&decide (p2<ni p3.length)) (dd p3 p2.toNat fun _=>
 nam (List.set p3 p2.toNat (iN (-1))) fun g=>
 grd (decide (0<=p2)&&decide (p2<ni p4.length)) (dd p4 p2.toNat fun h=>
 asB h fun i=>br (!i)
 (AK p0 p1 (w6 (p2+1)) g p4 p5)
 (
 br (b==5)
 (
 grd (decide (0<=e)&&decide (e<ni g.length)) (dd g e.toNat fun j=>
 asI .i64 j fun k=>grd (decide (0<=f)&&decide (f<ni g.length)) (dd g f.toNat fun l=>
 asI .i64 l fun m=>AP 157 [.op [.os (5,0) p5],.agg [iN b,iN c,.str d,iN k,iN m]] fun n o=>((grd (decide (0<=p2)&&decide (p2<ni g.length)) (dd g p2.toNat fun _=>
 nam (List.set g p2.toNat (iN n)) fun p=>
 AK p0 p1 (w6 (p2+1)) p p4 o))))))
 (
 br (b==6)
 (
 br (b==6)
 (
 grd (decide (0<=e)&&decide (e<ni g.length)) (dd g e.toNat fun j=>
 asI .i64 j fun k=>AP 157 [.op [.os (5,0) p5],.agg [iN b,iN c,.str d,iN k,iN f]] fun l m=>((grd (decide (0<=p2)&&decide (p2<ni g.length)) (dd g p2.toNat fun _=>
 nam (List.set g p2.toNat (iN l)) fun n=>
 AK p0 p1 (w6 (p2+1)) n p4 m)))))
 (AP 157 [.op [.os (5,0) p5],.agg [iN b,iN c,.str d,iN e,iN f]] fun j k=>((grd (decide (0<=p2)&&decide (p2<ni g.length)) (dd g p2.toNat fun _=>
 nam (List.set g p2.toNat (iN j)) fun l=>
 AK p0 p1 (w6 (p2+1)) l p4 k)))))
 (
 br (b==7)
 (
 grd (decide (0<=e)&&decide (e<ni g.length)) (dd g e.toNat fun j=>
 asI .i64 j fun k=>AP 157 [.op [.os (5,0) p5],.agg [iN b,iN c,.str d,iN k,iN f]] fun l m=>((grd (decide (0<=p2)&&decide (p2<ni g.length)) (dd g p2.toNat fun _=>
 nam (List.set g p2.toNat (iN l)) fun n=>
 AK p0 p1 (w6 (p2+1)) n p4 m)))))
 (AP 157 [.op [.os (5,0) p5],.agg [iN b,iN c,.str d,iN e,iN f]] fun j k=>((grd (decide (0<=p2)&&decide (p2<ni g.length)) (dd g p2.toNat fun _=>
 nam (List.set g p2.toNat (iN j)) fun l=>
 AK p0 p1 (w6 (p2+1)) l p4 k))))))))))))
 (some ((.os (1,0) p3),[.op [.os (5,0) p5]])):=by
 exact(zQ _ _ _).trans (by kernel_rfl)
theorem Lp (p0:List D)(p1:Int)(p2 p3 p4:List D):BZ p0 p1 p2 p3 p4 =
 br (decide (p1<ni p2.length))
 (
 grd (decide (0<=p1)&&decide (p1<ni p0.length)) (dd p0 p1.toNat fun a=>
 asB a fun b=>br (!b)
 (BZ p0 (w6 (p1+1)) p2 p3 p4)
 (
 grd (decide (0<=p1)&&decide (p1<ni p2.length)) (dd p2 p1.toNat fun c=>
 tk2 c fun d e f g h=>(br (d==5)
 (
 grd (decide (0<=g)&&decide (g<ni p3.length)) (dd p3 g.toNat fun i=>
 asI .i64 i fun j=>grd (decide (0<=h)&&decide (h<ni p3.length)) (dd p3 h.toNat fun k=>
 asI .i64 k fun l=>AP 158 [.op [.os (5,0) p4],.agg [iN d,iN e,.str f,iN j,iN l]] fun m n=>((grd (decide (0<=p1)&&decide (p1<ni p3.length)) (dd p3 p1.toNat fun _=>
 nam (List.set p3 p1.toNat (iN m)) fun o=>
 BZ p0 (w6 (p1+1)) p2 o n))))))
 (
 br (d==6)
 (
 br (d==6)
 (
 grd (decide (0<=g)&&decide (g<ni p3.length)) (dd p3 g.toNat fun i=>
 asI .i64 i fun j=>AP 158 [.op [.os (5,0) p4],.agg [iN d,iN e,.str f,iN j,iN h]] fun k l=>((grd (decide (0<=p1)&&decide (p1<ni p3.length)) (dd p3 p1.toNat fun _=>
 nam (List.set p3 p1.toNat (iN k)) fun m=>
 BZ p0 (w6 (p1+1)) p2 m l)))))
 (AP 158 [.op [.os (5,0) p4],.agg [iN d,iN e,.str f,iN g,iN h]] fun i j=>((grd (decide (0<=p1)&&decide (p1<ni p3.length)) (dd p3 p1.toNat fun _=>
 nam (List.set p3 p1.toNat (iN i)) fun k=>
 BZ p0 (w6 (p1+1)) p2 k j)))))
 (
 br (d==7)
 (
 grd (decide (0<=g)&&decide (g<ni p3.length)) (dd p3 g.toNat fun i=>
 asI .i64 i fun j=>AP 158 [.op [.os (5,0) p4],.agg [iN d,iN e,.str f,iN j,iN h]] fun k l=>((grd (decide (0<=p1)&&decide (p1<ni p3.length)) (dd p3 p1.toNat fun _=>
 nam (List.set p3 p1.toNat (iN k)) fun m=>
 BZ p0 (w6 (p1+1)) p2 m l)))))
 (AP 158 [.op [.os (5,0) p4],.agg [iN d,iN e,.str f,iN g,iN h]] fun i j=>((grd (decide (0<=p1)&&decide (p1<ni p3.length)) (dd p3 p1.toNat fun _=>
 nam (List.set p3 p1.toNat (iN i)) fun k=>
 BZ p0 (w6 (p1+1)) p2 k j)))))))))))
 (some ((.os (1,0) p3),[.op [.os (5,0) p4]])):=by
 exact(zQ _ _ _).trans (by kernel_rfl)
theorem Zz (p:List D)(m1 m2 m3 m4 m5 m6 m7:Int) :V 220 [.op [.os (5,0) p,iN m1,iN m2,iN m3,iN m4,iN m5,iN m6,iN m7]] =
 aau 218 [.op [.os (5,0) p,iN m1,iN m2,iN m3,iN m4,iN m5,iN m6,iN m7]] fun a b c d e f g h i j=>(((br (!b)
 (some ((iN (7)),[.op [.os (5,0) c,iN d,iN e,iN f,iN g,iN h,iN i,iN j]]))
 (
 grd (decide (0<=g)&&decide (g<ni c.length)) (dd c g.toNat fun k=>
 tk2 k fun l _ _ m n=>(br (l==1)
 (some ((iN (0)),[.op [.os (5,0) c,iN (0),iN e,iN f,iN g,iN (2),iN i,iN a]]))
 (
 br (l != 5)
 (some ((iN (7)),[.op [.os (5,0) c,iN d,iN e,iN f,iN g,iN h,iN i,iN j]]))
 (aeI 234 [.agg [.rs (5,0) c],iN m,iN (3)] fun o q r=>((br (!r)
 (some ((iN (7)),[.op [.os (5,0) c,iN d,iN e,iN f,iN g,iN h,iN i,iN j]]))
 (
 grd (decide (0<=0)&&decide (0<ni q.length)) (dd q 0 fun s=>
 asI .i64 s fun t=>grd (decide (0<=1)&&decide (1<ni q.length)) (dd q 1 fun u=>
 asI .i64 u fun v=>Uw 95 [.op [.os (5,0) c,iN o,iN t,iN v,iN n,iN h,iN i,iN j],iN a] fun w x y z A B C E=>(((some ((iN (0)),[.op [.os (5,0) w,iN x,iN y,iN z,iN A,iN B,iN C,iN E]]))))))))))))))))):=by
 exact(zR Tryz.func220 rfl _).trans (by kernel_rfl)
theorem Mu (p0 p1:Int)(p2:List D)(p3 p4:Int)(p5 p6 p7:List D)(p8 p9 p10 p11 p12 p13 p14 p15 p16 p17 p18 p19 p20 p21:Int)(p22:List D):Gc p0 p1 p2 p3 p4 p5 p6 p7 p8 p9 p10 p11 p12 p13 p14 p15 p16 p17 p18 p19 p20 p21 p22 =
 br (decide (p1<p0))
 (
 br (p12==1)
 (aax 201 [.op [.rs (1,0) p2,iN p3,iN p4]] fun a b c d e f g h=>(((ck7 32 [.agg [.rs (5,0) p5,.rs (4,0) p6,.rs (3,0) p7],(.agg [.rs (5,0) p22,iN p8,iN p9,iN p10,iN p11,iN p12,iN p13,iN p14]),(.agg [.rs (5,0) [.agg [(iN a),iN b,.str c,iN d,iN e]]]),iN (0)] fun i j k l m n o p=>((Gc p0 (w6 (p1+1)) f g h p5 p6 p7 j k l m n o p p15 p16 p17 p18 p19 p20 p21 i))))))
 (ck7 89 [.agg [.rs (5,0) p5,.rs (4,0) p6,.rs (3,0) p7],(.agg [.rs (5,0) p22,iN p8,iN p9,iN p10,iN p11,iN p12,iN p13,iN p14])] fun a b c d e f g h=>((Gc p0 (w6 (p1+1)) p2 p3 p4 p5 p6 p7 b c d e f g h p15 p16 p17 p18 p19 p20 p21 a))))
 (some ((.agg [.os (5,0) p22,iN p8,iN p9,iN p10,iN p11,iN p12,iN p13,iN p14]),[.op [.rs (1,0) p2,iN p3,iN p4]])):=by
 exact(zQ _ _ _).trans (by kernel_rfl)
theorem ach (a0_0 a0_1 a0_2 a1_0:List D)(a1_1 a1_2 a1_3 a1_4 a1_5 a1_6 a1_7:Int):V 17 [.agg [.rs (5,0) a0_0,.rs (4,0) a0_1,.rs (3,0) a0_2],.agg [.rs (5,0) a1_0,iN a1_1,iN a1_2,iN a1_3,iN a1_4,iN a1_5,iN a1_6,iN a1_7]] =
 ck1 14 [.agg [.rs (5,0) a0_0,.rs (4,0) a0_1,.rs (3,0) a0_2],(.agg [.rs (5,0) a1_0,iN a1_1,iN a1_2,iN a1_3,iN a1_4,iN a1_5,iN a1_6,iN a1_7])] fun a=>(br (!a)
 (some ((.agg [.os (5,0) [],iN (0),iN (0),iN (0),iN (0),iN (3),iN (7),iN (0)]),[]))
 (
 br (a1_5 != 0)
 (ck7 63 [.agg [.rs (5,0) a1_0,iN a1_1,iN a1_2,iN a1_3,iN a1_4,iN a1_5,iN a1_6,iN a1_7]] fun b c d e f g h i=>((some ((.agg [.os (5,0) b,iN c,iN d,iN e,iN f,iN g,iN h,iN i]),[]))))
 (ck7 64 [.agg [.rs (5,0) a0_0,.rs (4,0) a0_1,.rs (3,0) a0_2],(.agg [.rs (5,0) a1_0,iN a1_1,iN a1_2,iN a1_3,iN a1_4,iN a1_5,iN a1_6,iN a1_7])] fun b c d e f g h i=>((some ((.agg [.os (5,0) b,iN c,iN d,iN e,iN f,iN g,iN h,iN i]),[])))))):=by
 exact(zR Tryz.func17 rfl _).trans (by kernel_rfl)
theorem Kg (p0:Int)(p1 p2:List D):BJ p0 p1 p2 =
 br (decide (p0>=0))
 (
 grd (decide (0<=p0)&&decide (p0<ni p1.length)) (dd p1 p0.toNat fun a=>
 tk2 a fun b _ _ c d=>(grd (decide (0<=p0)&&decide (p0<ni p2.length)) (dd p2 p0.toNat fun e=>
 asB e fun f=>br (!f)
 (BJ (w6 (p0-1)) p1 p2)
 (
 br (b==5)
 (
 grd (decide (0<=c)&&decide (c<ni p2.length)) (dd p2 c.toNat fun _=>
 nam (List.set p2 c.toNat (D.bool true)) fun g=>
 grd (decide (0<=d)&&decide (d<ni g.length)) (dd g d.toNat fun _=>
 nam (List.set g d.toNat (D.bool true)) fun h=>
 BJ (w6 (p0-1)) p1 h)))
 (
 br (b==6)
 (
 br (b==6)
 (
 grd (decide (0<=c)&&decide (c<ni p2.length)) (dd p2 c.toNat fun _=>
 nam (List.set p2 c.toNat (D.bool true)) fun g=>
 BJ (w6 (p0-1)) p1 g))
 (BJ (w6 (p0-1)) p1 p2))
 (
 br (b==7)
 (
 grd (decide (0<=c)&&decide (c<ni p2.length)) (dd p2 c.toNat fun _=>
 nam (List.set p2 c.toNat (D.bool true)) fun g=>
 BJ (w6 (p0-1)) p1 g))
 (BJ (w6 (p0-1)) p1 p2))))))))
 (some ((.os (1,0) p2),[])):=by
 exact(zQ _ _ _).trans (by kernel_rfl)
theorem Tp (a0_:List D):V 13 [.rs (1,0) a0_] =
 agH 51 [.rs (1,0) a0_] fun a b c=>((afR 52 [.op [.rs (1,0) a,iN b,iN c]] fun d e f g h i j k l m n o p q=>(((((ck9 53 [.op [.rs (1,0) o,iN p,iN q]] fun r _ _ _=>((some ((.tup [.agg [.rs (5,0) d,.rs (4,0) e,.rs (3,0) f],(.agg [.rs (5,0) g,iN h,iN i,iN j,iN k,iN l,iN m,iN n]),iN r]),[])))))))))):=by
 exact(zR Tryz.func13 rfl _).trans (by kernel_rfl)
theorem Kc (p0:List D)(p1 p2:Int)(p3 p4 p5 p6:List D):Dn p0 p1 p2 p3 p4 p5 p6 =
 br (decide (p1<ni p3.length))
 (
 grd (decide (0<=p1)&&decide (p1<ni p3.length)) (dd p3 p1.toNat fun a=>
 asI .i64 a fun b=>ck4 244 [.op [.os (5,0) p4,.os (4,0) p5,.os (3,0) p6,iN p2],iN b,.rs (1,1) p0] fun c d e f=>(((Dn p0 (w6 (p1+1)) f p3 c d e)))))
 (ck3 237 [.op [.os (5,0) p4,.os (4,0) p5,.os (3,0) p6,iN p2],(.agg [iN (7),iN (0),(iN (w6 (ni p3.length-1))),.str ({ data:=#[] })])] fun _ a b c d=>((some ((.tup []),[.op [.os (5,0) a,.os (4,0) b,.os (3,0) c,iN d]])))):=by
 exact(zQ _ _ _).trans (by kernel_rfl)
theorem J7 (p0:List D)(p1 p2:Int)(p3 p4 p5:List D):Gj p0 p1 p2 p3 p4 p5 =
 br (decide (p2<p1))
 (
 grd (decide (0<=p2)&&decide (p2<ni p0.length)) (dd p0 p2.toNat fun a=>
 tk1 a fun b c d=>(ck1 124 [.str b] fun e=>(br (!e)
 (some ((.bool false),[]))
 (Ir 125 [.agg [.rs (5,0) p3,.rs (4,0) p4,.rs (3,0) p5],.str b] fun f=>(br (f != p2)
 (some ((.bool false),[]))
 (ck1 58 [iN c,iN (0),(iN (w6 (ni p4.length-1)))] fun g=>(br (!g)
 (some ((.bool false),[]))
 (ck1 58 [iN d,iN (0),iN (4)] fun h=>(br (!h)
 (some ((.bool false),[]))
 (Gj p0 p1 (w6 (p2+1)) p3 p4 p5)))))))))))
 (some ((.bool true),[])):=by
 exact(zQ _ _ _).trans (by kernel_rfl)
theorem Nb (p0 p1:Int)(p2:List D)(p3 p4:Int):JJ p0 p1 p2 p3 p4 =
 br (decide (p1<p0))
 (aax 197 [.op [.rs (1,0) p2,iN p3,iN p4],iN p1] fun a b c d e f g h=>(((AP 158 [.op [.os (5,0) []],.agg [iN a,iN b,.str c,iN d,iN e]] fun _ i=>((Di p0 (w6 (p1+1)) f g h i))))))
 (some ((.agg [.os (5,0) []]),[.op [.rs (1,0) p2,iN p3,iN p4]])):=by
 exact(zQ _ _ _).trans (by kernel_rfl)
theorem Tw (a0_:Int):V 180 [.int .u8 a0_] =
 br (decide (a0_>=97))
 (
 br (decide (a0_<=122))
 (some ((.bool true),[]))
 (
 br (a0_==43)
 (some ((.bool true),[]))
 (
 br (a0_==45)
 (some ((.bool true),[]))
 (
 br (a0_==42)
 (some ((.bool true),[]))
 (
 br (a0_==60)
 (some ((.bool true),[]))
 (
 br (a0_==61)
 (some ((.bool true),[]))
 (
 br (a0_==63)
 (some ((.bool true),[]))
 (
 br (a0_==33)
 (some ((.bool true),[]))
 (some ((.bool (a0_==47)),[]))))))))))
 (
 br (a0_==43)
 (some ((.bool true),[]))
 (
 br (a0_==45)
 (some ((.bool true),[]))
 (
 br (a0_==42)
 (some ((.bool true),[]))
 (
 br (a0_==60)
 (some ((.bool true),[]))
 (
 br (a0_==61)
 (some ((.bool true),[]))
 (
 br (a0_==63)
 (some ((.bool true),[]))
 (
 br (a0_==33)
 (some ((.bool true),[]))
 (some ((.bool (a0_==47)),[]))))))))):=by
 exact(zR Tryz.func180 rfl _).trans (by kernel_rfl)
theorem Lf (p0:Int)(p1:List D):GP p0 p1 =
 br (decide (p0<ni p1.length))
 (
 grd (decide (0<=p0)&&decide (p0<ni p1.length)) (dd p1 p0.toNat fun a=>
 tk2 a fun b c d e f=>(ck1 130 [.agg [iN b,iN c,.str d,iN e,iN f],iN p0] fun g=>(br (!g)
 (some ((.bool false),[]))
 (GP (w6 (p0+1)) p1)))))
 (some ((.bool (decide (ni p1.length<=3000))),[])):=by
 exact(zQ _ _ _).trans (by kernel_rfl)
theorem Mj (p0:List D)(p1 p2:Int):IZ p0 p1 p2 =
 br (decide (p2<ni p0.length))
 (
 br (decide (p2<4000))
 (
 grd (decide (0<=p2)&&decide (p2<ni p0.length)) (dd p0 p2.toNat fun a=>
 asI .u8 a fun b=>IZ p0 (w6 (ni (BitVec.toNat (BitVec.ofInt (IntKind.bits IntKind.i64) (w6 (w6 (w6 (p1*131)+w6 b)+7)) &&& BitVec.ofInt (IntKind.bits IntKind.i64) (1073741823))))) (w6 (p2+1))))
 (some ((.op [.rs (1,0) p0,iN (0),iN p1]),[])))
 (some ((.op [.rs (1,0) p0,iN (0),iN p1]),[])):=by
 exact(zQ _ _ _).trans (by kernel_rfl)
theorem NQ (p0:List D)(p1 p2:Int)(p3 p4 p5:List D):JQ p0 p1 p2 p3 p4 p5 =
 br (decide (p2<p1))
 (
 grd (decide (0<=p2)&&decide (p2<ni p0.length)) (dd p0 p2.toNat fun a=>
 asI .i64 a fun b=>grd (decide (0<=b)&&decide (b<ni p3.length)) (dd p3 b.toNat fun c=>
 asI .i64 c fun d=>grd (decide (ni (List.length (p4++[iN d]))<=LIM)) (nam (p4++[iN d]) fun e=>
 JQ p0 p1 (w6 (p2+1)) p3 e p5))))
 (some ((.tup [.agg [.os (5,0) p5],.os (1,0) p4]),[])):=by
 exact(zQ _ _ _).trans (by kernel_rfl)
theorem Lh (p0:Int)(p1:List D)(p2 p3:Int)(p4:List D):CX p0 p1 p2 p3 p4 =
 br (decide (p0<ni p4.length))
 (
 grd (decide (0<=p0)&&decide (p0<ni p4.length)) (dd p4 p0.toNat fun a=>
 asAgg a fun b=>nam (List.set p4 p0.toNat (D.agg (List.take 0 b++[iN (1)]++List.drop 1 b))) fun c=>
 CX (w6 (p0+1)) p1 p2 p3 c))
 (some ((.agg [.os (5,0) p4]),[.op [.rs (1,0) p1,iN p2,iN p3]])):=by
 exact(zQ _ _ _).trans (by kernel_rfl)
theorem Uy (p l:List D):V 222 [.op [.os (5,0) p],.rs (1,0) l] =
 AP 157 [.op [.os (5,0) p],(.agg [iN (1),iN (0),.str ({ data:=#[] }),iN (0),iN (0)])] fun a b=>((EU l a (w6 (ni l.length-1)) b)):=by
 exact(zR Tryz.func222 rfl _).trans (by kernel_rfl)
theorem JK (p0:Int)(p1:ByteArray):Fx p0 p1 =
 br (decide (p0>0))
 (grd (!decide (10=0)) (gN ([D.int IntKind.u8 (IntKind.wrap IntKind.u8 (w6 (48+Int.tmod p0 (10))))]) fun a=>grd (decide (ni (ByteArray.size a+ByteArray.size p1)<=LIM)) (grd (!decide (10=0)) (Fx (w6 (Int.tdiv p0 (10))) (a++p1)))))
 (some ((.str p1),[])):=by
 exact(zQ _ _ _).trans (by kernel_rfl)
theorem KU (p0:ByteArray)(p1 p2:Int):Fa p0 p1 p2 =
 br (decide (p2<p1))
 (grd (decide (0<=p2)&&decide (p2<ni (ByteArray.size p0))) (ck1 177 [.int .u8 (bt p0 p2)] fun a=>(br (!a)
 (some ((.bool false),[]))
 (Fa p0 p1 (w6 (p2+1))))))
 (some ((.bool true),[])):=by
 exact(zQ _ _ _).trans (by kernel_rfl)
theorem Vp (a0_:Bool):V 241 [.bool a0_] =
 br a0_
 (some ((.agg [iN (2),iN (1),.str ({ data:=#[] }),iN (0),iN (0)]),[]))
 (some ((.agg [iN (2),iN (0),.str ({ data:=#[] }),iN (0),iN (0)]),[])):=by
 exact(zR Tryz.func241 rfl _).trans (by kernel_rfl)
theorem aaP (a0_ a1_:Int):V 116 [iN a0_,iN a1_] =
 br (decide (a0_<a1_))
 (some ((iN a0_),[]))
 (some ((iN a1_),[])):=by
 exact(zR Tryz.func116 rfl _).trans (by kernel_rfl)
theorem QL (l p:List D):V 188 [.rs (1,0) l,.fn 136 [.bp [.rs (5,0) p]]] =
 Dv l p (ni l.length) (0):=by
 exact(zR Tryz.func188 rfl _).trans (by kernel_rfl)
end Go.Eng
