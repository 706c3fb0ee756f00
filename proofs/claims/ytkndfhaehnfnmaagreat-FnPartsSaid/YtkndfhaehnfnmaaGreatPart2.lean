/- the program and the reference on plain data, part 2 -/
import Derived.Test.YtkndfhaehnfnmaaGreatPart1
/-! the functions as the interpreter has them -/
namespace Go.Eng
open Go.Proofs Go.Proofs.Tryz
set_option maxRecDepth 100000
theorem NH (a0_0:List D) (a0_1 a0_2:Int):V 112 [.op [.rs (1,0) a0_0,iN a0_1,iN a0_2]] =
 Zy 142 [.op [.rs (1,0) a0_0,iN a0_1,iN a0_2]] fun a b c d e f=>(((Ct 129 [.agg [.rs (5,0) a,.rs (4,0) b,.rs (3,0) c],.str ({ data:=#[109,97,105,110] })] fun g=>(br (decide (g < 0))
 (
 br (decide (ni c.length > 0))
 (
 grd (decide (0 <= 0) && decide (0 < ni c.length)) (cT c 0 fun h=>
 asAgg h fun i=>cT i 0 fun j=>
 asS j fun k=>QI 78 [.agg [.rs (5,0) a,.rs (4,0) b,.rs (3,0) c],.str k] fun l m n o p q r s t=>(((br (!t)
 (QI 171 [.agg [.rs (5,0) a,.rs (4,0) b,.rs (3,0) c],(.agg [(.rs (5,0) [.agg [iN (1),iN (0),.str ({ data:=#[] }),iN (0),iN (0)],(.agg [iN (6),iN (0),.str ({ data:=#[] }),iN (0),iN (0)])])]),iN (1)] fun u v w x y z A B _=>(((ck7 76 [.op [.rs (1,0) d,iN e,iN f],iN (60)] fun C E F G=>((UJ 172 [.op [.rs (1,0) E,iN F,iN G],(.agg [.rs (5,0) a,.rs (4,0) b,.rs (3,0) c]),(.agg [.os (5,0) u,iN v,iN w,iN x,iN y,iN z,iN A,iN B]),iN C] fun H I J K L M N O P Q R=>(((some ((.tup [.agg [.rs (5,0) a,.rs (4,0) b,.rs (3,0) c],(.agg [.os (5,0) H,iN I,iN J,iN K,iN L,iN M,iN N,iN O])]),[.op [.rs (1,0) P,iN Q,iN R]]))))))))))
 (ck7 76 [.op [.rs (1,0) d,iN e,iN f],iN (60)] fun u v w x=>((UJ 172 [.op [.rs (1,0) v,iN w,iN x],(.agg [.rs (5,0) a,.rs (4,0) b,.rs (3,0) c]),(.agg [.os (5,0) l,iN m,iN n,iN o,iN p,iN q,iN r,iN s]),iN u] fun y z A B C E F G H I J=>(((some ((.tup [.agg [.rs (5,0) a,.rs (4,0) b,.rs (3,0) c],(.agg [.os (5,0) y,iN z,iN A,iN B,iN C,iN E,iN F,iN G])]),[.op [.rs (1,0) H,iN I,iN J]]))))))))))))
 (QI 78 [(.agg [(.rs (
 5,0) a),.rs (4,0) b,.rs (3,0) c]),.str ({ data:=#[109,97,105,110] })] fun h i j k l m n o p=>(((br (!p)
 (QI 171 [.agg [.rs (5,0) a,.rs (4,0) b,.rs (3,0) c],(.agg [(.rs (5,0) [.agg [iN (1),iN (0),.str ({ data:=#[] }),iN (0),iN (0)],(.agg [iN (6),iN (0),.str ({ data:=#[] }),iN (0),iN (0)])])]),iN (1)] fun q r s t u v w x _=>(((ck7 76 [.op [.rs (1,0) d,iN e,iN f],iN (60)] fun y z A B=>((UJ 172 [.op [.rs (1,0) z,iN A,iN B],(.agg [.rs (5,0) a,.rs (4,0) b,.rs (3,0) c]),(.agg [.os (5,0) q,iN r,iN s,iN t,iN u,iN v,iN w,iN x]),iN y] fun C E F G H I J K L M N=>(((some ((.tup [.agg [.rs (5,0) a,.rs (4,0) b,.rs (3,0) c],(.agg [.os (5,0) C,iN E,iN F,iN G,iN H,iN I,iN J,iN K])]),[.op [.rs (1,0) L,iN M,iN N]]))))))))))
 (ck7 76 [.op [.rs (1,0) d,iN e,iN f],iN (60)] fun q r s t=>((UJ 172 [.op [.rs (1,0) r,iN s,iN t],(.agg [.rs (5,0) a,.rs (4,0) b,.rs (3,0) c]),(.agg [.os (5,0) h,iN i,iN j,iN k,iN l,iN m,iN n,iN o]),iN q] fun u v w x y z A B C E F=>(((some ((.tup [.agg [.rs (5,0) a,.rs (4,0) b,.rs (3,0) c],(.agg [.os (5,0) u,iN v,iN w,iN x,iN y,iN z,iN A,iN B])]),[.op [.rs (1,0) C,iN E,iN F]]))))))))))))
 (QI 78 [(.agg [(.rs (
 5,0) a),.rs (4,0) b,.rs (3,0) c]),.str ({ data:=#[109,97,105,110] })] fun h i j k l m n o p=>(((br (!p)
 (QI 171 [.agg [.rs (5,0) a,.rs (4,0) b,.rs (3,0) c],(.agg [(.rs (5,0) [.agg [iN (1),iN (0),.str ({ data:=#[] }),iN (0),iN (0)],(.agg [iN (6),iN (0),.str ({ data:=#[] }),iN (0),iN (0)])])]),iN (1)] fun q r s t u v w x _=>(((ck7 76 [.op [.rs (1,0) d,iN e,iN f],iN (60)] fun y z A B=>((UJ 172 [.op [.rs (1,0) z,iN A,iN B],(.agg [.rs (5,0) a,.rs (4,0) b,.rs (3,0) c]),(.agg [.os (5,0) q,iN r,iN s,iN t,iN u,iN v,iN w,iN x]),iN y] fun C E F G H I J K L M N=>(((some ((.tup [.agg [.rs (5,0) a,.rs (4,0) b,.rs (3,0) c],(.agg [.os (5,0) C,iN E,iN F,iN G,iN H,iN I,iN J,iN K])]),[.op [.rs (1,0) L,iN M,iN N]]))))))))))
 (ck7 76 [.op [.rs (1,0) d,iN e,iN f],iN (60)] fun q r s t=>((UJ 172 [.op [.rs (1,0) r,iN s,iN t],(.agg [.rs (5,0) a,.rs (4,0) b,.rs (3,0) c]),(.agg [.os (5,0) h,iN i,iN j,iN k,iN l,iN m,iN n,iN o]),iN q] fun u v w x y z A B C E F=>(((some ((.tup [.agg [.rs (5,0) a,.rs (4,0) b,.rs (3,0) c],(.agg [.os (5,0) u,iN v,iN w,iN x,iN y,iN z,iN A,iN B])]),[.op [.rs (1,0) C,iN E,iN F]]))))))))))))))):=by
 exact (yD Tryz.func112 rfl _).trans (by kernel_rfl)
theorem SN (a0_0 a0_1 a0_2 a1_0:List D) (a1_1 a1_2 a1_3 a1_4 a1_5 a1_6 a1_7:Int) (a2_0:List D) (a3_:Int):V 32 [.agg [.rs (5,0) a0_0,.rs (4,0) a0_1,.rs (3,0) a0_2],.agg [.rs (5,0) a1_0,iN a1_1,iN a1_2,iN a1_3,iN a1_4,iN a1_5,iN a1_6,iN a1_7],.agg [.rs (5,0) a2_0],iN a3_] =
 ck6 15 [.agg [.rs (5,0) a0_0,.rs (4,0) a0_1,.rs (3,0) a0_2],(.agg [.rs (5,0) a1_0,iN a1_1,iN a1_2,iN a1_3,iN a1_4,iN a1_5,iN a1_6,iN a1_7])] fun a=>(br (!a)
 (some ((.agg [.os (5,0) [],iN (0),iN (0),iN (0),iN (0),iN (3),iN (7),iN (0)]),[]))
 (
 br (a1_5 != 1)
 (ck5 85 [.agg [.rs (5,0) a1_0,iN a1_1,iN a1_2,iN a1_3,iN a1_4,iN a1_5,iN a1_6,iN a1_7]] fun b c d e f g h i=>((some ((.agg [.os (5,0) b,iN c,iN d,iN e,iN f,iN g,iN h,iN i]),[]))))
 (ck6 60 [.agg [.rs (5,0) a2_0]] fun b=>(br (!b)
 (ck5 85 [.agg [.rs (5,0) a1_0,iN a1_1,iN a1_2,iN a1_3,iN a1_4,iN a1_5,iN a1_6,iN a1_7]] fun c d e f g h i j=>((some ((.agg [.os (5,0) c,iN d,iN e,iN f,iN g,iN h,iN i,iN j]),[]))))
 (ck6 61 [.agg [.rs (5,0) a2_0],iN a3_] fun c=>(br (!c)
 (ck5 85 [.agg [.rs (5,0) a1_0,iN a1_1,iN a1_2,iN a1_3,iN a1_4,iN a1_5,iN a1_6,iN a1_7]] fun d e f g h i j k=>((some ((.agg [.os (5,0) d,iN e,iN f,iN g,iN h,iN i,iN j,iN k]),[]))))
 (ck5 85 [.agg [.rs (5,0) a1_0,iN a1_1,iN a1_2,iN a1_3,iN a1_4,iN a1_5,iN a1_6,iN a1_7]] fun d e f g h i j k=>((ck9 96 [.op [.os (5,0) d],(.agg [.rs (5,0) a2_0]),iN a3_] fun l m=>((OI 95 [.op [.os (5,0) m,iN e,iN f,iN g,iN h,iN i,iN j,iN k],iN l] fun n _ o p q _ _ _=>(((br (decide (w6 (a1_1 + 1) >= ni a0_1.length))
 (ck5 97 [.agg [.rs (5,0) a1_0,iN a1_1,iN a1_2,iN a1_3,iN a1_4,iN a1_5,iN a1_6,iN a1_7],iN (7)] fun r s t u v w x y=>((some ((.agg [.os (5,0) r,iN s,iN t,iN u,iN v,iN w,iN x,iN y]),[]))))
 (
 br (decide (ni n.length > 3000))
 (ck5 97 [.agg [.rs (5,0) a1_0,iN a1_1,iN a1_2,iN a1_3,iN a1_4,iN a1_5,iN a1_6,iN a1_7],iN (6)] fun r s t u v w x y=>((some ((.agg [.os (5,0) r,iN s,iN t,iN u,iN v,iN w,iN x,iN y]),[]))))
 (some ((.agg [.os (5,0) n,(iN (w6 (a1_1 + 1))),iN o,iN p,iN q,iN (0),iN (0),iN (0)]),[]))))))))))))))))):=by
 exact (yD Tryz.func32 rfl _).trans (by kernel_rfl)
theorem FC (p0:List D) (p1 p2:Int) (p3 p4:List D):yW p0 p1 p2 p3 p4 =
 br (decide (p2 < p1))
 (
 grd (decide (0 <= p2) && decide (p2 < ni p0.length)) (cT p0 p2.toNat fun a=>
 tk2 a fun b c d e f=>(br (b == 5)
 (
 grd (decide (0 <= e) && decide (e < ni p4.length)) (cT p4 e.toNat fun g=>
 asI .i64 g fun h=>grd (decide (0 <= f) && decide (f < ni p4.length)) (cT p4 f.toNat fun i=>
 asI .i64 i fun j=>br (!ja p3 [iN b,iN c,D.str d,iN h,iN j])
 (
 grd (!ja p3 [iN b,iN c,D.str d,iN h,iN j]) (nam (vL p3 [iN b,iN c,D.str d,iN h,iN j] p2) fun k=>
 grd (decide (ni (List.length (p4++[iN p2])) <= LIM)) (nam (p4++[iN p2]) fun l=>
 yW p0 p1 (w6 (p2 + 1)) k l)))
 (
 grd (decide (ni (List.length (p4++[iN (mR p3 [iN b,iN c,D.str d,iN h,iN j])])) <= LIM)) (nam (p4++[iN (mR p3 [iN b,iN c,D.str d,iN h,iN j])]) fun k=>
 yW p0 p1 (w6 (p2 + 1)) p3 k)))))
 (
 br (b == 6)
 (
 br (b == 6)
 (
 grd (decide (0 <= e) && decide (e < ni p4.length)) (cT p4 e.toNat fun g=>
 asI .i64 g fun h=>br (!ja p3 [iN b,iN c,D.str d,iN h,iN f])
 (
 grd (!ja p3 [iN b,iN c,D.str d,iN h,iN f]) (nam (vL p3 [iN b,iN c,D.str d,iN h,iN f] p2) fun i=>
 grd (decide (ni (List.length (p4++[iN p2])) <= LIM)) (nam (p4++[iN p2]) fun j=>
 yW p0 p1 (w6 (p2 + 1)) i j)))
 (
 grd (decide (ni (List.length (p4++[iN (mR p3 [iN b,iN c,D.str d,iN h,iN f])])) <= LIM)) (nam (p4++[iN (mR p3 [iN b,iN c,D.str d,iN h,iN f])]) fun i=>
 yW p0 p1 (w6 (p2 + 1)) p3 i))))
 (
 br (!ja p3 [iN b,iN c,D.str d,iN e,iN f])
 (
 grd (!ja p3 [iN b,iN c,D.str d,iN e,iN f]) (nam (vL p3 [iN b,iN c,D.str d,iN e,iN f] p2) fun g=>
 grd (decide (ni (List.length (p4++[iN p2])) <= LIM)) (nam (p4++[iN p2]) fun h=>
 yW p0 p1 (w6 (p2 + 1)) g h)))
 (
 grd (decide (ni (List.length (p4++[iN (mR p3 [iN b,iN c,D.str d,iN e,iN f])])) <= LIM)) (nam (p4++[iN (mR p3 [iN b,iN c,D.str d,iN e,iN f])]) fun g=>
 yW p0 p1 (w6 (p2 + 1)) p3 g))))
 (
 br (b == 7)
 (
 grd (decide (0 <= e) && decide (e < ni p4.length)) (cT p4 e.toNat fun g=>
 asI .i64 g fun h=>br (!ja p3 [iN b,iN c,D.str d,iN h,iN f])
 (
 grd (!ja p3 [iN b,iN c,D.str d,iN h,iN f]) (nam (vL p3 [iN b,iN c,D.str d,iN h,iN f] p2) fun i=>
 grd (decide (ni (List.length (p4++[iN p2])) <= LIM)) (nam (p4++[iN p2]) fun j=>
 yW p0 p1 (w6 (p2 + 1)) i j)))
 (
 grd (decide (ni (List.length (p4++[iN (mR p3 [iN b,iN c,D.str d,iN h,iN f])])) <= LIM)) (nam (p4++[iN (mR p3 [iN b,iN c,D.str d,iN h,iN f])]) fun i=>
 yW p0 p1 (w6 (p2 + 1)) p3 i))))
 (
 br (!ja p3 [iN b,iN c,D.str d,iN e,iN f])
 (
 grd (!ja p3 [iN b,iN c,D.str d,iN e,iN f]) (nam (vL p3 [iN b,iN c,D.str d,iN e,iN f] p2) fun g=>
 grd (decide (ni (List.length (p4++[iN p2])) <= LIM)) (nam (p4++[iN p2]) fun h=>
 yW p0 p1 (w6 (p2 + 1)) g h)))
 (
 grd (decide (ni (List.length (p4++[iN (mR p3 [iN b,iN c,D.str d,iN e,iN f])])) <= LIM)) (nam (p4++[iN (mR p3 [iN b,iN c,D.str d,iN e,iN f])]) fun g=>
 yW p0 p1 (w6 (p2 + 1)) p3 g))))))))
 (some ((.os (1,0) p4),[])):=by
 exact (yC _ _ _).trans (by kernel_rfl)
theorem Nc (p0:ByteArray) (p1 p2 p3:Int) (p4 p5 p6 p7:List D):Av p0 p1 p2 p3 p4 p5 p6 p7 =
 br (decide (p1 < ni (ByteArray.size p0)))
 (grd (decide (0 <= p1) && decide (p1 < ni (ByteArray.size p0))) (ck6 211 [.int .u8 (bt p0 p1)] fun a=>(br a
 (Av p0 (w6 (p1 + 1)) p2 p3 p4 p5 p6 p7)
 (grd (cW (ByteArray.size p0) (some p3) (some p1)) (Pi 212 [(.str (ByteArray.extract p0 p3.toNat p1.toNat))] fun b c d e f g=>(((br (!g)
 (ck8 147 [.agg [.rs (5,0) p4]] fun h=>((some ((.tup [.agg [.os (5,0) h],.os (1,0) p5,iN (3),iN p3]),[]))))
 (
 grd (decide (0 <= p2) && decide (p2 < ni p6.length)) (cT p6 p2.toNat fun h=>
 asAgg h fun i=>cT i 1 fun j=>
 jl (1,0) j fun k=>asAgg h fun l=>ck9 158 [.op [.os (5,0) p7],.agg [iN b,iN c,.str d,iN e,iN f]] fun m n=>((grd (decide (ni (List.length (k++[iN m])) <= LIM)) (nam (k++[iN m]) fun o=>
 grd (decide (0 <= p2) && decide (p2 < ni (List.length (List.set p6 p2.toNat (D.agg (List.take 1 l++[D.dead]++List.drop 2 l)))))) (cT (List.set p6 p2.toNat (D.agg (List.take 1 l++[D.dead]++List.drop 2 l))) p2.toNat fun p=>
 asAgg p fun q=>nam (List.set (List.set p6 p2.toNat (D.agg (List.take 1 l++[D.dead]++List.drop 2 l))) p2.toNat
 (D.agg
 (List.take 1 q ++
 [D.os
 (TypeInfo.size (Tables.types (Program.toTables Tryz.prog))[3],
 match qU Tryz.prog (3) with
 | true=>0
 | false=>1)
 o] ++
 List.drop 2 q))) fun r=>
 za p0 p1 p4 p5 r n))))))))))))))
 (grd (cW (ByteArray.size p0) (some p3) (some p1)) (Pi 212 [(.str (ByteArray.extract p0 p3.toNat p1.toNat))] fun a b c d e f=>(((br (!f)
 (ck8 147 [.agg [.rs (5,0) p4]] fun g=>((some ((.tup [.agg [.os (5,0) g],.os (1,0) p5,iN (3),iN p3]),[]))))
 (
 grd (decide (0 <= p2) && decide (p2 < ni p6.length)) (cT p6 p2.toNat fun g=>
 asAgg g fun h=>cT h 1 fun i=>
 jl (1,0) i fun j=>asAgg g fun k=>ck9 158 [.op [.os (5,0) p7],.agg [iN a,iN b,.str c,iN d,iN e]] fun l m=>((grd (decide (ni (List.length (j++[iN l])) <= LIM)) (nam (j++[iN l]) fun n=>
 grd (decide (0 <= p2) && decide (p2 < ni (List.length (List.set p6 p2.toNat (D.agg (List.take 1 k++[D.dead]++List.drop 2 k)))))) (cT (List.set p6 p2.toNat (D.agg (List.take 1 k++[D.dead]++List.drop 2 k))) p2.toNat fun o=>
 asAgg o fun p=>nam (List.set (List.set p6 p2.toNat (D.agg (List.take 1 k++[D.dead]++List.drop 2 k))) p2.toNat
 (D.agg
 (List.take 1 p ++
 [D.os
 (TypeInfo.size (Tables.types (Program.toTables Tryz.prog))[3],
 match qU Tryz.prog (3) with
 | true=>0
 | false=>1)
 n] ++
 List.drop 2 p))) fun q=>
 za p0 p1 p4 p5 q m))))))))))):=by
 exact (yC _ _ _).trans (by kernel_rfl)
theorem NA (a0_0:List D) (a0_1 a0_2 a1_:Int):V 197 [.op [.rs (1,0) a0_0,iN a0_1,iN a0_2],iN a1_] =
 br (a1_ == 0)
 (UH 201 [.op [.rs (1,0) a0_0,iN a0_1,iN a0_2]] fun a b c d e f g h=>(((some ((.agg [iN a,iN b,.str c,iN d,iN e]),[.op [.rs (1,0) f,iN g,iN h]])))))
 (Sq 155 [.op [.rs (1,0) a0_0,iN a0_1,iN a0_2],iN (2)] fun a b c d=>((br a
 (UH 201 [.op [.rs (1,0) b,iN c,iN d]] fun e f g h i j k l=>(((some ((.agg [iN e,iN f,.str g,iN h,iN i]),[.op [.rs (1,0) j,iN k,iN l]])))))
 (Ct 116 [iN a1_,iN (5)] fun e=>(ck7 76 [.op [.rs (1,0) b,iN c,iN d],iN e] fun f g h i=>((ck7 76 [.op [.rs (1,0) g,iN h,iN i],iN (8)] fun j k l m=>((br (j == 0)
 (ck7 76 [.op [.rs (1,0) k,iN l,iN m],iN (9)] fun n o p q=>((some ((.agg [iN (6),iN n,.str ({ data:=#[] }),(iN (w6 (w6 (a1_ - 1) - f))),iN (0)]),[.op [.rs (1,0) o,iN p,iN q]]))))
 (
 br (j == 1)
 (some ((.agg [iN (7),iN (0),.str ({ data:=#[] }),(iN (w6 (w6 (a1_ - 1) - f))),iN (0)]),[.op [.rs (1,0) k,iN l,iN m]]))
 (Ct 116 [iN a1_,iN (4)] fun n=>(ck7 76 [.op [.rs (1,0) k,iN l,iN m],iN n] fun o p q r=>((some ((.agg [iN (5),iN (0),.str ({ data:=#[] }),(iN (w6 (w6 (a1_ - 1) - f))),(iN (w6 (w6 (a1_ - 1) - o)))]),[.op [.rs (1,0) p,iN q,iN r]]))))))))))))))):=by
 exact (yD Tryz.func197 rfl _).trans (by kernel_rfl)
theorem Th (a0_0 a0_1:Int) (a0_2:ByteArray) (a0_3 a0_4 a1_:Int):V 130 [.agg [iN a0_0,iN a0_1,.str a0_2,iN a0_3,iN a0_4],iN a1_] =
 ck6 62 [iN a0_3,iN (0),(iN (w6 (a1_ - 1)))] fun a=>(ck6 62 [iN a0_4,iN (0),(iN (w6 (a1_ - 1)))] fun b=>(br (a0_0 == 1)
 (some ((.bool (a0_0 == 1 && (a0_1 == 0 && (kc a0_2 { data:=#[] } && (a0_3 == 0 && (a0_4 == 0 && true)))))),[]))
 (
 br (a0_0 == 2)
 (ck6 62 [iN a0_1,iN (0),iN (1)] fun c=>(br c
 (some ((.bool (a0_0 == 2 && (a0_1 == a0_1 && (kc a0_2 { data:=#[] } && (a0_3 == 0 && (a0_4 == 0 && true)))))),[]))
 (some ((.bool false),[]))))
 (
 br (a0_0 == 3)
 (ck6 62 [iN a0_1,iN (-1000000000),iN (1000000000)] fun c=>(br c
 (some ((.bool (a0_0 == 3 && (a0_1 == a0_1 && (kc a0_2 { data:=#[] } && (a0_3 == 0 && (a0_4 == 0 && true)))))),[]))
 (some ((.bool false),[]))))
 (
 br (a0_0 == 4)
 (ck6 128 [.str a0_2] fun c=>(br c
 (some ((.bool (a0_0 == 4 && (a0_1 == 0 && (kc a0_2 a0_2 && (a0_3 == 0 && (a0_4 == 0 && true)))))),[]))
 (some ((.bool false),[]))))
 (
 br (a0_0 == 5)
 (
 br a
 (
 br b
 (
 br (a0_1 == 0)
 (some ((.bool (kc a0_2 { data:=#[] })),[]))
 (some ((.bool false),[])))
 (some ((.bool false),[])))
 (some ((.bool false),[])))
 (
 br (a0_0 == 6)
 (
 br a
 (ck6 62 [iN a0_1,iN (0),iN (1000000000)] fun c=>(br c
 (
 br (a0_4 == 0)
 (some ((.bool (kc a0_2 { data:=#[] })),[]))
 (some ((.bool false),[])))
 (some ((.bool false),[]))))
 (some ((.bool false),[])))
 (
 br (a0_0 == 7)
 (
 br a
 (
 br (a0_1 == 0)
 (
 br (a0_4 == 0)
 (some ((.bool (kc a0_2 { data:=#[] })),[]))
 (some ((.bool false),[])))
 (some ((.bool false),[])))
 (some ((.bool false),[])))
 (
 br (a0_0 == 8)
 (ck6 62 [iN a0_1,iN (0),iN (99)] fun c=>(br c
 (some ((.bool (a0_0 == 8 && (a0_1 == a0_1 && (kc a0_2 { data:=#[] } && (a0_3 == 0 && (a0_4 == 0 && true)))))),[]))
 (some ((.bool false),[]))))
 (
 br (a0_0 == 9)
 (ck6 62 [iN a0_1,iN (0),iN (1000000000)] fun c=>(br c
 (some ((.bool (a0_0 == 9 && (a0_1 == a0_1 && (kc a0_2 { data:=#[] } && (a0_3 == 0 && (a0_4 == 0 && true)))))),[]))
 (some ((.bool false),[]))))
 (some ((.bool false),[])))))))))))):=by
 exact (yD Tryz.func130 rfl _).trans (by kernel_rfl)
theorem OJ (a0_0 a0_1 a0_2 a1_0:List D) (a1_1 a1_2 a1_3 a1_4 a1_5 a1_6 a1_7:Int):V 14 [.agg [.rs (5,0) a0_0,.rs (4,0) a0_1,.rs (3,0) a0_2],.agg [.rs (5,0) a1_0,iN a1_1,iN a1_2,iN a1_3,iN a1_4,iN a1_5,iN a1_6,iN a1_7]] =
 ck6 54 [.agg [.rs (5,0) a0_0,.rs (4,0) a0_1,.rs (3,0) a0_2]] fun a=>(br (!a)
 (some ((.bool false),[]))
 (ck6 55 [.agg [.rs (5,0) a1_0]] fun b=>(br (!b)
 (some ((.bool false),[]))
 (ck6 56 [.agg [.rs (5,0) a1_0],iN a1_2] fun c=>(br (!c)
 (some ((.bool false),[]))
 (ck6 56 [.agg [.rs (5,0) a1_0],iN a1_3] fun d=>(br (!d)
 (some ((.bool false),[]))
 (ck6 56 [.agg [.rs (5,0) a1_0],iN a1_4] fun e=>(br (!e)
 (some ((.bool false),[]))
 (
 br (a1_5 == 0)
 (ck6 57 [.agg [.rs (5,0) a0_0,.rs (4,0) a0_1,.rs (3,0) a0_2],iN a1_1] fun f=>(br f
 (
 br (a1_6 == 0)
 (some ((.bool (a1_7 == 0)),[]))
 (some ((.bool false),[])))
 (some ((.bool false),[]))))
 (
 br (a1_5 == 1)
 (ck6 57 [.agg [.rs (5,0) a0_0,.rs (4,0) a0_1,.rs (3,0) a0_2],iN a1_1] fun f=>(br f
 (ck6 58 [iN a1_6,iN (13),iN (19)] fun g=>(br g
 (
 br (a1_6 != 18)
 (ck6 56 [.agg [.rs (5,0) a1_0],iN a1_7] fun h=>(some ((.bool h),[])))
 (some ((.bool false),[])))
 (some ((.bool false),[]))))
 (some ((.bool false),[]))))
 (
 br (a1_5 == 2)
 (
 br (a1_1 == 0)
 (
 br (a1_6 == 0)
 (ck6 56 [.agg [.rs (5,0) a1_0],iN a1_7] fun f=>(some ((.bool f),[])))
 (some ((.bool false),[])))
 (some ((.bool false),[])))
 (
 br (a1_5 == 3)
 (
 br (a1_1 == 0)
 (ck6 58 [iN a1_6,iN (1),iN (7)] fun f=>(br f
 (some ((.bool (a1_7 == 0)),[]))
 (some ((.bool false),[]))))
 (some ((.bool false),[])))
 (some ((.bool false),[]))))))))))))))):=by
 exact (yD Tryz.func14 rfl _).trans (by kernel_rfl)
theorem SF (a0_0 a0_1 a0_2 a1_0:List D) (a1_1 a1_2 a1_3 a1_4 a1_5 a1_6 a1_7 a2_:Int):V 22 [.agg [.rs (5,0) a0_0,.rs (4,0) a0_1,.rs (3,0) a0_2],.agg [.rs (5,0) a1_0,iN a1_1,iN a1_2,iN a1_3,iN a1_4,iN a1_5,iN a1_6,iN a1_7],iN a2_] =
 ck6 14 [.agg [.rs (5,0) a0_0,.rs (4,0) a0_1,.rs (3,0) a0_2],(.agg [.rs (5,0) a1_0,iN a1_1,iN a1_2,iN a1_3,iN a1_4,iN a1_5,iN a1_6,iN a1_7])] fun a=>(br (!a)
 (ck5 17 [.agg [.rs (5,0) a0_0,.rs (4,0) a0_1,.rs (3,0) a0_2],(.agg [.rs (5,0) a1_0,iN a1_1,iN a1_2,iN a1_3,iN a1_4,iN a1_5,iN a1_6,iN a1_7])] fun b c d e f g h i=>((some ((.tup [.agg [.os (5,0) b,iN c,iN d,iN e,iN f,iN g,iN h,iN i],iN (0)]),[]))))
 (ck5 63 [.agg [.rs (5,0) a1_0,iN a1_1,iN a1_2,iN a1_3,iN a1_4,iN a1_5,iN a1_6,iN a1_7]] fun b c d e f g h i=>((Dg a2_ (0) a0_0 a0_1 a0_2 c d e f g h i (0) (0) (0) (0) (0) (0) (0) b)))):=by
 exact (yD Tryz.func22 rfl _).trans (by kernel_rfl)
theorem Gw (p0 p1:Int) (p2 p3 p4:List D) (p5 p6 p7 p8 p9 p10 p11 p12 p13 p14 p15 p16 p17 p18:Int) (p19:List D):Dg p0 p1 p2 p3 p4 p5 p6 p7 p8 p9 p10 p11 p12 p13 p14 p15 p16 p17 p18 p19 =
 br (p9 == 0)
 (
 br (decide (p1 < mnI p0 (2000)))
 (ck5 64 [.agg [.rs (5,0) p2,.rs (4,0) p3,.rs (3,0) p4],(.agg [.rs (5,0) p19,iN p5,iN p6,iN p7,iN p8,iN p9,iN p10,iN p11])] fun a b c d e f g h=>((ck5 73 [.agg [.os (5,0) a,iN b,iN c,iN d,iN e,iN f,iN g,iN h]] fun i j k l m n o p=>((Dg p0 (w6 (p1 + 1)) p2 p3 p4 j k l m n o p p12 p13 p14 p15 p16 p17 p18 i)))))
 (some ((.tup [.agg [.os (5,0) p19,iN p5,iN p6,iN p7,iN p8,iN p9,iN p10,iN p11],iN p1]),[])))
 (some ((.tup [.agg [.os (5,0) p19,iN p5,iN p6,iN p7,iN p8,iN p9,iN p10,iN p11],iN p1]),[])):=by
 exact (yC _ _ _).trans (by kernel_rfl)
theorem D4 (p0:Int) (p1 p2 p3:List D):zU p0 p1 p2 p3 =
 br (decide (p0 < ni p1.length))
 (
 grd (decide (0 <= p0) && decide (p0 < ni p1.length)) (cT p1 p0.toNat fun a=>
 tk2 a fun b c d e f=>(br (b == 5)
 (
 grd (decide (0 <= e) && decide (e < ni p2.length)) (cT p2 e.toNat fun g=>
 asI .i64 g fun h=>grd (decide (0 <= f) && decide (f < ni p2.length)) (cT p2 f.toNat fun i=>
 asI .i64 i fun j=>zh p0 p0 (0) p1 p2 p3 b c d h j)))
 (
 br (b == 6)
 (
 br (b == 6)
 (
 grd (decide (0 <= e) && decide (e < ni p2.length)) (cT p2 e.toNat fun g=>
 asI .i64 g fun h=>zh p0 p0 (0) p1 p2 p3 b c d h f))
 (zh p0 p0 (0) p1 p2 p3 b c d e f))
 (
 br (b == 7)
 (
 grd (decide (0 <= e) && decide (e < ni p2.length)) (cT p2 e.toNat fun g=>
 asI .i64 g fun h=>zh p0 p0 (0) p1 p2 p3 b c d h f))
 (zh p0 p0 (0) p1 p2 p3 b c d e f))))))
 (some ((.os (1,0) p2),[])):=by
 exact (yC _ _ _).trans (by kernel_rfl)
theorem Il (p0 p1:ByteArray) (p2 p3:Int):z6 p0 p1 p2 p3 =
 br (decide (p3 < ni (ByteArray.size p1)))
 (grd (decide (0 <= p3) && decide (p3 < ni (ByteArray.size p1))) (ck6 226 [.int .u8 (bt p1 p3)] fun a=>(br (!a)
 (some ((.tup [iN (0),.bool false]),[]))
 (grd (decide (0 <= p3) && decide (p3 < ni (ByteArray.size p1))) (z6 p0 p1 (w6 (w6 (w6 (10 * p2) + w6 (bt p1 p3)) - 48)) (w6 (p3 + 1)))))))
 (
 br (ni (ByteArray.size p1) != ni (ByteArray.size p0))
 (UG 202 [(iN (w6 (0 - p2)))] fun a=>(br (kc a p0)
 (ck6 62 [(iN (w6 (0 - p2))),iN (-1000000000),iN (1000000000)] fun b=>(some ((.tup [(iN (w6 (0 - p2))),.bool b]),[])))
 (some ((.tup [(iN (w6 (0 - p2))),.bool false]),[]))))
 (UG 202 [iN p2] fun a=>(br (kc a p0)
 (ck6 62 [iN p2,iN (-1000000000),iN (1000000000)] fun b=>(some ((.tup [iN p2,.bool b]),[])))
 (some ((.tup [iN p2,.bool false]),[]))))):=by
 exact (yC _ _ _).trans (by kernel_rfl)
theorem KI (p0:Int) (p1 p2:List D):BJ p0 p1 p2 =
 grd (decide (0 <= p0) && decide (p0 < ni p1.length)) (cT p1 p0.toNat fun a=>
 asAgg a fun b=>cT b 0 fun c=>
 asI .i64 c fun d=>br (d == 5)
 (
 grd (decide (0 <= p0) && decide (p0 < ni p1.length)) (cT p1 p0.toNat fun e=>
 asAgg e fun f=>cT f 3 fun g=>
 asI .i64 g fun h=>grd (decide (ni (List.length (p2++[iN h])) <= LIM)) (nam (p2++[iN h]) fun i=>
 grd (decide (0 <= p0) && decide (p0 < ni p1.length)) (cT p1 p0.toNat fun j=>
 asAgg j fun k=>cT k 4 fun l=>
 asI .i64 l fun m=>BJ m p1 i))))
 (
 grd (decide (0 <= p0) && decide (p0 < ni p1.length)) (cT p1 p0.toNat fun e=>
 asAgg e fun f=>cT f 0 fun g=>
 asI .i64 g fun h=>br (h != 1)
 (some ((.tup [.os (1,0) [],.bool false]),[]))
 (some ((.tup [.os (1,0) p2,.bool true]),[]))))):=by
 exact (yC _ _ _).trans (by kernel_rfl)
theorem Iq (p0:List D) (p1:ByteArray) (p2 p3:Int):DL p0 p1 p2 p3 =
 grd (decide (0 <= p2) && decide (p2 < ni p0.length)) (cT p0 p2.toNat fun a=>
 kq (1,0) a fun b=>br (decide (p3 < ni b.length))
 (
 grd (decide (0 <= p2) && decide (p2 < ni p0.length)) (cT p0 p2.toNat fun c=>
 kq (1,0) c fun d=>grd (decide (0 <= p3) && decide (p3 < ni d.length)) (cT d p3.toNat fun e=>
 asS e fun f=>br (kc f p1)
 (some ((.tup [iN p2,iN p3]),[]))
 (DL p0 p1 p2 (w6 (p3 + 1))))))
 (Cq p0 p1 (w6 (p2 + 1)))):=by
 exact (yC _ _ _).trans (by kernel_rfl)
theorem GD (p0:List D) (p1 p2:Int) (p3:List D):Dn p0 p1 p2 p3 =
 br (decide (p2 >= 0))
 (
 grd (decide (0 <= p2) && decide (p2 < ni p0.length)) (cT p0 p2.toNat fun a=>
 asI .i64 a fun b=>ck9 158 [.op [.os (5,0) p3],(.agg [iN (5),iN (0),.str ({ data:=#[] }),iN b,iN p1])] fun c d=>((Dn p0 c (w6 (p2 - 1)) d))))
 (some ((iN p1),[.op [.os (5,0) p3]])):=by
 exact (yC _ _ _).trans (by kernel_rfl)
theorem Pp (p:List D) (k n:Int) (s:ByteArray) (a b:Int):V 157 [.op [.os (5,0) p],.agg [iN k,iN n,.str s,iN a,iN b]] =
 grd (decide (ni (List.length (p++[D.agg [iN k,iN n,D.str s,iN a,iN b]])) <= LIM)) (nam (p++[D.agg [iN k,iN n,D.str s,iN a,iN b]]) fun c=>
 some ((iN (w6 (ni c.length - 1))),[.op [.os (5,0) c]])):=by
 exact (yD Tryz.func157 rfl _).trans (by kernel_rfl)
theorem Mi (a0_0:List D) (a0_1 a0_2:Int):V 154 [.op [.rs (1,0) a0_0,iN a0_1,iN a0_2]] =
 ck7 76 [.op [.rs (1,0) a0_0,iN a0_1,iN a0_2],iN (16)] fun a b c d=>((EW a (0) b c d)):=by
 exact (yD Tryz.func154 rfl _).trans (by kernel_rfl)
theorem SP (a0_0 a0_1 a0_2:List D):V 59 [.agg [.rs (5,0) a0_0,.rs (4,0) a0_1,.rs (3,0) a0_2]] =
 ck6 60 [.agg [.rs (5,0) a0_0]] fun a=>(br (!a)
 (some ((.bool false),[]))
 (
 br (decide (ni a0_1.length > 400))
 (some ((.bool false),[]))
 (
 br (decide (ni a0_2.length > 20))
 (some ((.bool false),[]))
 (Dh (0) a0_0 a0_1 a0_2)))):=by
 exact (yD Tryz.func59 rfl _).trans (by kernel_rfl)
theorem Ba (p0:List D) (p1 p2 p3:Int):zJ p0 p1 p2 p3 =
 br (decide (p3 < p2))
 (
 grd (decide (0 <= p3) && decide (p3 < ni p0.length)) (cT p0 p3.toNat fun a=>
 asI .u8 a fun b=>br (p1 == b)
 (some ((iN p3),[]))
 (zJ p0 p1 p2 (w6 (p3 + 1)))))
 (some ((iN (-1)),[])):=by
 exact (yC _ _ _).trans (by kernel_rfl)
theorem TM (p q t:List D):V 148 [.op [.os (5,0) p],.agg [.rs (5,0) q],.rs (1,0) t] =
 grd (decide (0 <= ni q.length) && decide (ni q.length <= LIM)) (zI t (0) q (List.replicate (Int.toNat (ni q.length)) (iN (0))) p):=by
 exact (yD Tryz.func148 rfl _).trans (by kernel_rfl)
theorem SM (a0_ a1_ a2_:Int):V 58 [iN a0_,iN a1_,iN a2_] =
 br (decide (a0_ >= a1_))
 (some ((.bool (decide (a0_ <= a2_))),[]))
 (some ((.bool false),[])):=by
 exact (yD Tryz.func58 rfl _).trans (by kernel_rfl)
theorem QT (a0_:Int):V 226 [.int .u8 a0_] =
 br (decide (a0_ >= 48))
 (some ((.bool (decide (a0_ <= 57))),[]))
 (some ((.bool false),[])):=by
 exact (yD Tryz.func226 rfl _).trans (by kernel_rfl)
end Go.Eng
/-! the functions as the interpreter has them -/
namespace Go.Eng
open Go.Proofs Go.Proofs.Tryz
set_option maxRecDepth 100000
theorem Vc (p l d:List D) (h x:Int):V 215 [.op [.os (5,0) p,.os (4,0) l,.os (3,0) d,iN h],iN x] =
 grd (decide (0 <= x) && decide (x < ni p.length)) (cT p x.toNat fun a=>
 asAgg a fun b=>cT b 0 fun c=>
 asI .i64 c fun e=>br (e == 5)
 (ck3 228 [.agg [.rs (5,0) p],iN x] fun f g=>((br (!g)
 (ck2 229 [.op [.os (5,0) p,.os (4,0) l,.os (3,0) d,iN h],.str ({ data:=#[109,97,105,110] }),.rs (1,0) [],.rs (1,0) [iN x]] fun i j k m=>(((some ((.tup []),[.op [.os (5,0) i,.os (4,0) j,.os (3,0) k,iN m]])))))
 (
 grd (decide (0 <= 0) && decide (0 < ni f.length)) (cT f 0 fun i=>
 asI .i64 i fun j=>grd (decide (0 <= j) && decide (j < ni p.length)) (cT p j.toNat fun k=>
 asAgg k fun m=>cT m 0 fun n=>
 asI .i64 n fun o=>br (o != 4)
 (ck2 229 [.op [.os (5,0) p,.os (4,0) l,.os (3,0) d,iN h],.str ({ data:=#[109,97,105,110] }),.rs (1,0) [],.rs (1,0) [iN x]] fun q r s t=>(((some ((.tup []),[.op [.os (5,0) q,.os (4,0) r,.os (3,0) s,iN t]])))))
 (
 grd (decide (0 <= 0) && decide (0 < ni f.length)) (cT f 0 fun q=>
 asI .i64 q fun r=>grd (decide (0 <= r) && decide (r < ni p.length)) (cT p r.toNat fun s=>
 asAgg s fun t=>cT t 2 fun u=>
 asS u fun v=>br (!kc v { data:=#[100,101,102,105,110,101] })
 (ck2 229 [.op [.os (5,0) p,.os (4,0) l,.os (3,0) d,iN h],.str ({ data:=#[109,97,105,110] }),.rs (1,0) [],.rs (1,0) [iN x]] fun w y z A=>(((some ((.tup []),[.op [.os (5,0) w,.os (4,0) y,.os (3,0) z,iN A]])))))
 (
 br (decide (ni f.length < 3))
 (some ((.tup []),[.op [.os (5,0) p,.os (4,0) l,.os (3,0) d,iN (1)]]))
 (
 grd (decide (0 <= 1) && decide (1 < ni f.length)) (cT f 1 fun w=>
 asI .i64 w fun y=>grd (decide (0 <= y) && decide (y < ni p.length)) (cT p y.toNat fun z=>
 asAgg z fun A=>cT A 0 fun B=>
 asI .i64 B fun C=>br (C != 5)
 (some ((.tup []),[.op [.os (5,0) p,.os (4,0) l,.os (3,0) d,iN (1)]]))
 (
 grd (decide (0 <= 1) && decide (1 < ni f.length)) (cT f 1 fun E=>
 asI .i64 E fun F=>ck3 228 [.agg [.rs (5,0) p],iN F] fun G H=>((br (!H)
 (some ((.tup []),[.op [.os (5,0) p,.os (4,0) l,.os (3,0) d,iN (1)]]))
 (
 grd (decide (0 <= 0) && decide (0 < ni G.length)) (cT G 0 fun I=>
 asI .i64 I fun J=>Zt 230 [.op [.os (5,0) p,.os (4,0) l,.os (3,0) d,iN h],iN J] fun K L M N O P=>(((br (!L)
 (some ((.tup []),[.op [.os (5,0) M,.os (4,0) N,.os (3,0) O,iN (1)]]))
 (grd (cW G.length (some (1)) none) (ck4 231 [.op [.os (5,0) M,.os (4,0) N,.os (3,0) O,iN P],(.rs (1,0) (part G (some (Int.toNat (1),List.length G - Int.toNat (1)))))] fun Q R S T U=>((grd (cW f.length (some (2)) none) (ck2 229 [.op [.os (5,0) R,.os (4,0) S,.os (3,0) T,iN U],.str K,.rs (1,0) Q,(.rs (1,0) (part f (some (Int.toNat (2),List.length f - Int.toNat (2)))))] fun W X Y Z=>(((some ((.tup []),[.op [.os (5,0) W,.os (4,0) X,.os (3,0) Y,iN Z]])))))))))))))))))))))))))))))))
 (ck2 229 [.op [.os (5,0) p,.os (4,0) l,.os (3,0) d,iN h],.str ({ data:=#[109,97,105,110] }),.rs (1,0) [],.rs (1,0) [iN x]] fun f g i j=>(((some ((.tup []),[.op [.os (5,0) f,.os (4,0) g,.os (3,0) i,iN j]])))))):=by
 exact (yD Tryz.func215 rfl _).trans (by kernel_rfl)
theorem Xd (a0_0:List D) (a0_1 a0_2 a0_3 a0_4 a0_5 a0_6 a0_7:Int):V 28 [.agg [.rs (5,0) a0_0,iN a0_1,iN a0_2,iN a0_3,iN a0_4,iN a0_5,iN a0_6,iN a0_7]] =
 br (a0_5 == 1)
 (grd (decide (ni 4 <= LIM)) (ck6 84 [.agg [.rs (5,0) a0_0],.rs (1,0) [iN a0_2,iN a0_3,iN a0_4,iN a0_7]] fun a=>(br (!a)
 (ck5 85 [.agg [.rs (5,0) a0_0,iN a0_1,iN a0_2,iN a0_3,iN a0_4,iN a0_5,iN a0_6,iN a0_7]] fun b c d e f g h i=>((some ((.agg [.os (5,0) b,iN c,iN d,iN e,iN f,iN g,iN h,iN i]),[]))))
 (UI 86 [.agg [.rs (5,0) a0_0],.rs (1,0) [iN a0_2,iN a0_3,iN a0_4,iN a0_7]] fun b c=>(((grd (decide (0 <= 0) && decide (0 < ni c.length)) (cT c 0 fun d=>
 asI .i64 d fun e=>grd (decide (0 <= 1) && decide (1 < ni c.length)) (cT c 1 fun f=>
 asI .i64 f fun g=>grd (decide (0 <= 2) && decide (2 < ni c.length)) (cT c 2 fun h=>
 asI .i64 h fun i=>grd (decide (0 <= 3) && decide (3 < ni c.length)) (cT c 3 fun j=>
 asI .i64 j fun k=>some ((.agg [.os (5,0) b,iN a0_1,iN e,iN g,iN i,iN a0_5,iN a0_6,iN k]),[]))))))))))))
 (
 br (a0_5 == 2)
 (grd (decide (ni 4 <= LIM)) (ck6 84 [.agg [.rs (5,0) a0_0],.rs (1,0) [iN a0_2,iN a0_3,iN a0_4,iN a0_7]] fun a=>(br (!a)
 (ck5 85 [.agg [.rs (5,0) a0_0,iN a0_1,iN a0_2,iN a0_3,iN a0_4,iN a0_5,iN a0_6,iN a0_7]] fun b c d e f g h i=>((some ((.agg [.os (5,0) b,iN c,iN d,iN e,iN f,iN g,iN h,iN i]),[]))))
 (UI 86 [.agg [.rs (5,0) a0_0],.rs (1,0) [iN a0_2,iN a0_3,iN a0_4,iN a0_7]] fun b c=>(((grd (decide (0 <= 0) && decide (0 < ni c.length)) (cT c 0 fun d=>
 asI .i64 d fun e=>grd (decide (0 <= 1) && decide (1 < ni c.length)) (cT c 1 fun f=>
 asI .i64 f fun g=>grd (decide (0 <= 2) && decide (2 < ni c.length)) (cT c 2 fun h=>
 asI .i64 h fun i=>br (a0_5 == 2)
 (
 grd (decide (0 <= 3) && decide (3 < ni c.length)) (cT c 3 fun j=>
 asI .i64 j fun k=>some ((.agg [.os (5,0) b,iN a0_1,iN e,iN g,iN i,iN a0_5,iN a0_6,iN k]),[])))
 (some ((.agg [.os (5,0) b,iN a0_1,iN e,iN g,iN i,iN a0_5,iN a0_6,iN a0_7]),[]))))))))))))
 (ck6 84 [.agg [.rs (5,0) a0_0],.rs (1,0) [iN a0_2,iN a0_3,iN a0_4]] fun a=>(br (!a)
 (ck5 85 [.agg [.rs (5,0) a0_0,iN a0_1,iN a0_2,iN a0_3,iN a0_4,iN a0_5,iN a0_6,iN a0_7]] fun b c d e f g h i=>((some ((.agg [.os (5,0) b,iN c,iN d,iN e,iN f,iN g,iN h,iN i]),[]))))
 (UI 86 [.agg [.rs (5,0) a0_0],.rs (1,0) [iN a0_2,iN a0_3,iN a0_4]] fun b c=>(((grd (decide (0 <= 0) && decide (0 < ni c.length)) (cT c 0 fun d=>
 asI .i64 d fun e=>grd (decide (0 <= 1) && decide (1 < ni c.length)) (cT c 1 fun f=>
 asI .i64 f fun g=>grd (decide (0 <= 2) && decide (2 < ni c.length)) (cT c 2 fun h=>
 asI .i64 h fun i=>br (a0_5 == 2)
 (
 grd (decide (0 <= 3) && decide (3 < ni c.length)) (cT c 3 fun j=>
 asI .i64 j fun k=>some ((.agg [.os (5,0) b,iN a0_1,iN e,iN g,iN i,iN a0_5,iN a0_6,iN k]),[])))
 (some ((.agg [.os (5,0) b,iN a0_1,iN e,iN g,iN i,iN a0_5,iN a0_6,iN a0_7]),[])))))))))))):=by
 exact (yD Tryz.func28 rfl _).trans (by kernel_rfl)
theorem Jf (p:List D) (m1 m2 m3 m4 m5 m6 m7:Int) (cp cl cd:List D) (o i:Int):V 186 [.op [.os (5,0) p,iN m1,iN m2,iN m3,iN m4,iN m5,iN m6,iN m7,.rs (5,0) cp,.rs (4,0) cl,.rs (3,0) cd],iN o,iN i] =
 Sp 207 [.op [.os (5,0) p,iN m1,iN m2,iN m3,iN m4,iN m5,iN m6,iN m7,.rs (5,0) cp,.rs (4,0) cl,.rs (3,0) cd],iN m3,iN o] fun a b c d e f g h j k l m n=>(((br (!b)
 (some ((iN (7)),[.op [.os (5,0) c,iN d,iN e,iN f,iN g,iN h,iN j,iN k,.rs (5,0) l,.rs (4,0) m,.rs (3,0) n]]))
 (Sp 207 [.op [.os (5,0) c,iN d,iN e,iN f,iN g,iN h,iN j,iN k,.rs (5,0) l,.rs (4,0) m,.rs (3,0) n],iN a,iN i] fun q r s t u v w x y z A B C=>(((br (!r)
 (some ((iN (7)),[.op [.os (5,0) s,iN t,iN u,iN v,iN w,iN x,iN y,iN z,.rs (5,0) A,.rs (4,0) B,.rs (3,0) C]]))
 (Ph 185 [.op [.os (5,0) s,iN t,iN u,iN v,iN w,iN x,iN y,iN z,.rs (5,0) A,.rs (4,0) B,.rs (3,0) C],iN q] fun E F G H I J K L M N O=>(((some ((iN (0)),[.op [.os (5,0) E,iN F,iN G,iN H,iN I,iN J,iN K,iN L,.rs (5,0) M,.rs (4,0) N,.rs (3,0) O]])))))))))))):=by
 exact (yD Tryz.func186 rfl _).trans (by kernel_rfl)
theorem Ny (a0_0:List D) (a0_1 a0_2:Int):V 201 [.op [.rs (1,0) a0_0,iN a0_1,iN a0_2]] =
 ck7 76 [.op [.rs (1,0) a0_0,iN a0_1,iN a0_2],iN (8)] fun a b c d=>((br (a == 0)
 (some ((.agg [iN (1),iN (0),.str ({ data:=#[] }),iN (0),iN (0)]),[.op [.rs (1,0) b,iN c,iN d]]))
 (
 br (a == 1)
 (ck7 76 [.op [.rs (1,0) b,iN c,iN d],iN (2)] fun e f g h=>((some ((.agg [iN (2),iN e,.str ({ data:=#[] }),iN (0),iN (0)]),[.op [.rs (1,0) f,iN g,iN h]]))))
 (
 br (a == 2)
 (Lx 75 [.op [.rs (1,0) b,iN c,iN d],(.rs (1,0) [.str ({ data:=#[97] }),.str ({ data:=#[98,99] }),.str ({ data:=#[120] }),.str ({ data:=#[102] }),.str ({ data:=#[43] }),.str ({ data:=#[108,105,115,116] })])] fun e f g h=>((some ((.agg [iN (4),iN (0),.str e,iN (0),iN (0)]),[.op [.rs (1,0) f,iN g,iN h]]))))
 (
 br (a == 3)
 (ck7 76 [.op [.rs (1,0) b,iN c,iN d],iN (5)] fun e f g h=>((some ((.agg [iN (9),iN e,.str ({ data:=#[] }),iN (0),iN (0)]),[.op [.rs (1,0) f,iN g,iN h]]))))
 (
 br (a == 4)
 (ck7 76 [.op [.rs (1,0) b,iN c,iN d],iN (5)] fun e f g h=>((some ((.agg [iN (8),iN e,.str ({ data:=#[] }),iN (0),iN (0)]),[.op [.rs (1,0) f,iN g,iN h]]))))
 (ck7 76 [.op [.rs (1,0) b,iN c,iN d],iN (12)] fun e f g h=>((some ((.agg [iN (3),(iN (w6 (e - 3))),.str ({ data:=#[] }),iN (0),iN (0)]),[.op [.rs (1,0) f,iN g,iN h]])))))))))):=by
 exact (yD Tryz.func201 rfl _).trans (by kernel_rfl)
theorem OZ (a0_0 a0_1 a0_2 a1_0:List D) (a1_1 a1_2 a1_3 a1_4 a1_5 a1_6 a1_7:Int):V 15 [.agg [.rs (5,0) a0_0,.rs (4,0) a0_1,.rs (3,0) a0_2],.agg [.rs (5,0) a1_0,iN a1_1,iN a1_2,iN a1_3,iN a1_4,iN a1_5,iN a1_6,iN a1_7]] =
 ck6 59 [.agg [.rs (5,0) a0_0,.rs (4,0) a0_1,.rs (3,0) a0_2]] fun a=>(br (!a)
 (some ((.bool false),[]))
 (ck6 60 [.agg [.rs (5,0) a1_0]] fun b=>(br (!b)
 (some ((.bool false),[]))
 (ck6 61 [.agg [.rs (5,0) a1_0],iN a1_2] fun c=>(br (!c)
 (some ((.bool false),[]))
 (ck6 61 [.agg [.rs (5,0) a1_0],iN a1_3] fun d=>(br (!d)
 (some ((.bool false),[]))
 (ck6 61 [.agg [.rs (5,0) a1_0],iN a1_4] fun e=>(br (!e)
 (some ((.bool false),[]))
 (ck6 62 [iN a1_1,iN (0),(iN (w6 (ni a0_1.length - 1)))] fun f=>(br (a1_5 == 0)
 (
 br f
 (
 br (a1_6 == 0)
 (some ((.bool (a1_7 == 0)),[]))
 (some ((.bool false),[])))
 (some ((.bool false),[])))
 (
 br (a1_5 == 1)
 (
 br f
 (ck6 62 [iN a1_6,iN (13),iN (19)] fun g=>(br g
 (
 br (a1_6 != 18)
 (ck6 61 [.agg [.rs (5,0) a1_0],iN a1_7] fun h=>(some ((.bool h),[])))
 (some ((.bool false),[])))
 (some ((.bool false),[]))))
 (some ((.bool false),[])))
 (
 br (a1_5 == 2)
 (
 br (a1_1 == 0)
 (
 br (a1_6 == 0)
 (ck6 61 [.agg [.rs (5,0) a1_0],iN a1_7] fun g=>(some ((.bool g),[])))
 (some ((.bool false),[])))
 (some ((.bool false),[])))
 (
 br (a1_5 == 3)
 (
 br (a1_1 == 0)
 (ck6 62 [iN a1_6,iN (1),iN (7)] fun g=>(br g
 (some ((.bool (a1_7 == 0)),[]))
 (some ((.bool false),[]))))
 (some ((.bool false),[])))
 (some ((.bool false),[])))))))))))))))):=by
 exact (yD Tryz.func15 rfl _).trans (by kernel_rfl)
theorem Iv (p0 p1:Int) (p2 p3 p4:List D) (p5 p6 p7 p8 p9 p10 p11 p12 p13 p14 p15 p16 p17 p18:Int) (p19:List D):DP p0 p1 p2 p3 p4 p5 p6 p7 p8 p9 p10 p11 p12 p13 p14 p15 p16 p17 p18 p19 =
 Ct 116 [iN p0,iN (2000)] fun a=>(br (decide (p1 < a))
 (
 br (p9 == 0)
 (ck5 153 [.agg [.rs (5,0) p2,.rs (4,0) p3,.rs (3,0) p4],(.agg [.rs (5,0) p19,iN p5,iN p6,iN p7,iN p8,iN p9,iN p10,iN p11])] fun b c d e f g h i=>((ck5 162 [.agg [.os (5,0) b,iN c,iN d,iN e,iN f,iN g,iN h,iN i]] fun j k l m n o p q=>((DP p0 (w6 (p1 + 1)) p2 p3 p4 k l m n o p q p12 p13 p14 p15 p16 p17 p18 j)))))
 (some ((.tup [.agg [.os (5,0) p19,iN p5,iN p6,iN p7,iN p8,iN p9,iN p10,iN p11],iN p1]),[])))
 (some ((.tup [.agg [.os (5,0) p19,iN p5,iN p6,iN p7,iN p8,iN p9,iN p10,iN p11],iN p1]),[]))):=by
 exact (yC _ _ _).trans (by kernel_rfl)
theorem KH (p0:List D) (p1 p2:Int) (p3:List D):DD p0 p1 p2 p3 =
 br (decide (p1 < ni p0.length))
 (
 grd (decide (0 <= p1) && decide (p1 < ni p0.length)) (cT p0 p1.toNat fun a=>
 asI .i64 a fun b=>ck2 215 [.op [.os (5,0) p3,.os (4,0) [],.os (3,0) [],iN p2],iN b] fun c d e f=>(((br (f == 3)
 (some ((.tup [.agg [.os (5,0) [],.os (4,0) [],.os (3,0) []],iN (3),iN (0)]),[]))
 (
 br (f != 0)
 (some ((.tup [.agg [.os (5,0) [],.os (4,0) [],.os (3,0) []],iN f,iN p1]),[]))
 (AU p0 (w6 (p1 + 1)) f c d e)))))))
 (ck6 59 [.agg [.rs (5,0) p3,.rs (4,0) [],.rs (3,0) []]] fun a=>(br (!a)
 (some ((.tup [.agg [.os (5,0) [],.os (4,0) [],.os (3,0) []],iN (3),iN (0)]),[]))
 (some ((.tup [.agg [.os (5,0) p3,.os (4,0) [],.os (3,0) []],iN (0),(iN (ni p0.length))]),[])))):=by
 exact (yC _ _ _).trans (by kernel_rfl)
theorem Ja (p0:Int) (p1 p2:List D):AC p0 p1 p2 =
 grd (decide (0 <= p0) && decide (p0 < ni p2.length)) (cT p2 p0.toNat fun a=>
 asAgg a fun b=>cT b 0 fun c=>
 asI .i64 c fun d=>br (d == 5)
 (
 grd (decide (0 <= p0) && decide (p0 < ni p2.length)) (cT p2 p0.toNat fun e=>
 asAgg e fun f=>cT f 3 fun g=>
 asI .i64 g fun h=>grd (decide (ni (List.length (p1++[iN h])) <= LIM)) (nam (p1++[iN h]) fun i=>
 grd (decide (0 <= p0) && decide (p0 < ni p2.length)) (cT p2 p0.toNat fun j=>
 asAgg j fun k=>cT k 4 fun l=>
 asI .i64 l fun m=>AC m i p2))))
 (
 grd (decide (0 <= p0) && decide (p0 < ni p2.length)) (cT p2 p0.toNat fun e=>
 asAgg e fun f=>cT f 0 fun g=>
 asI .i64 g fun h=>some ((.tup [.os (1,0) p1,.bool (h == 1)]),[.op [.os (5,0) p2]])))):=by
 exact (yC _ _ _).trans (by kernel_rfl)
theorem FE (p0:List D) (p1:Int) (p2:List D):CK p0 p1 p2 =
 br (decide (p1 < ni p0.length))
 (
 grd (decide (0 <= p1) && decide (p1 < ni p0.length)) (cT p0 p1.toNat fun a=>
 asI .i64 a fun b=>ck6 61 [.agg [.rs (5,0) p2],iN b] fun c=>(br (!c)
 (some ((.tup [.agg [.os (5,0) [],.os (4,0) [],.os (3,0) []],iN (3),iN (0)]),[]))
 (CK p0 (w6 (p1 + 1)) p2))))
 (ck8 147 [.agg [.rs (5,0) p2]] fun a=>((DD p0 (0) (0) a))):=by
 exact (yC _ _ _).trans (by kernel_rfl)
theorem Vg (p:List D) (m1 m2 m3 m4 m5 m6 m7 v:Int):V 95 [.op [.os (5,0) p,iN m1,iN m2,iN m3,iN m4,iN m5,iN m6,iN m7],iN v] =
 ck9 158 [.op [.os (5,0) p],(.agg [iN (5),iN (0),.str ({ data:=#[] }),iN v,iN m2])] fun a b=>((some ((.tup []),[.op [.os (5,0) b,iN m1,iN a,iN m3,iN m4,iN m5,iN m6,iN m7]]))):=by
 exact (yD Tryz.func95 rfl _).trans (by kernel_rfl)
theorem TK (p q:List D) (v:Int):V 96 [.op [.os (5,0) p],.agg [.rs (5,0) q],iN v] =
 KM 149 [.agg [.rs (5,0) q],.rs (1,0) [iN v]] fun a=>(UF 148 [.op [.os (5,0) p],(.agg [.rs (5,0) q]),.rs (1,0) a] fun b c=>((grd (decide (0 <= v) && decide (v < ni b.length)) (cT b v.toNat fun d=>
 asI .i64 d fun e=>some ((iN e),[.op [.os (5,0) c]]))))):=by
 exact (yD Tryz.func96 rfl _).trans (by kernel_rfl)
theorem S9 (a0_0:List D) (a0_1 a0_2 a1_:Int):V 155 [.op [.rs (1,0) a0_0,iN a0_1,iN a0_2],iN a1_] =
 ck7 76 [.op [.rs (1,0) a0_0,iN a0_1,iN a0_2],iN a1_] fun a b c d=>((some ((.bool (a == 0)),[.op [.rs (1,0) b,iN c,iN d]]))):=by
 exact (yD Tryz.func155 rfl _).trans (by kernel_rfl)
theorem CT (p0 p1:List D) (p2 p3:Int):Aq p0 p1 p2 p3 =
 br (decide (p3 < p2))
 (
 grd (decide (0 <= p3) && decide (p3 < ni p0.length)) (cT p0 p3.toNat fun a=>
 asI .i64 a fun b=>ck6 136 [iN b,(.bp [.rs (5,0) p1])] fun c=>(br c
 (some ((iN p3),[]))
 (Aq p0 p1 p2 (w6 (p3 + 1))))))
 (some ((iN (-1)),[])):=by
 exact (yC _ _ _).trans (by kernel_rfl)
theorem Fa (p0 p1:Int) (p2 p3 p4 p5:List D):zL p0 p1 p2 p3 p4 p5 =
 br (decide (p0 < ni p2.length))
 (
 br (p1 == 0)
 (AF p0 (0) p1 p2 p3 p4 p5)
 (some ((.os (1,0) p2),[.op [.os (5,0) p3,.os (4,0) p4,.os (3,0) p5,iN p1]])))
 (some ((.os (1,0) p2),[.op [.os (5,0) p3,.os (4,0) p4,.os (3,0) p5,iN p1]])):=by
 exact (yC _ _ _).trans (by kernel_rfl)
theorem Ar (p0:List D) (p1:ByteArray) (p2 p3:Int):zz p0 p1 p2 p3 =
 br (decide (p3 < p2))
 (
 grd (decide (0 <= p3) && decide (p3 < ni p0.length)) (cT p0 p3.toNat fun a=>
 asS a fun b=>br (kc p1 b)
 (some ((iN p3),[]))
 (zz p0 p1 p2 (w6 (p3 + 1)))))
 (some ((iN (-1)),[])):=by
 exact (yC _ _ _).trans (by kernel_rfl)
theorem GB (p0:ByteArray) (p1:Int) (p2:List D):Dl p0 p1 p2 =
 br (decide (p1 <= 19))
 (
 grd (decide (0 <= p1) && decide (p1 < ni p2.length)) (cT p2 p1.toNat fun a=>
 asS a fun b=>br (kc b p0)
 (some ((iN p1),[]))
 (Dl p0 (w6 (p1 + 1)) p2)))
 (some ((iN (0)),[])):=by
 exact (yC _ _ _).trans (by kernel_rfl)
theorem UX (a0_0 a1_:List D):V 189 [.agg [.rs (5,0) a0_0],.rs (1,0) a1_] =
 grd (decide (0 <= ni a0_0.length) && decide (ni a0_0.length <= LIM)) (Ck a1_ (ni a1_.length) (0) a0_0 (List.replicate (Int.toNat (ni a0_0.length)) (D.bool false))):=by
 exact (yD Tryz.func189 rfl _).trans (by kernel_rfl)
theorem SE (a0_:ByteArray):V 208 [.str a0_] =
 KM 176 [] fun a=>(Ct 225 [.rs (1,0) a,.str a0_] fun b=>(some ((iN (w6 (b + 1))),[]))):=by
 exact (yD Tryz.func208 rfl _).trans (by kernel_rfl)
theorem Tk (p l d:List D) (h:Int) (x e:List D):V 236 [.op [.os (5,0) p,.os (4,0) l,.os (3,0) d,iN h],.rs (1,0) x,.rs (1,1) e] =
 Bx x e (0) h p l d:=by
 exact (yD Tryz.func236 rfl _).trans (by kernel_rfl)
theorem UZ (a0_0 a0_1 a0_2:List D) (a1_:ByteArray):V 129 [.agg [.rs (5,0) a0_0,.rs (4,0) a0_1,.rs (3,0) a0_2],.str a1_] =
 DI a1_ (0) a0_0 a0_1 a0_2:=by
 exact (yD Tryz.func129 rfl _).trans (by kernel_rfl)
theorem Fi (a0_:List D) (a1_:ByteArray):V 225 [.rs (1,0) a0_,.str a1_] =
 zz a0_ a1_ (ni a0_.length) (0):=by
 exact (yD Tryz.func225 rfl _).trans (by kernel_rfl)
theorem Nt (l:List D) (s:ByteArray):V 178 [.rs (3,0) l,.fn 179 [.bp [.str s]]] =
 AR l s (ni l.length) (0):=by
 exact (yD Tryz.func178 rfl _).trans (by kernel_rfl)
theorem Ve (a0_:List D) (a1_:ByteArray):V 248 [.rs (1,1) a0_,.str a1_] =
 Cq a0_ a1_ (0):=by
 exact (yD Tryz.func248 rfl _).trans (by kernel_rfl)

end Go.Eng
/-! the functions as the interpreter has them -/
namespace Go.Eng
open Go.Proofs Go.Proofs.Tryz
set_option maxRecDepth 100000
theorem Tp (p l d:List D) (h x:Int) (e:List D):V 244 [.op [.os (5,0) p,.os (4,0) l,.os (3,0) d,iN h],iN x,.rs (1,1) e] =
 br (h != 0)
 (some ((.tup []),[.op [.os (5,0) p,.os (4,0) l,.os (3,0) d,iN h]]))
 (
 grd (decide (0 <= x) && decide (x < ni p.length)) (cT p x.toNat fun a=>
 tk2 a fun b _ c _ _=>(br (b == 1)
 (
 br (b == 1)
 (ck1 237 [.op [.os (5,0) p,.os (4,0) l,.os (3,0) d,iN h],(.agg [iN (1),iN x,iN (0),.str ({ data:=#[] })])] fun _ f g i j=>((some ((.tup []),[.op [.os (5,0) f,.os (4,0) g,.os (3,0) i,iN j]]))))
 (
 br (b == 4)
 (ck6 238 [.str c] fun f=>(br f
 (some ((.tup []),[.op [.os (5,0) p,.os (4,0) l,.os (3,0) d,iN (1)]]))
 (YC 248 [.rs (1,1) e,.str c] fun g i=>((br (decide (g >= 0))
 (ck1 237 [.op [.os (5,0) p,.os (4,0) l,.os (3,0) d,iN h],(.agg [iN (2),iN g,iN i,.str ({ data:=#[] })])] fun _ j k m n=>((some ((.tup []),[.op [.os (5,0) j,.os (4,0) k,.os (3,0) m,iN n]]))))
 (ck1 237 [.op [.os (5,0) p,.os (4,0) l,.os (3,0) d,iN h],(.agg [iN (3),iN (0),iN (0),.str c])] fun _ j k m n=>((some ((.tup []),[.op [.os (5,0) j,.os (4,0) k,.os (3,0) m,iN n]])))))))))
 (
 br (b != 5)
 (some ((.tup []),[.op [.os (5,0) p,.os (4,0) l,.os (3,0) d,iN (1)]]))
 (ck3 228 [.agg [.rs (5,0) p],iN x] fun f g=>((br (!g)
 (some ((.tup []),[.op [.os (5,0) p,.os (4,0) l,.os (3,0) d,iN (1)]]))
 (
 grd (decide (0 <= 0) && decide (0 < ni f.length)) (cT f 0 fun i=>
 asI .i64 i fun j=>grd (decide (0 <= j) && decide (j < ni p.length)) (cT p j.toNat fun k=>
 tk2 k fun m _ n _ _=>(br (m == 4)
 (ck6 238 [.str n] fun o=>(br o
 (ck2 249 [.op [.os (5,0) p,.os (4,0) l,.os (3,0) d,iN h],.str n,.rs (1,0) f,.rs (1,1) e] fun q r s t=>(((some ((.tup []),[.op [.os (5,0) q,.os (4,0) r,.os (3,0) s,iN t]])))))
 (
 br (decide (ni f.length > 5))
 (some ((.tup []),[.op [.os (5,0) p,.os (4,0) l,.os (3,0) d,iN (1)]]))
 (zr e (0) h f p l d))))
 (
 br (decide (ni f.length > 5))
 (some ((.tup []),[.op [.os (5,0) p,.os (4,0) l,.os (3,0) d,iN (1)]]))
 (zr e (0) h f p l d))))))))))))
 (
 br (b == 2)
 (
 br (b == 2)
 (ck1 237 [.op [.os (5,0) p,.os (4,0) l,.os (3,0) d,iN h],(.agg [iN (1),iN x,iN (0),.str ({ data:=#[] })])] fun _ f g i j=>((some ((.tup []),[.op [.os (5,0) f,.os (4,0) g,.os (3,0) i,iN j]]))))
 (
 br (b == 4)
 (ck6 238 [.str c] fun f=>(br f
 (some ((.tup []),[.op [.os (5,0) p,.os (4,0) l,.os (3,0) d,iN (1)]]))
 (YC 248 [.rs (1,1) e,.str c] fun g i=>((br (decide (g >= 0))
 (ck1 237 [.op [.os (5,0) p,.os (4,0) l,.os (3,0) d,iN h],(.agg [iN (2),iN g,iN i,.str ({ data:=#[] })])] fun _ j k m n=>((some ((.tup []),[.op [.os (5,0) j,.os (4,0) k,.os (3,0) m,iN n]]))))
 (ck1 237 [.op [.os (5,0) p,.os (4,0) l,.os (3,0) d,iN h],(.agg [iN (3),iN (0),iN (0),.str c])] fun _ j k m n=>((some ((.tup []),[.op [.os (5,0) j,.os (4,0) k,.os (3,0) m,iN n]])))))))))
 (
 br (b != 5)
 (some ((.tup []),[.op [.os (5,0) p,.os (4,0) l,.os (3,0) d,iN (1)]]))
 (ck3 228 [.agg [.rs (5,0) p],iN x] fun f g=>((br (!g)
 (some ((.tup []),[.op [.os (5,0) p,.os (4,0) l,.os (3,0) d,iN (1)]]))
 (
 grd (decide (0 <= 0) && decide (0 < ni f.length)) (cT f 0 fun i=>
 asI .i64 i fun j=>grd (decide (0 <= j) && decide (j < ni p.length)) (cT p j.toNat fun k=>
 tk2 k fun m _ n _ _=>(br (m == 4)
 (ck6 238 [.str n] fun o=>(br o
 (ck2 249 [.op [.os (5,0) p,.os (4,0) l,.os (3,0) d,iN h],.str n,.rs (1,0) f,.rs (1,1) e] fun q r s t=>(((some ((.tup []),[.op [.os (5,0) q,.os (4,0) r,.os (3,0) s,iN t]])))))
 (
 br (decide (ni f.length > 5))
 (some ((.tup []),[.op [.os (5,0) p,.os (4,0) l,.os (3,0) d,iN (1)]]))
 (zr e (0) h f p l d))))
 (
 br (decide (ni f.length > 5))
 (some ((.tup []),[.op [.os (5,0) p,.os (4,0) l,.os (3,0) d,iN (1)]]))
 (zr e (0) h f p l d))))))))))))
 (
 br (b == 3)
 (ck1 237 [.op [.os (5,0) p,.os (4,0) l,.os (3,0) d,iN h],(.agg [iN (1),iN x,iN (0),.str ({ data:=#[] })])] fun _ f g i j=>((some ((.tup []),[.op [.os (5,0) f,.os (4,0) g,.os (3,0) i,iN j]]))))
 (
 br (b == 4)
 (ck6 238 [.str c] fun f=>(br f
 (some ((.tup []),[.op [.os (5,0) p,.os (4,0) l,.os (3,0) d,iN (1)]]))
 (YC 248 [.rs (1,1) e,.str c] fun g i=>((br (decide (g >= 0))
 (ck1 237 [.op [.os (5,0) p,.os (4,0) l,.os (3,0) d,iN h],(.agg [iN (2),iN g,iN i,.str ({ data:=#[] })])] fun _ j k m n=>((some ((.tup []),[.op [.os (5,0) j,.os (4,0) k,.os (3,0) m,iN n]]))))
 (ck1 237 [.op [.os (5,0) p,.os (4,0) l,.os (3,0) d,iN h],(.agg [iN (3),iN (0),iN (0),.str c])] fun _ j k m n=>((some ((.tup []),[.op [.os (5,0) j,.os (4,0) k,.os (3,0) m,iN n]])))))))))
 (
 br (b != 5)
 (some ((.tup []),[.op [.os (5,0) p,.os (4,0) l,.os (3,0) d,iN (1)]]))
 (ck3 228 [.agg [.rs (5,0) p],iN x] fun f g=>((br (!g)
 (some ((.tup []),[.op [.os (5,0) p,.os (4,0) l,.os (3,0) d,iN (1)]]))
 (
 grd (decide (0 <= 0) && decide (0 < ni f.length)) (cT f 0 fun i=>
 asI .i64 i fun j=>grd (decide (0 <= j) && decide (j < ni p.length)) (cT p j.toNat fun k=>
 tk2 k fun m _ n _ _=>(br (m == 4)
 (ck6 238 [.str n] fun o=>(br o
 (ck2 249 [.op [.os (5,0) p,.os (4,0) l,.os (3,0) d,iN h],.str n,.rs (1,0) f,.rs (1,1) e] fun q r s t=>(((some ((.tup []),[.op [.os (5,0) q,.os (4,0) r,.os (3,0) s,iN t]])))))
 (
 br (decide (ni f.length > 5))
 (some ((.tup []),[.op [.os (5,0) p,.os (4,0) l,.os (3,0) d,iN (1)]]))
 (zr e (0) h f p l d))))
 (
 br (decide (ni f.length > 5))
 (some ((.tup []),[.op [.os (5,0) p,.os (4,0) l,.os (3,0) d,iN (1)]]))
 (zr e (0) h f p l d)))))))))))))))):=by
 exact (yD Tryz.func244 rfl _).trans (by kernel_rfl)
theorem Lz (p:List D) (m1 m2 m3 m4 m5 m6 m7:Int) (cp cl cd:List D) :V 133 [.op [.os (5,0) p,iN m1,iN m2,iN m3,iN m4,iN m5,iN m6,iN m7,.rs (5,0) cp,.rs (4,0) cl,.rs (3,0) cd]] =
 Sp 182 [.op [.os (5,0) p,iN m1,iN m2,iN m3,iN m4,iN m5,iN m6,iN m7,.rs (5,0) cp,.rs (4,0) cl,.rs (3,0) cd]] fun a b c d e f g h i j k l m=>(((br (!b)
 (some ((iN (7)),[.op [.os (5,0) c,iN d,iN e,iN f,iN g,iN h,iN i,iN j,.rs (5,0) k,.rs (4,0) l,.rs (3,0) m]]))
 (
 grd (decide (0 <= g) && decide (g < ni c.length)) (cT c g.toNat fun n=>
 tk2 n fun o _ _ q r=>(br (o == 1)
 (some ((iN (0)),[.op [.os (5,0) c,iN (0),iN e,iN f,iN g,iN (2),iN i,iN a,.rs (5,0) k,.rs (4,0) l,.rs (3,0) m]]))
 (
 br (o != 5)
 (some ((iN (7)),[.op [.os (5,0) c,iN d,iN e,iN f,iN g,iN h,iN i,iN j,.rs (5,0) k,.rs (4,0) l,.rs (3,0) m]]))
 (Zr 119 [.op [.os (5,0) c],iN q] fun s t u=>(((br (!t)
 (some ((iN (7)),[.op [.os (5,0) u,iN d,iN e,iN f,iN g,iN h,iN i,iN j,.rs (5,0) k,.rs (4,0) l,.rs (3,0) m]]))
 (
 br (ni s.length != 3)
 (some ((iN (7)),[.op [.os (5,0) u,iN d,iN e,iN f,iN g,iN h,iN i,iN j,.rs (5,0) k,.rs (4,0) l,.rs (3,0) m]]))
 (
 grd (decide (0 <= 0) && decide (0 < ni s.length)) (cT s 0 fun v=>
 asI .i64 v fun w=>grd (decide (0 <= w) && decide (w < ni u.length)) (cT u w.toNat fun x=>
 asAgg x fun y=>cT y 0 fun z=>
 asI .i64 z fun A=>br (A != 3)
 (some ((iN (7)),[.op [.os (5,0) u,iN d,iN e,iN f,iN g,iN h,iN i,iN j,.rs (5,0) k,.rs (4,0) l,.rs (3,0) m]]))
 (
 grd (decide (0 <= 0) && decide (0 < ni s.length)) (cT s 0 fun B=>
 asI .i64 B fun C=>grd (decide (0 <= C) && decide (C < ni u.length)) (cT u C.toNat fun E=>
 asAgg E fun F=>cT F 1 fun G=>
 asI .i64 G fun H=>ck6 57 [.agg [.rs (5,0) k,.rs (4,0) l,.rs (3,0) m],iN H] fun I=>(br (!I)
 (some ((iN (7)),[.op [.os (5,0) u,iN d,iN e,iN f,iN g,iN h,iN i,iN j,.rs (5,0) k,.rs (4,0) l,.rs (3,0) m]]))
 (
 grd (decide (0 <= 0) && decide (0 < ni s.length)) (cT s 0 fun J=>
 asI .i64 J fun K=>grd (decide (0 <= K) && decide (K < ni u.length)) (cT u K.toNat fun L=>
 asAgg L fun M=>cT M 1 fun N=>
 asI .i64 N fun O=>grd (decide (0 <= 1) && decide (1 < ni s.length)) (cT s 1 fun P=>
 asI .i64 P fun Q=>grd (decide (0 <= 2) && decide (2 < ni s.length)) (cT s 2 fun R=>
 asI .i64 R fun S=>Ph 185 [.op [.os (5,0) u,iN O,iN Q,iN S,iN r,iN h,iN i,iN j,.rs (5,0) k,.rs (4,0) l,.rs (3,0) m],iN a] fun T U W X Y Z a0 a1 a2 a3 a4=>(((some ((iN (0)),[.op [.os (5,0) T,iN U,iN W,iN X,iN Y,iN Z,iN a0,iN a1,.rs (5,0) a2,.rs (4,0) a3,.rs (3,0) a4]])))))))))))))))))))))))))))):=by
 exact (yD Tryz.func133 rfl _).trans (by kernel_rfl)
theorem QY (cp cl cd p:List D) (m1 m2 m3 m4 m5 m6 m7 f:Int) (l:List D) (nx:Int):V 233 [.agg [.rs (5,0) cp,.rs (4,0) cl,.rs (3,0) cd],.op [.os (5,0) p,iN m1,iN m2,iN m3,iN m4,iN m5,iN m6,iN m7],iN f,.rs (1,0) l,iN nx] =
 grd (decide (0 <= f) && decide (f < ni p.length)) (cT p f.toNat fun a=>
 tk2 a fun b c _ d _=>(br (b == 6)
 (
 grd (!decide (8 = 0)) (br (Int.tmod c (8) != ni l.length)
 (some ((iN (2)),[.op [.os (5,0) p,iN m1,iN m2,iN m3,iN m4,iN m5,iN m6,iN m7]]))
 (
 grd (!decide (8 = 0)) (br (decide (w6 (Int.tdiv c (8)) >= ni cl.length))
 (some ((iN (7)),[.op [.os (5,0) p,iN m1,iN m2,iN m3,iN m4,iN m5,iN m6,iN m7]]))
 (ck9 158 [.op [.os (5,0) p],(.agg [iN (3),iN nx,.str ({ data:=#[] }),iN (0),iN (0)])] fun e g=>((ck9 210 [.op [.os (5,0) g],.rs (1,0) [iN e,iN m2,iN m3]] fun h i=>((ck9 158 [.op [.os (5,0) i],(.agg [iN (5),iN (0),.str ({ data:=#[] }),iN h,iN m4])] fun j k=>((ck9 210 [.op [.os (5,0) k],.rs (1,0) l] fun m n=>((ck9 158 [.op [.os (5,0) n],(.agg [iN (5),iN (0),.str ({ data:=#[] }),iN m,iN d])] fun o q=>((ck9 158 [.op [.os (5,0) q],(.agg [iN (1),iN (0),.str ({ data:=#[] }),iN (0),iN (0)])] fun r s=>((grd (!decide (8 = 0)) (some ((iN (0)),[(.op [.os (5,0) s,(iN (w6 (Int.tdiv c (8)))),iN r,iN o,iN j,iN m5,iN m6,iN m7])])))))))))))))))))))
 (
 br (b == 8)
 (Lv 240 [.agg [.rs (5,0) cp,.rs (4,0) cl,.rs (3,0) cd],(.op [.os (5,0) p,iN m1,iN m2,iN m3,iN m4,iN m5,iN m6,iN m7]),iN c,.rs (1,0) l,iN nx] fun e g h i j k m n o=>((some ((iN e),[.op [.os (5,0) g,iN h,iN i,iN j,iN k,iN m,iN n,iN o]]))))
 (
 br (b == 7)
 (
 br (ni l.length != 1)
 (some ((iN (2)),[.op [.os (5,0) p,iN m1,iN m2,iN m3,iN m4,iN m5,iN m6,iN m7]]))
 (Zu 234 [.agg [.rs (5,0) p],iN d,iN (4)] fun e g h=>((br (!h)
 (some ((iN (7)),[.op [.os (5,0) p,iN m1,iN m2,iN m3,iN m4,iN m5,iN m6,iN m7]]))
 (
 grd (decide (0 <= 0) && decide (0 < ni g.length)) (cT g 0 fun i=>
 asI .i64 i fun j=>grd (decide (0 <= 1) && decide (1 < ni g.length)) (cT g 1 fun k=>
 asI .i64 k fun m=>grd (decide (0 <= 2) && decide (2 < ni g.length)) (cT g 2 fun n=>
 asI .i64 n fun o=>grd (decide (0 <= 0) && decide (0 < ni l.length)) (cT l 0 fun q=>
 asI .i64 q fun r=>OI 95 [.op [.os (5,0) p,iN e,iN j,iN m,iN o,iN m5,iN m6,iN m7],iN r] fun s t u v w x y z=>(((some ((iN (0)),[.op [.os (5,0) s,iN t,iN u,iN v,iN w,iN x,iN y,iN z]])))))))))))))
 (some ((iN (3)),[.op [.os (5,0) p,iN m1,iN m2,iN m3,iN m4,iN m5,iN m6,iN m7]])))))):=by
 exact (yD Tryz.func233 rfl _).trans (by kernel_rfl)
theorem IA (p:List D) (m1 m2 m3 m4 m5 m6 m7:Int) (cp cl cd:List D) (n:Int) (l:List D):V 205 [.op [.os (5,0) p,iN m1,iN m2,iN m3,iN m4,iN m5,iN m6,iN m7,.rs (5,0) cp,.rs (4,0) cl,.rs (3,0) cd],iN n,.rs (1,0) l] =
 Ct 223 [iN n] fun a=>(br (a != ni l.length)
 (some ((iN (2)),[.op [.os (5,0) p,iN m1,iN m2,iN m3,iN m4,iN m5,iN m6,iN m7,.rs (5,0) cp,.rs (4,0) cl,.rs (3,0) cd]]))
 (
 br (n == 18)
 (ck9 157 [.op [.os (5,0) p],(.agg [iN (3),(iN (w6 (m1 + 1))),.str ({ data:=#[] }),iN (0),iN (0)])] fun b c=>((ck9 222 [.op [.os (5,0) c],.rs (1,0) [iN b,iN m2,iN m3,iN m4]] fun d e=>((ck9 157 [.op [.os (5,0) e],(.agg [iN (7),iN (0),.str ({ data:=#[] }),iN d,iN (0)])] fun f g=>((grd (decide (0 <= 0) && decide (0 < ni l.length)) (cT l 0 fun h=>
 asI .i64 h fun i=>GX 184 [.op [.os (5,0) g,iN m1,iN m2,iN m3,iN m4,iN m5,iN m6,iN m7,.rs (5,0) cp,.rs (4,0) cl,.rs (3,0) cd],iN i,.rs (1,0) [iN f]] fun j k m o q r s t u v w x=>((some ((iN j),[.op [.os (5,0) k,iN m,iN o,iN q,iN r,iN s,iN t,iN u,.rs (5,0) v,.rs (4,0) w,.rs (3,0) x]])))))))))))
 (
 br (decide (n > 12))
 (ck9 222 [.op [.os (5,0) p],.rs (1,0) l] fun b c=>((some ((iN (0)),[.op [.os (5,0) c,iN m1,iN m2,iN m3,iN m4,iN (1),iN n,iN b,.rs (5,0) cp,.rs (4,0) cl,.rs (3,0) cd]]))))
 (YD 224 [.op [.os (5,0) p],iN n,.rs (1,0) l] fun b c d=>(((br (c == 3)
 (some ((iN (4)),[.op [.os (5,0) d,iN m1,iN m2,iN m3,iN m4,iN m5,iN m6,iN m7,.rs (5,0) cp,.rs (4,0) cl,.rs (3,0) cd]]))
 (
 br (c == 4)
 (some ((iN (5)),[.op [.os (5,0) d,iN m1,iN m2,iN m3,iN m4,iN m5,iN m6,iN m7,.rs (5,0) cp,.rs (4,0) cl,.rs (3,0) cd]]))
 (Ph 185 [.op [.os (5,0) d,iN m1,iN m2,iN m3,iN m4,iN m5,iN m6,iN m7,.rs (5,0) cp,.rs (4,0) cl,.rs (3,0) cd],iN b] fun e f g h i j k m o q r=>(((some ((iN (0)),[(.op [.os (5,0) e,(iN (w6 (f + 1))),iN g,iN h,iN i,iN j,iN k,iN m,.rs (5,0) o,.rs (4,0) q,.rs (3,0) r])]))))))))))))):=by
 exact (yD Tryz.func205 rfl _).trans (by kernel_rfl)
theorem JQ (p:List D) (m1 m2 m3 m4 m5 m6 m7:Int) (cp cl cd:List D) (s:ByteArray):V 187 [.op [.os (5,0) p,iN m1,iN m2,iN m3,iN m4,iN m5,iN m6,iN m7,.rs (5,0) cp,.rs (4,0) cl,.rs (3,0) cd],.str s] =
 Ct 125 [.agg [.rs (5,0) cp,.rs (4,0) cl,.rs (3,0) cd],.str s] fun a=>(br (decide (a >= 0))
 (
 grd (decide (0 <= a) && decide (a < ni cd.length)) (cT cd a.toNat fun b=>
 tk3 b fun _ c d=>(ck9 157 [.op [.os (5,0) p],(.agg [iN (1),iN (0),.str ({ data:=#[] }),iN (0),iN (0)])] fun e f=>((ck9 157 [.op [.os (5,0) f],(.agg [iN (6),(iN (w6 (w6 (8 * c) + d))),.str ({ data:=#[] }),iN e,iN (0)])] fun g h=>((Ph 185 [.op [.os (5,0) h,iN m1,iN m2,iN m3,iN m4,iN m5,iN m6,iN m7,.rs (5,0) cp,.rs (4,0) cl,.rs (3,0) cd],iN g] fun i j k l m n o q r t u=>(((some ((iN (0)),[.op [.os (5,0) i,iN j,iN k,iN l,iN m,iN n,iN o,iN q,.rs (5,0) r,.rs (4,0) t,.rs (3,0) u]])))))))))))
 (Ct 208 [.str s] fun b=>(br (b == 0)
 (some ((iN (1)),[.op [.os (5,0) p,iN m1,iN m2,iN m3,iN m4,iN m5,iN m6,iN m7,.rs (5,0) cp,.rs (4,0) cl,.rs (3,0) cd]]))
 (ck9 157 [.op [.os (5,0) p],(.agg [iN (8),iN b,.str ({ data:=#[] }),iN (0),iN (0)])] fun c d=>((Ph 185 [.op [.os (5,0) d,iN m1,iN m2,iN m3,iN m4,iN m5,iN m6,iN m7,.rs (5,0) cp,.rs (4,0) cl,.rs (3,0) cd],iN c] fun e f g h i j k l m n o=>(((some ((iN (0)),[.op [.os (5,0) e,iN f,iN g,iN h,iN i,iN j,iN k,iN l,.rs (5,0) m,.rs (4,0) n,.rs (3,0) o]])))))))))):=by
 exact (yD Tryz.func187 rfl _).trans (by kernel_rfl)
theorem KJ (p0:ByteArray) (p1 p2:List D) (p3 p4:Int) (p5 p6 p7:List D):AE p0 p1 p2 p3 p4 p5 p6 p7 =
 br (decide (p3 < ni p7.length))
 (
 br (p4 == 0)
 (
 grd (decide (0 <= p3) && decide (p3 < ni p7.length)) (cT p7 p3.toNat fun a=>
 asAgg a fun b=>cT b 0 fun c=>
 asS c fun d=>br (kc d p0)
 (AE p0 p1 p2 (w6 (p3 + 1)) (2) p5 p6 p7)
 (AE p0 p1 p2 (w6 (p3 + 1)) p4 p5 p6 p7)))
 (
 grd (decide (ni (List.length (p7++[D.agg [D.str p0,iN (ni p6.length),iN (ni p1.length)]])) <= LIM)) (nam (p7++[D.agg [D.str p0,iN (ni p6.length),iN (ni p1.length)]]) fun a=>
 ck2 236 [.op [.os (5,0) p5,.os (4,0) p6,.os (3,0) a,iN p4],.rs (1,0) p2,(.rs (1,1) [.rs (1,0) p1])] fun b c d e=>(((ck1 237 [.op [.os (5,0) b,.os (4,0) c,.os (3,0) d,iN e],(.agg [iN (8),iN (0),iN (0),.str ({ data:=#[] })])] fun _ f g h i=>((some ((.tup []),[.op [.os (5,0) f,.os (4,0) g,.os (3,0) h,iN i]])))))))))
 (
 grd (decide (ni (List.length (p7++[D.agg [D.str p0,iN (ni p6.length),iN (ni p1.length)]])) <= LIM)) (nam (p7++[D.agg [D.str p0,iN (ni p6.length),iN (ni p1.length)]]) fun a=>
 ck2 236 [.op [.os (5,0) p5,.os (4,0) p6,.os (3,0) a,iN p4],.rs (1,0) p2,(.rs (1,1) [.rs (1,0) p1])] fun b c d e=>(((ck1 237 [.op [.os (5,0) b,.os (4,0) c,.os (3,0) d,iN e],(.agg [iN (8),iN (0),iN (0),.str ({ data:=#[] })])] fun _ f g h i=>((some ((.tup []),[.op [.os (5,0) f,.os (4,0) g,.os (3,0) h,iN i]])))))))):=by
 exact (yC _ _ _).trans (by kernel_rfl)
theorem U7 (a0_:ByteArray):V 227 [.str a0_] =
 br (decide (ni (ByteArray.size a0_) > 1))
 (
 grd (decide (0 <= 0) && decide (0 < ni (ByteArray.size a0_))) (br (bt a0_ (0) == 45)
 (
 grd (cW (ByteArray.size a0_) (some (1)) none) (br (decide (ni (ByteArray.size (ByteArray.extract a0_ (Int.toNat (1)) (ByteArray.size a0_))) > 10))
 (some ((.tup [iN (0),.bool false]),[]))
 (
 br (ni (ByteArray.size (ByteArray.extract a0_ (Int.toNat (1)) (ByteArray.size a0_))) == 0)
 (some ((.tup [iN (0),.bool false]),[]))
 (z6 a0_ (ByteArray.extract a0_ (Int.toNat (1)) (ByteArray.size a0_)) (0) (0)))))
 (
 br (decide (ni (ByteArray.size a0_) > 10))
 (some ((.tup [iN (0),.bool false]),[]))
 (
 br (ni (ByteArray.size a0_) == 0)
 (some ((.tup [iN (0),.bool false]),[]))
 (z6 a0_ a0_ (0) (0))))))
 (
 br (decide (ni (ByteArray.size a0_) > 10))
 (some ((.tup [iN (0),.bool false]),[]))
 (
 br (ni (ByteArray.size a0_) == 0)
 (some ((.tup [iN (0),.bool false]),[]))
 (z6 a0_ a0_ (0) (0)))):=by
 exact (yD Tryz.func227 rfl _).trans (by kernel_rfl)
theorem Pq (a0_:Int):V 223 [iN a0_] =
 ck6 58 [iN a0_,iN (1),iN (19)] fun a=>(br (!a)
 (some ((iN (-1)),[]))
 (
 grd (decide (0 <= w6 (a0_ - 1)) && decide (w6 (a0_ - 1) < ni 19)) (cT ([iN (2),iN (2),iN (2),iN (2),iN (2),iN (2),iN (1),iN (1),iN (1),iN (1),iN (2),iN (1),iN (1),iN (0),iN (2),iN (0),iN (1),iN (1),iN (1)]) (Int.toNat (w6 (a0_ - 1))) fun b=>
 asI .i64 b fun c=>some ((iN c),[])))):=by
 exact (yD Tryz.func223 rfl _).trans (by kernel_rfl)
theorem DZ (p0:List D) (p1 p2:Int) (p3:List D):Bq p0 p1 p2 p3 =
 br (decide (p2 >= 0))
 (
 grd (decide (0 <= p2) && decide (p2 < ni p0.length)) (cT p0 p2.toNat fun a=>
 asI .i64 a fun b=>ck9 94 [.op [.os (5,0) p3],iN b,iN p1] fun c d=>((Bq p0 c (w6 (p2 - 1)) d))))
 (some ((iN p1),[.op [.os (5,0) p3]])):=by
 exact (yC _ _ _).trans (by kernel_rfl)
theorem NG (a0_:ByteArray):V 238 [.str a0_] =
 br (kc a0_ { data:=#[113,117,111,116,101] })
 (some ((.bool true),[]))
 (
 br (kc a0_ { data:=#[105,102] })
 (some ((.bool true),[]))
 (
 br (kc a0_ { data:=#[102,110] })
 (some ((.bool true),[]))
 (
 br (kc a0_ { data:=#[100,111] })
 (some ((.bool true),[]))
 (
 br (kc a0_ { data:=#[108,101,116] })
 (some ((.bool true),[]))
 (some ((.bool (kc a0_ { data:=#[100,101,102,105,110,101] })),[])))))):=by
 exact (yD Tryz.func238 rfl _).trans (by kernel_rfl)
theorem Tg (p l:List D):V 210 [.op [.os (5,0) p],.rs (1,0) l] =
 ck9 158 [.op [.os (5,0) p],(.agg [iN (1),iN (0),.str ({ data:=#[] }),iN (0),iN (0)])] fun a b=>((Dn l a (w6 (ni l.length - 1)) b)):=by
 exact (yD Tryz.func210 rfl _).trans (by kernel_rfl)
theorem LZ (p q l:List D):V 137 [.op [.os (5,0) p],.agg [.rs (5,0) q],.rs (1,0) l] =
 grd (decide (0 <= ni q.length) && decide (ni q.length <= LIM)) (KM 189 [.agg [.rs (5,0) q],.rs (1,0) l] fun a=>(y9 q (ni q.length) (0) (List.replicate (Int.toNat (ni q.length)) (iN (0))) a p)):=by
 exact (yD Tryz.func137 rfl _).trans (by kernel_rfl)
theorem QN (a0_0 a1_:List D):V 65 [.agg [.rs (5,0) a0_0],.rs (1,0) a1_] =
 ck6 55 [.agg [.rs (5,0) a0_0]] fun a=>(br a
 (ck6 135 [.rs (1,0) a1_,(.fn 136 [(.bp [.rs (5,0) a0_0])])] fun b=>(some ((.bool (!b)),[])))
 (some ((.bool false),[]))):=by
 exact (yD Tryz.func65 rfl _).trans (by kernel_rfl)
theorem OT (p:List D) (n:Int) (l:List D):V 224 [.op [.os (5,0) p],iN n,.rs (1,0) l] =
 zd n l l (ni l.length) (0) p:=by
 exact (yD Tryz.func224 rfl _).trans (by kernel_rfl)
theorem LY (p:List D) (v:Int):V 119 [.op [.os (5,0) p],iN v] =
 AC v [] p:=by
 exact (yD Tryz.func119 rfl _).trans (by kernel_rfl)

end Go.Eng
/-! the functions as the interpreter has them -/
namespace Go.Eng
open Go.Proofs Go.Proofs.Tryz
set_option maxRecDepth 100000
theorem W9 (a0_0 a0_1 a0_2 a1_0:List D) (a1_1 a1_2 a1_3 a1_4 a1_5 a1_6 a1_7:Int):V 64 [.agg [.rs (5,0) a0_0,.rs (4,0) a0_1,.rs (3,0) a0_2],.agg [.rs (5,0) a1_0,iN a1_1,iN a1_2,iN a1_3,iN a1_4,iN a1_5,iN a1_6,iN a1_7]] =
 ck5 63 [.agg [.rs (5,0) a1_0,iN a1_1,iN a1_2,iN a1_3,iN a1_4,iN a1_5,iN a1_6,iN a1_7]] fun a b c d e f g h=>((grd (decide (0 <= a1_1) && decide (a1_1 < ni a0_1.length)) (cT a0_1 a1_1.toNat fun i=>
 tk1 i fun j k l m=>(br (j == 7)
 (GX 132 [.op [.os (5,0) a,iN b,iN c,iN d,iN e,iN f,iN g,iN h,.rs (5,0) a0_0,.rs (4,0) a0_1,.rs (3,0) a0_2],iN l] fun n o p q r s t u v _ _ _=>((br (n == 0)
 (
 br (decide (ni o.length > 3000))
 (ck5 92 [.agg [.rs (5,0) a1_0,iN a1_1,iN a1_2,iN a1_3,iN a1_4,iN a1_5,iN a1_6,iN a1_7],iN (6)] fun w x y z A B C E=>((some ((.agg [.os (5,0) w,iN x,iN y,iN z,iN A,iN B,iN C,iN E]),[]))))
 (
 br (n != 0)
 (ck5 92 [.agg [.rs (5,0) a1_0,iN a1_1,iN a1_2,iN a1_3,iN a1_4,iN a1_5,iN a1_6,iN a1_7],iN n] fun w x y z A B C E=>((some ((.agg [.os (5,0) w,iN x,iN y,iN z,iN A,iN B,iN C,iN E]),[]))))
 (some ((.agg [.os (5,0) o,iN p,iN q,iN r,iN s,iN t,iN u,iN v]),[]))))
 (
 br (n != 0)
 (ck5 92 [.agg [.rs (5,0) a1_0,iN a1_1,iN a1_2,iN a1_3,iN a1_4,iN a1_5,iN a1_6,iN a1_7],iN n] fun w x y z A B C E=>((some ((.agg [.os (5,0) w,iN x,iN y,iN z,iN A,iN B,iN C,iN E]),[]))))
 (some ((.agg [.os (5,0) o,iN p,iN q,iN r,iN s,iN t,iN u,iN v]),[]))))))
 (
 br (j == 8)
 (GX 133 [.op [.os (5,0) a,iN b,iN c,iN d,iN e,iN f,iN g,iN h,.rs (5,0) a0_0,.rs (4,0) a0_1,.rs (3,0) a0_2]] fun n o p q r s t u v _ _ _=>((br (n == 0)
 (
 br (decide (ni o.length > 3000))
 (ck5 92 [.agg [.rs (5,0) a1_0,iN a1_1,iN a1_2,iN a1_3,iN a1_4,iN a1_5,iN a1_6,iN a1_7],iN (6)] fun w x y z A B C E=>((some ((.agg [.os (5,0) w,iN x,iN y,iN z,iN A,iN B,iN C,iN E]),[]))))
 (
 br (n != 0)
 (ck5 92 [.agg [.rs (5,0) a1_0,iN a1_1,iN a1_2,iN a1_3,iN a1_4,iN a1_5,iN a1_6,iN a1_7],iN n] fun w x y z A B C E=>((some ((.agg [.os (5,0) w,iN x,iN y,iN z,iN A,iN B,iN C,iN E]),[]))))
 (some ((.agg [.os (5,0) o,iN p,iN q,iN r,iN s,iN t,iN u,iN v]),[]))))
 (
 br (n != 0)
 (ck5 92 [.agg [.rs (5,0) a1_0,iN a1_1,iN a1_2,iN a1_3,iN a1_4,iN a1_5,iN a1_6,iN a1_7],iN n] fun w x y z A B C E=>((some ((.agg [.os (5,0) w,iN x,iN y,iN z,iN A,iN B,iN C,iN E]),[]))))
 (some ((.agg [.os (5,0) o,iN p,iN q,iN r,iN s,iN t,iN u,iN v]),[]))))))
 (GX 134 [.op [.os (5,0) a,iN b,iN c,iN d,iN e,iN f,iN g,iN h,.rs (5,0) a0_0,.rs (4,0) a0_1,.rs (3,0) a0_2],.agg [iN j,iN k,iN l,.str m]] fun n o p q r s t u v _ _ _=>((br (n == 0)
 (
 br (decide (ni o.length > 3000))
 (ck5 92 [.agg [.rs (5,0) a1_0,iN a1_1,iN a1_2,iN a1_3,iN a1_4,iN a1_5,iN a1_6,iN a1_7],iN (6)] fun w x y z A B C E=>((some ((.agg [.os (5,0) w,iN x,iN y,iN z,iN A,iN B,iN C,iN E]),[]))))
 (
 br (n != 0)
 (ck5 92 [.agg [.rs (5,0) a1_0,iN a1_1,iN a1_2,iN a1_3,iN a1_4,iN a1_5,iN a1_6,iN a1_7],iN n] fun w x y z A B C E=>((some ((.agg [.os (5,0) w,iN x,iN y,iN z,iN A,iN B,iN C,iN E]),[]))))
 (some ((.agg [.os (5,0) o,iN p,iN q,iN r,iN s,iN t,iN u,iN v]),[]))))
 (
 br (n != 0)
 (ck5 92 [.agg [.rs (5,0) a1_0,iN a1_1,iN a1_2,iN a1_3,iN a1_4,iN a1_5,iN a1_6,iN a1_7],iN n] fun w x y z A B C E=>((some ((.agg [.os (5,0) w,iN x,iN y,iN z,iN A,iN B,iN C,iN E]),[]))))
 (some ((.agg [.os (5,0) o,iN p,iN q,iN r,iN s,iN t,iN u,iN v]),[]))))))))))):=by
 exact (yD Tryz.func64 rfl _).trans (by kernel_rfl)
theorem NF (a0_0:List D) (a0_1 a0_2 a1_:Int):V 214 [.op [.rs (1,0) a0_0,iN a0_1,iN a0_2],iN a1_] =
 br (decide (a1_ <= 0))
 (Lx 75 [.op [.rs (1,0) a0_0,iN a0_1,iN a0_2],(.rs (1,0) [.str ({ data:=#[49] }),.str ({ data:=#[120] }),.str ({ data:=#[121] }),.str ({ data:=#[45,50] }),.str ({ data:=#[35,116] }),.str ({ data:=#[40,41] }),.str ({ data:=#[102] }),.str ({ data:=#[40,113,117,111,116,101,32,97,41] }),.str ({ data:=#[48] })])] fun a b c d=>((some ((.str a),[.op [.rs (1,0) b,iN c,iN d]]))))
 (Lx 214 [.op [.rs (1,0) a0_0,iN a0_1,iN a0_2],(iN (w6 (a1_ - 1)))] fun a b c d=>((Lx 214 [.op [.rs (1,0) b,iN c,iN d],(iN (w6 (a1_ - 1)))] fun e f g h=>((ck7 76 [.op [.rs (1,0) f,iN g,iN h],iN (9)] fun i j k l=>((br (i == 0)
 (grd (decide (ni (ByteArray.size { data:=#[40,105,102,32] } + ByteArray.size a) <= LIM)) (grd (decide (ni (ByteArray.size ({ data:=#[40,105,102,32] }++a) + ByteArray.size { data:=#[32] }) <= LIM)) (grd (decide (ni (ByteArray.size ({ data:=#[40,105,102,32] }++a++{ data:=#[32] }) + ByteArray.size e) <= LIM)) (grd (decide (ni (ByteArray.size ({ data:=#[40,105,102,32] }++a++{ data:=#[32] }++e) + ByteArray.size { data:=#[32] }) <= LIM)) (Lx 214 [.op [.rs (1,0) j,iN k,iN l],(iN (w6 (a1_ - 2)))] fun m n o p=>((grd (decide (ni (ByteArray.size ({ data:=#[40,105,102,32] }++a++{ data:=#[32] }++e++{ data:=#[32] }) + ByteArray.size m) <= LIM)) (grd (decide (ni (ByteArray.size ({ data:=#[40,105,102,32] }++a++{ data:=#[32] }++e++{ data:=#[32] }++m) + ByteArray.size { data:=#[41] }) <= LIM)) (some ((.str ({ data:=#[40,105,102,32] }++a++{ data:=#[32] }++e++{ data:=#[32] }++m++{ data:=#[41] })),[.op [.rs (1,0) n,iN o,iN p]]))))))))))
 (
 br (i == 1)
 (grd (decide (ni (ByteArray.size { data:=#[40,102,110,32,40,120,32,121,41,32] } + ByteArray.size a) <= LIM)) (grd (decide (ni (ByteArray.size ({ data:=#[40,102,110,32,40,120,32,121,41,32] }++a) + ByteArray.size { data:=#[41] }) <= LIM)) (some ((.str ({ data:=#[40,102,110,32,40,120,32,121,41,32] }++a++{ data:=#[41] })),[.op [.rs (1,0) j,iN k,iN l]]))))
 (
 br (i == 2)
 (grd (decide (ni (ByteArray.size { data:=#[40,108,101,116,32,120,32] } + ByteArray.size a) <= LIM)) (grd (decide (ni (ByteArray.size ({ data:=#[40,108,101,116,32,120,32] }++a) + ByteArray.size { data:=#[32] }) <= LIM)) (grd (decide (ni (ByteArray.size ({ data:=#[40,108,101,116,32,120,32] }++a++{ data:=#[32] }) + ByteArray.size e) <= LIM)) (grd (decide (ni (ByteArray.size ({ data:=#[40,108,101,116,32,120,32] }++a++{ data:=#[32] }++e) + ByteArray.size { data:=#[41] }) <= LIM)) (some ((.str ({ data:=#[40,108,101,116,32,120,32] }++a++{ data:=#[32] }++e++{ data:=#[41] })),[.op [.rs (1,0) j,iN k,iN l]]))))))
 (
 br (i == 3)
 (grd (decide (ni (ByteArray.size { data:=#[40,100,111,32] } + ByteArray.size a) <= LIM)) (grd (decide (ni (ByteArray.size ({ data:=#[40,100,111,32] }++a) + ByteArray.size { data:=#[32] }) <= LIM)) (grd (decide (ni (ByteArray.size ({ data:=#[40,100,111,32] }++a++{ data:=#[32] }) + ByteArray.size e) <= LIM)) (grd (decide (ni (ByteArray.size ({ data:=#[40,100,111,32] }++a++{ data:=#[32] }++e) + ByteArray.size { data:=#[41] }) <= LIM)) (some ((.str ({ data:=#[40,100,111,32] }++a++{ data:=#[32] }++e++{ data:=#[41] })),[.op [.rs (1,0) j,iN k,iN l]]))))))
 (
 br (i == 4)
 (grd (decide (ni (ByteArray.size { data:=#[40,112,114,105,110,116,32] } + ByteArray.size a) <= LIM)) (grd (decide (ni (ByteArray.size ({ data:=#[40,112,114,105,110,116,32] }++a) + ByteArray.size { data:=#[41] }) <= LIM)) (some ((.str ({ data:=#[40,112,114,105,110,116,32] }++a++{ data:=#[41] })),[.op [.rs (1,0) j,iN k,iN l]]))))
 (
 br (i == 5)
 (grd (decide (ni (ByteArray.size { data:=#[40,40,102,110,32,40,121,41,32] } + ByteArray.size a) <= LIM)) (grd (decide (ni (ByteArray.size ({ data:=#[40,40,102,110,32,40,121,41,32] }++a) + ByteArray.size { data:=#[41,32] }) <= LIM)) (grd (decide (ni (ByteArray.size ({ data:=#[40,40,102,110,32,40,121,41,32] }++a++{ data:=#[41,32] }) + ByteArray.size e) <= LIM)) (grd (decide (ni (ByteArray.size ({ data:=#[40,40,102,110,32,40,121,41,32] }++a++{ data:=#[41,32] }++e) + ByteArray.size { data:=#[41] }) <= LIM)) (some ((.str ({ data:=#[40,40,102,110,32,40,121,41,32] }++a++{ data:=#[41,32] }++e++{ data:=#[41] })),[.op [.rs (1,0) j,iN k,iN l]]))))))
 (
 br (i == 6)
 (Lx 75 [.op [.rs (1,0) j,iN k,iN l],(.rs (1,0) [.str ({ data:=#[43] }),.str ({ data:=#[45] }),.str ({ data:=#[42] }),.str ({ data:=#[60] }),.str ({ data:=#[61] }),.str ({ data:=#[99,111,110,115] }),.str ({ data:=#[101,113,63] })])] fun m n o p=>((grd (decide (ni (ByteArray.size { data:=#[40] } + ByteArray.size m) <= LIM)) (grd (decide (ni (ByteArray.size ({ data:=#[40] }++m) + ByteArray.size { data:=#[32] }) <= LIM)) (grd (decide (ni (ByteArray.size ({ data:=#[40] }++m++{ data:=#[32] }) + ByteArray.size a) <= LIM)) (grd (decide (ni (ByteArray.size ({ data:=#[40] }++m++{ data:=#[32] }++a) + ByteArray.size { data:=#[32] }) <= LIM)) (grd (decide (ni (ByteArray.size ({ data:=#[40] }++m++{ data:=#[32] }++a++{ data:=#[32] }) + ByteArray.size e) <= LIM)) (grd (decide (ni (ByteArray.size ({ data:=#[40] }++m++{ data:=#[32] }++a++{ data:=#[32] }++e) + ByteArray.size { data:=#[41] }) <= LIM)) (some ((.str ({ data:=#[40] }++m++{ data:=#[32] }++a++{ data:=#[32] }++e++{ data:=#[41] })),[.op [.rs (1,0) n,iN o,iN p]]))))))))))
 (
 br (i == 7)
 (Lx 75 [.op [.rs (1,0) j,iN k,iN l],(.rs (1,0) [.str ({ data:=#[99,97,114] }),.str ({ data:=#[99,100,114] }),.str ({ data:=#[110,117,108,108,63] }),.str ({ data:=#[112,97,105,114,63] }),.str ({ data:=#[110,111,116] }),.str ({ data:=#[99,97,108,108,99,99] })])] fun m n o p=>((grd (decide (ni (ByteArray.size { data:=#[40] } + ByteArray.size m) <= LIM)) (grd (decide (ni (ByteArray.size ({ data:=#[40] }++m) + ByteArray.size { data:=#[32] }) <= LIM)) (grd (decide (ni (ByteArray.size ({ data:=#[40] }++m++{ data:=#[32] }) + ByteArray.size a) <= LIM)) (grd (decide (ni (ByteArray.size ({ data:=#[40] }++m++{ data:=#[32] }++a) + ByteArray.size { data:=#[41] }) <= LIM)) (some ((.str ({ data:=#[40] }++m++{ data:=#[32] }++a++{ data:=#[41] })),[.op [.rs (1,0) n,iN o,iN p]]))))))))
 (some ((.str a),[.op [.rs (1,0) j,iN k,iN l]])))))))))))))))):=by
 exact (yD Tryz.func214 rfl _).trans (by kernel_rfl)
theorem W7 (a0_0:List D) (a0_1 a0_2 a0_3 a0_4 a0_5 a0_6 a0_7:Int):V 18 [.agg [.rs (5,0) a0_0,iN a0_1,iN a0_2,iN a0_3,iN a0_4,iN a0_5,iN a0_6,iN a0_7]] =
 br (a0_5 == 1)
 (grd (decide (ni 4 <= LIM)) (ck6 65 [.agg [.rs (5,0) a0_0],.rs (1,0) [iN a0_2,iN a0_3,iN a0_4,iN a0_7]] fun a=>(br (!a)
 (ck5 63 [.agg [.rs (5,0) a0_0,iN a0_1,iN a0_2,iN a0_3,iN a0_4,iN a0_5,iN a0_6,iN a0_7]] fun b c d e f g h i=>((some ((.agg [.os (5,0) b,iN c,iN d,iN e,iN f,iN g,iN h,iN i]),[]))))
 (UI 66 [.agg [.rs (5,0) a0_0],.rs (1,0) [iN a0_2,iN a0_3,iN a0_4,iN a0_7]] fun b c=>(((grd (decide (0 <= 0) && decide (0 < ni c.length)) (cT c 0 fun d=>
 asI .i64 d fun e=>grd (decide (0 <= 1) && decide (1 < ni c.length)) (cT c 1 fun f=>
 asI .i64 f fun g=>grd (decide (0 <= 2) && decide (2 < ni c.length)) (cT c 2 fun h=>
 asI .i64 h fun i=>grd (decide (0 <= 3) && decide (3 < ni c.length)) (cT c 3 fun j=>
 asI .i64 j fun k=>some ((.agg [.os (5,0) b,iN a0_1,iN e,iN g,iN i,iN a0_5,iN a0_6,iN k]),[]))))))))))))
 (
 br (a0_5 == 2)
 (grd (decide (ni 4 <= LIM)) (ck6 65 [.agg [.rs (5,0) a0_0],.rs (1,0) [iN a0_2,iN a0_3,iN a0_4,iN a0_7]] fun a=>(br (!a)
 (ck5 63 [.agg [.rs (5,0) a0_0,iN a0_1,iN a0_2,iN a0_3,iN a0_4,iN a0_5,iN a0_6,iN a0_7]] fun b c d e f g h i=>((some ((.agg [.os (5,0) b,iN c,iN d,iN e,iN f,iN g,iN h,iN i]),[]))))
 (UI 66 [.agg [.rs (5,0) a0_0],.rs (1,0) [iN a0_2,iN a0_3,iN a0_4,iN a0_7]] fun b c=>(((grd (decide (0 <= 0) && decide (0 < ni c.length)) (cT c 0 fun d=>
 asI .i64 d fun e=>grd (decide (0 <= 1) && decide (1 < ni c.length)) (cT c 1 fun f=>
 asI .i64 f fun g=>grd (decide (0 <= 2) && decide (2 < ni c.length)) (cT c 2 fun h=>
 asI .i64 h fun i=>br (a0_5 == 2)
 (
 grd (decide (0 <= 3) && decide (3 < ni c.length)) (cT c 3 fun j=>
 asI .i64 j fun k=>some ((.agg [.os (5,0) b,iN a0_1,iN e,iN g,iN i,iN a0_5,iN a0_6,iN k]),[])))
 (some ((.agg [.os (5,0) b,iN a0_1,iN e,iN g,iN i,iN a0_5,iN a0_6,iN a0_7]),[]))))))))))))
 (ck6 65 [.agg [.rs (5,0) a0_0],.rs (1,0) [iN a0_2,iN a0_3,iN a0_4]] fun a=>(br (!a)
 (ck5 63 [.agg [.rs (5,0) a0_0,iN a0_1,iN a0_2,iN a0_3,iN a0_4,iN a0_5,iN a0_6,iN a0_7]] fun b c d e f g h i=>((some ((.agg [.os (5,0) b,iN c,iN d,iN e,iN f,iN g,iN h,iN i]),[]))))
 (UI 66 [.agg [.rs (5,0) a0_0],.rs (1,0) [iN a0_2,iN a0_3,iN a0_4]] fun b c=>(((grd (decide (0 <= 0) && decide (0 < ni c.length)) (cT c 0 fun d=>
 asI .i64 d fun e=>grd (decide (0 <= 1) && decide (1 < ni c.length)) (cT c 1 fun f=>
 asI .i64 f fun g=>grd (decide (0 <= 2) && decide (2 < ni c.length)) (cT c 2 fun h=>
 asI .i64 h fun i=>br (a0_5 == 2)
 (
 grd (decide (0 <= 3) && decide (3 < ni c.length)) (cT c 3 fun j=>
 asI .i64 j fun k=>some ((.agg [.os (5,0) b,iN a0_1,iN e,iN g,iN i,iN a0_5,iN a0_6,iN k]),[])))
 (some ((.agg [.os (5,0) b,iN a0_1,iN e,iN g,iN i,iN a0_5,iN a0_6,iN a0_7]),[])))))))))))):=by
 exact (yD Tryz.func18 rfl _).trans (by kernel_rfl)
theorem Lr (p0:ByteArray) (p1:Nat) (p2 p3 p4:Int) (p5 p6 p7 p8:List D):zX p0 p1 p2 p3 p4 p5 p6 p7 p8 =
 br (decide (p2 < ni (ByteArray.size p0)))
 (grd (decide (0 <= p2) && decide (p2 < ni (ByteArray.size p0))) (ck6 211 [.int .u8 (bt p0 p2)] fun a=>(br a
 (zX p0 p1 (w6 (p2 + 1)) p3 p4 p5 p6 p7 p8)
 (grd (cW (ByteArray.size p0) (some p4) (some p2)) (Pi 212 [(.str (ByteArray.extract p0 p4.toNat p2.toNat))] fun b c d e f g=>(((br (!g)
 (ck8 147 [.agg [.rs (5,0) p5]] fun h=>((some ((.tup [.agg [.os (5,0) h],.os (1,0) p6,iN (3),iN p4]),[]))))
 (
 grd (decide (0 <= p3) && decide (p3 < ni p1) && decide (0 + p1 <= List.length p7)) (cT p7 (0 + Int.toNat p3) fun h=>
 asAgg h fun i=>cT i 1 fun j=>
 jl (1,0) j fun k=>asAgg h fun l=>ck9 158 [.op [.os (5,0) p8],.agg [iN b,iN c,.str d,iN e,iN f]] fun m n=>((grd (decide (ni (List.length (k++[iN m])) <= LIM)) (nam (k++[iN m]) fun o=>
 grd (decide (0 <= p3) && decide (p3 < ni p1) && decide (0 + p1 <= List.length (List.set p7 (0 + Int.toNat p3) (D.agg (List.take 1 l++[D.dead]++List.drop 2 l))))) (cT (List.set p7 (0 + Int.toNat p3) (D.agg (List.take 1 l++[D.dead]++List.drop 2 l))) (0 + Int.toNat p3) fun p=>
 asAgg p fun q=>nam (List.set (List.set p7 (0 + Int.toNat p3) (D.agg (List.take 1 l++[D.dead]++List.drop 2 l))) (0 + Int.toNat p3)
 (D.agg
 (List.take 1 q ++
 [D.os
 (TypeInfo.size (Tables.types (Program.toTables Tryz.prog))[3],
 match qU Tryz.prog (3) with
 | true=>0
 | false=>1)
 o] ++
 List.drop 2 q))) fun r=>
 y6 p0 p1 p2 p5 p6 r n))))))))))))))
 (grd (cW (ByteArray.size p0) (some p4) (some p2)) (Pi 212 [(.str (ByteArray.extract p0 p4.toNat p2.toNat))] fun a b c d e f=>(((br (!f)
 (ck8 147 [.agg [.rs (5,0) p5]] fun g=>((some ((.tup [.agg [.os (5,0) g],.os (1,0) p6,iN (3),iN p4]),[]))))
 (
 grd (decide (0 <= p3) && decide (p3 < ni p1) && decide (0 + p1 <= List.length p7)) (cT p7 (0 + Int.toNat p3) fun g=>
 asAgg g fun h=>cT h 1 fun i=>
 jl (1,0) i fun j=>asAgg g fun k=>ck9 158 [.op [.os (5,0) p8],.agg [iN a,iN b,.str c,iN d,iN e]] fun l m=>((grd (decide (ni (List.length (j++[iN l])) <= LIM)) (nam (j++[iN l]) fun n=>
 grd (decide (0 <= p3) && decide (p3 < ni p1) && decide (0 + p1 <= List.length (List.set p7 (0 + Int.toNat p3) (D.agg (List.take 1 k++[D.dead]++List.drop 2 k))))) (cT (List.set p7 (0 + Int.toNat p3) (D.agg (List.take 1 k++[D.dead]++List.drop 2 k))) (0 + Int.toNat p3) fun o=>
 asAgg o fun p=>nam (List.set (List.set p7 (0 + Int.toNat p3) (D.agg (List.take 1 k++[D.dead]++List.drop 2 k))) (0 + Int.toNat p3)
 (D.agg
 (List.take 1 p ++
 [D.os
 (TypeInfo.size (Tables.types (Program.toTables Tryz.prog))[3],
 match qU Tryz.prog (3) with
 | true=>0
 | false=>1)
 n] ++
 List.drop 2 p))) fun q=>
 y6 p0 p1 p2 p5 p6 q m))))))))))):=by
 exact (yC _ _ _).trans (by kernel_rfl)
theorem Pw (a0_0:List D) (a1_:Int) (a2_:List D):V 235 [.agg [.rs (5,0) a0_0],iN a1_,.rs (1,0) a2_] =
 grd (decide (0 <= 0) && decide (0 < ni a2_.length)) (cT a2_ 0 fun a=>
 asI .i64 a fun b=>grd (decide (0 <= b) && decide (b < ni a0_0.length)) (cT a0_0 b.toNat fun c=>
 tk2 c fun d e _ _ _=>(br (a1_ == 6)
 (
 grd (decide (0 <= 0) && decide (0 < ni a2_.length)) (cT a2_ 0 fun f=>
 asI .i64 f fun g=>grd (decide (0 <= 1) && decide (1 < ni a2_.length)) (cT a2_ 1 fun h=>
 asI .i64 h fun i=>some ((.agg [iN (5),iN (0),.str ({ data:=#[] }),iN g,iN i]),[]))))
 (
 br (a1_ == 9)
 (FP 241 [.bool (d == 1)] fun f g h i j=>((some ((.agg [iN f,iN g,.str h,iN i,iN j]),[]))))
 (
 br (a1_ == 10)
 (FP 241 [.bool (d == 5)] fun f g h i j=>((some ((.agg [iN f,iN g,.str h,iN i,iN j]),[]))))
 (
 br (a1_ == 11)
 (
 grd (decide (0 <= 0) && decide (0 < ni a2_.length)) (cT a2_ 0 fun f=>
 asI .i64 f fun g=>grd (decide (0 <= 1) && decide (1 < ni a2_.length)) (cT a2_ 1 fun h=>
 asI .i64 h fun i=>ck6 242 [.agg [.rs (5,0) a0_0],iN g,iN i] fun j=>(FP 241 [.bool j] fun k l m n o=>((some ((.agg [iN k,iN l,.str m,iN n,iN o]),[])))))))
 (
 br (a1_ == 12)
 (
 br (d == 2)
 (FP 241 [.bool (e == 0)] fun f g h i j=>((some ((.agg [iN f,iN g,.str h,iN i,iN j]),[]))))
 (FP 241 [.bool false] fun f g h i j=>((some ((.agg [iN f,iN g,.str h,iN i,iN j]),[])))))
 (
 grd (decide (0 <= 1) && decide (1 < ni a2_.length)) (cT a2_ 1 fun f=>
 asI .i64 f fun g=>grd (decide (0 <= g) && decide (g < ni a0_0.length)) (cT a0_0 g.toNat fun h=>
 asAgg h fun i=>cT i 1 fun j=>
 asI .i64 j fun k=>FP 243 [iN a1_,iN e,iN k] fun l m n o p=>((some ((.agg [iN l,iN m,.str n,iN o,iN p]),[]))))))))))))):=by
 exact (yD Tryz.func235 rfl _).trans (by kernel_rfl)
theorem D0 (p0:Int) (p1 p2:List D) (p3 p4:Int) (p5:List D):zd p0 p1 p2 p3 p4 p5 =
 br (decide (p4 < p3))
 (
 grd (decide (0 <= p4) && decide (p4 < ni p2.length)) (cT p2 p4.toNat fun a=>
 asI .i64 a fun b=>br (decide (p0 <= 5))
 (
 grd (decide (0 <= b) && decide (b < ni p5.length)) (cT p5 b.toNat fun c=>
 asAgg c fun d=>cT d 0 fun e=>
 asI .i64 e fun f=>br (f != 3)
 (some ((.tup [iN (-1),iN (3)]),[.op [.os (5,0) p5]]))
 (
 br (p0 == 7)
 (
 grd (decide (0 <= b) && decide (b < ni p5.length)) (cT p5 b.toNat fun g=>
 asAgg g fun h=>cT h 0 fun i=>
 asI .i64 i fun j=>br (j != 5)
 (some ((.tup [iN (-1),iN (3)]),[.op [.os (5,0) p5]]))
 (zd p0 p1 p2 p3 (w6 (p4 + 1)) p5)))
 (
 br (p0 == 8)
 (
 grd (decide (0 <= b) && decide (b < ni p5.length)) (cT p5 b.toNat fun g=>
 asAgg g fun h=>cT h 0 fun i=>
 asI .i64 i fun j=>br (j != 5)
 (some ((.tup [iN (-1),iN (3)]),[.op [.os (5,0) p5]]))
 (zd p0 p1 p2 p3 (w6 (p4 + 1)) p5)))
 (zd p0 p1 p2 p3 (w6 (p4 + 1)) p5)))))
 (
 br (p0 == 7)
 (
 grd (decide (0 <= b) && decide (b < ni p5.length)) (cT p5 b.toNat fun c=>
 asAgg c fun d=>cT d 0 fun e=>
 asI .i64 e fun f=>br (f != 5)
 (some ((.tup [iN (-1),iN (3)]),[.op [.os (5,0) p5]]))
 (zd p0 p1 p2 p3 (w6 (p4 + 1)) p5)))
 (
 br (p0 == 8)
 (
 grd (decide (0 <= b) && decide (b < ni p5.length)) (cT p5 b.toNat fun c=>
 asAgg c fun d=>cT d 0 fun e=>
 asI .i64 e fun f=>br (f != 5)
 (some ((.tup [iN (-1),iN (3)]),[.op [.os (5,0) p5]]))
 (zd p0 p1 p2 p3 (w6 (p4 + 1)) p5)))
 (zd p0 p1 p2 p3 (w6 (p4 + 1)) p5)))))
 (
 br (p0 == 7)
 (
 grd (decide (0 <= 0) && decide (0 < ni p1.length)) (cT p1 0 fun a=>
 asI .i64 a fun b=>grd (decide (0 <= b) && decide (b < ni p5.length)) (cT p5 b.toNat fun c=>
 asAgg c fun d=>cT d 3 fun e=>
 asI .i64 e fun f=>some ((.tup [iN f,iN (0)]),[.op [.os (5,0) p5]]))))
 (
 br (p0 == 8)
 (
 grd (decide (0 <= 0) && decide (0 < ni p1.length)) (cT p1 0 fun a=>
 asI .i64 a fun b=>grd (decide (0 <= b) && decide (b < ni p5.length)) (cT p5 b.toNat fun c=>
 asAgg c fun d=>cT d 4 fun e=>
 asI .i64 e fun f=>some ((.tup [iN f,iN (0)]),[.op [.os (5,0) p5]]))))
 (FP 235 [.agg [.rs (5,0) p5],iN p0,.rs (1,0) p1] fun a b c d e=>((ck6 58 [iN b,iN (-1000000000),iN (1000000000)] fun f=>(br (!f)
 (some ((.tup [iN (-1),iN (4)]),[.op [.os (5,0) p5]]))
 (ck9 157 [.op [.os (5,0) p5],.agg [iN a,iN b,.str c,iN d,iN e]] fun g h=>((some ((.tup [iN g,iN (0)]),[.op [.os (5,0) h]])))))))))):=by
 exact (yC _ _ _).trans (by kernel_rfl)
theorem SY (a0_0 a0_1 a0_2 a1_0:List D) (a1_1 a1_2 a1_3 a1_4 a1_5 a1_6 a1_7 a2_:Int):V 35 [.agg [.rs (5,0) a0_0,.rs (4,0) a0_1,.rs (3,0) a0_2],.agg [.rs (5,0) a1_0,iN a1_1,iN a1_2,iN a1_3,iN a1_4,iN a1_5,iN a1_6,iN a1_7],iN a2_] =
 ck6 15 [.agg [.rs (5,0) a0_0,.rs (4,0) a0_1,.rs (3,0) a0_2],(.agg [.rs (5,0) a1_0,iN a1_1,iN a1_2,iN a1_3,iN a1_4,iN a1_5,iN a1_6,iN a1_7])] fun a=>(br (!a)
 (ck5 89 [.agg [.rs (5,0) a0_0,.rs (4,0) a0_1,.rs (3,0) a0_2],(.agg [.rs (5,0) a1_0,iN a1_1,iN a1_2,iN a1_3,iN a1_4,iN a1_5,iN a1_6,iN a1_7])] fun b c d e f g h i=>((some ((.tup [.agg [.os (5,0) b,iN c,iN d,iN e,iN f,iN g,iN h,iN i],iN (0)]),[]))))
 (ck5 85 [.agg [.rs (5,0) a1_0,iN a1_1,iN a1_2,iN a1_3,iN a1_4,iN a1_5,iN a1_6,iN a1_7]] fun b c d e f g h i=>((QH 101 [.agg [.rs (5,0) a0_0,.rs (4,0) a0_1,.rs (3,0) a0_2],(.agg [.os (5,0) b,iN c,iN d,iN e,iN f,iN g,iN h,iN i]),iN a2_] fun j k l m n o p q r=>(((some ((.tup [.agg [.os (5,0) j,iN k,iN l,iN m,iN n,iN o,iN p,iN q],iN r]),[])))))))):=by
 exact (yD Tryz.func35 rfl _).trans (by kernel_rfl)
theorem Cm (p0 p1 p2 p3 p4 p5 p6 p7 p8:Int) (p9 p10 p11 p12:List D):Af p0 p1 p2 p3 p4 p5 p6 p7 p8 p9 p10 p11 p12 =
 br (decide (p1 > 0))
 (
 grd (decide (0 <= p0) && decide (p0 < ni p12.length)) (cT p12 p0.toNat fun a=>
 asAgg a fun b=>cT b 0 fun c=>
 asI .i64 c fun d=>br (d != 5)
 (some ((.tup [iN (0),.bool false]),[.op [.os (5,0) p12,iN p2,iN p3,iN p4,iN p5,iN p6,iN p7,iN p8,.rs (5,0) p9,.rs (4,0) p10,.rs (3,0) p11]]))
 (
 grd (decide (0 <= p0) && decide (p0 < ni p12.length)) (cT p12 p0.toNat fun e=>
 asAgg e fun f=>cT f 4 fun g=>
 asI .i64 g fun h=>Af h (w6 (p1 - 1)) p2 p3 p4 p5 p6 p7 p8 p9 p10 p11 p12))))
 (
 grd (decide (0 <= p0) && decide (p0 < ni p12.length)) (cT p12 p0.toNat fun a=>
 asAgg a fun b=>cT b 0 fun c=>
 asI .i64 c fun d=>br (d != 5)
 (some ((.tup [iN (0),.bool false]),[.op [.os (5,0) p12,iN p2,iN p3,iN p4,iN p5,iN p6,iN p7,iN p8,.rs (5,0) p9,.rs (4,0) p10,.rs (3,0) p11]]))
 (
 grd (decide (0 <= p0) && decide (p0 < ni p12.length)) (cT p12 p0.toNat fun e=>
 asAgg e fun f=>cT f 3 fun g=>
 asI .i64 g fun h=>some ((.tup [iN h,.bool true]),[.op [.os (5,0) p12,iN p2,iN p3,iN p4,iN p5,iN p6,iN p7,iN p8,.rs (5,0) p9,.rs (4,0) p10,.rs (3,0) p11]]))))):=by
 exact (yC _ _ _).trans (by kernel_rfl)
theorem QZ (a0_0:List D) (a1_ a2_:Int):V 234 [.agg [.rs (5,0) a0_0],iN a1_,iN a2_] =
 ck3 228 [.agg [.rs (5,0) a0_0],iN a1_] fun a b=>((br (!b)
 (some ((.tup [iN (0),.os (1,0) [],.bool false]),[]))
 (
 br (ni a.length != a2_)
 (some ((.tup [iN (0),.os (1,0) [],.bool false]),[]))
 (
 grd (decide (0 <= 0) && decide (0 < ni a.length)) (cT a 0 fun c=>
 asI .i64 c fun d=>grd (decide (0 <= d) && decide (d < ni a0_0.length)) (cT a0_0 d.toNat fun e=>
 asAgg e fun f=>cT f 0 fun g=>
 asI .i64 g fun h=>br (h != 3)
 (some ((.tup [iN (0),.os (1,0) [],.bool false]),[]))
 (
 grd (decide (0 <= 0) && decide (0 < ni a.length)) (cT a 0 fun i=>
 asI .i64 i fun j=>grd (decide (0 <= j) && decide (j < ni a0_0.length)) (cT a0_0 j.toNat fun k=>
 asAgg k fun l=>cT l 1 fun m=>
 asI .i64 m fun n=>grd (cW a.length (some (1)) none) (some ((.tup [iN n,(.os (1,0) (part a (some (Int.toNat (1),List.length a - Int.toNat (1))))),.bool true]),[]))))))))))):=by
 exact (yD Tryz.func234 rfl _).trans (by kernel_rfl)
theorem TG (a0_0:List D) (a0_1 a0_2 a0_3 a0_4 a0_5 a0_6 a0_7 a1_:Int):V 97 [.agg [.rs (5,0) a0_0,iN a0_1,iN a0_2,iN a0_3,iN a0_4,iN a0_5,iN a0_6,iN a0_7],iN a1_] =
 ck5 85 [.agg [.rs (5,0) a0_0,iN a0_1,iN a0_2,iN a0_3,iN a0_4,iN a0_5,iN a0_6,iN a0_7]] fun a _ b c d _ _ _=>((some ((.agg [.os (5,0) a,iN (0),iN b,iN c,iN d,iN (3),iN a1_,iN (0)]),[]))):=by
 exact (yD Tryz.func97 rfl _).trans (by kernel_rfl)
theorem Tu (p l d:List D) (h x:Int):V 230 [.op [.os (5,0) p,.os (4,0) l,.os (3,0) d,iN h],iN x] =
 grd (decide (0 <= x) && decide (x < ni p.length)) (cT p x.toNat fun a=>
 tk2 a fun b _ c _ _=>(br (b == 4)
 (ck6 238 [.str c] fun e=>(some ((.tup [.str c,.bool (!e)]),[.op [.os (5,0) p,.os (4,0) l,.os (3,0) d,iN h]])))
 (some ((.tup [.str c,.bool false]),[.op [.os (5,0) p,.os (4,0) l,.os (3,0) d,iN h]])))):=by
 exact (yD Tryz.func230 rfl _).trans (by kernel_rfl)
theorem Mg (p:List D) (m1 m2 m3 m4 m5 m6 m7:Int) (cp cl cd:List D) (v:Int):V 185 [.op [.os (5,0) p,iN m1,iN m2,iN m3,iN m4,iN m5,iN m6,iN m7,.rs (5,0) cp,.rs (4,0) cl,.rs (3,0) cd],iN v] =
 ck9 94 [.op [.os (5,0) p],iN v,iN m2] fun a b=>((some ((.tup []),[.op [.os (5,0) b,iN m1,iN a,iN m3,iN m4,iN m5,iN m6,iN m7,.rs (5,0) cp,.rs (4,0) cl,.rs (3,0) cd]]))):=by
 exact (yD Tryz.func185 rfl _).trans (by kernel_rfl)
theorem GH (p0:List D) (p1:Int) (p2 p3 p4:List D):Dr p0 p1 p2 p3 p4 =
 br (decide (p1 < ni p0.length))
 (
 grd (decide (0 <= p1) && decide (p1 < ni p0.length)) (cT p0 p1.toNat fun a=>
 asI .i64 a fun b=>grd (decide (0 <= b) && decide (b < ni p2.length)) (cT p2 b.toNat fun c=>
 asI .i64 c fun d=>grd (decide (ni (List.length (p3++[iN d])) <= LIM)) (nam (p3++[iN d]) fun e=>
 Dr p0 (w6 (p1 + 1)) p2 e p4))))
 (some ((.tup [.agg [.os (5,0) p4],.os (1,0) p3]),[])):=by
 exact (yC _ _ _).trans (by kernel_rfl)
theorem FJ (p0:List D) (p1:Int) (p2:List D):Bg p0 p1 p2 =
 br (decide (p1 < ni p0.length))
 (
 grd (decide (0 <= p1) && decide (p1 < ni p0.length)) (cT p0 p1.toNat fun a=>
 asI .i64 a fun b=>ck6 61 [.agg [.rs (5,0) p2],iN b] fun c=>(br (!c)
 (some ((.bool false),[]))
 (Bg p0 (w6 (p1 + 1)) p2))))
 (ck6 60 [.agg [.rs (5,0) p2]] fun a=>(some ((.bool a),[]))):=by
 exact (yC _ _ _).trans (by kernel_rfl)
theorem ZI (a0_:List D) (a1_:Int):V 16 [.rs (1,0) a0_,iN a1_] =
 br (decide (a1_ < ni a0_.length))
 (
 grd (decide (0 <= a1_) && decide (a1_ < ni a0_.length)) (cT a0_ a1_.toNat fun a=>
 asI .u8 a fun b=>some ((iN (w6 b)),[])))
 (grd (!decide (256 = 0)) (some ((iN (Int.tmod (w6 (w6 (a1_ * 7) + ni a0_.length)) (256))),[]))):=by
 exact (yD Tryz.func16 rfl _).trans (by kernel_rfl)
theorem JS (a0_:Int):V 202 [iN a0_] =
 br (decide (a0_ < 0))
 (UG 202 [(iN (w6 (0 - a0_)))] fun a=>(grd (decide (ni (ByteArray.size { data:=#[45] } + ByteArray.size a) <= LIM)) (some ((.str ({ data:=#[45] }++a)),[]))))
 (
 br (a0_ == 0)
 (some ((.str ({ data:=#[48] })),[]))
 (BM a0_ ({ data:=#[] }))):=by
 exact (yD Tryz.func202 rfl _).trans (by kernel_rfl)
theorem QL (a0_0 a0_1 a0_2:List D) (a1_:Int):V 57 [.agg [.rs (5,0) a0_0,.rs (4,0) a0_1,.rs (3,0) a0_2],iN a1_] =
 ck6 58 [iN a1_,iN (0),(iN (w6 (ni a0_1.length - 1)))] fun a=>(some ((.bool a),[])):=by
 exact (yD Tryz.func57 rfl _).trans (by kernel_rfl)
theorem Q8 (a0_0 a1_:List D):V 149 [.agg [.rs (5,0) a0_0],.rs (1,0) a1_] =
 grd (decide (0 <= ni a0_0.length) && decide (ni a0_0.length <= LIM)) (Bc a1_ (0) a0_0 (List.replicate (Int.toNat (ni a0_0.length)) (D.bool false))):=by
 exact (yD Tryz.func149 rfl _).trans (by kernel_rfl)
theorem U6 (a0_0:List D) (a1_:Int):V 61 [.agg [.rs (5,0) a0_0],iN a1_] =
 ck6 62 [iN a1_,iN (0),(iN (w6 (ni a0_0.length - 1)))] fun a=>(some ((.bool a),[])):=by
 exact (yD Tryz.func61 rfl _).trans (by kernel_rfl)
theorem U4 (a0_:List D):V 51 [.rs (1,0) a0_] =
 DK a0_ (w6 (17000 + ni a0_.length)) (0):=by
 exact (yD Tryz.func51 rfl _).trans (by kernel_rfl)
theorem PB (a0_0:List D) (a1_:Int):V 228 [.agg [.rs (5,0) a0_0],iN a1_] =
 BJ a1_ a0_0 []:=by
 exact (yD Tryz.func228 rfl _).trans (by kernel_rfl)
theorem SQ (a0_:ByteArray):V 128 [.str a0_] =
 Bw a0_ (0):=by
 exact (yD Tryz.func128 rfl _).trans (by kernel_rfl)

end Go.Eng
/-! the functions as the interpreter has them -/
namespace Go.Eng
open Go.Proofs Go.Proofs.Tryz
set_option maxRecDepth 100000
theorem KR (p:List D) (m1 m2 m3 m4 m5 m6 m7:Int) (cp cl cd:List D) (io im ii:Int) (is:ByteArray):V 134 [.op [.os (5,0) p,iN m1,iN m2,iN m3,iN m4,iN m5,iN m6,iN m7,.rs (5,0) cp,.rs (4,0) cl,.rs (3,0) cd],.agg [iN io,iN im,iN ii,.str is]] =
 br (io == 1)
 (ck9 93 [.op [.os (5,0) p],(.agg [.rs (5,0) cp]),iN im] fun a b=>((Ph 185 [.op [.os (5,0) b,iN m1,iN m2,iN m3,iN m4,iN m5,iN m6,iN m7,.rs (5,0) cp,.rs (4,0) cl,.rs (3,0) cd],iN a] fun c d e f g h i j k l m=>(((ck6 57 [.agg [.rs (5,0) k,.rs (4,0) l,.rs (3,0) m],(iN (w6 (m1 + 1)))] fun n=>(br (!n)
 (some ((iN (7)),[.op [.os (5,0) c,iN d,iN e,iN f,iN g,iN h,iN i,iN j,.rs (5,0) k,.rs (4,0) l,.rs (3,0) m]]))
 (some ((iN (0)),[(.op [.os (5,0) c,(iN (w6 (m1 + 1))),iN e,iN f,iN g,iN h,iN i,iN j,.rs (5,0) k,.rs (4,0) l,.rs (3,0) m])])))))))))
 (
 br (io == 2)
 (GX 186 [.op [.os (5,0) p,iN m1,iN m2,iN m3,iN m4,iN m5,iN m6,iN m7,.rs (5,0) cp,.rs (4,0) cl,.rs (3,0) cd],iN im,iN ii] fun a b c d e f g h i j k l=>((br (a == 0)
 (ck6 57 [.agg [.rs (5,0) j,.rs (4,0) k,.rs (3,0) l],(iN (w6 (m1 + 1)))] fun m=>(br (!m)
 (some ((iN (7)),[.op [.os (5,0) b,iN c,iN d,iN e,iN f,iN g,iN h,iN i,.rs (5,0) j,.rs (4,0) k,.rs (3,0) l]]))
 (some ((iN a),[(.op [.os (5,0) b,(iN (w6 (m1 + 1))),iN d,iN e,iN f,iN g,iN h,iN i,.rs (5,0) j,.rs (4,0) k,.rs (3,0) l])]))))
 (some ((iN a),[(.op [.os (5,0) b,(iN (w6 (m1 + 1))),iN d,iN e,iN f,iN g,iN h,iN i,.rs (5,0) j,.rs (4,0) k,.rs (3,0) l])])))))
 (
 br (io == 3)
 (GX 187 [.op [.os (5,0) p,iN m1,iN m2,iN m3,iN m4,iN m5,iN m6,iN m7,.rs (5,0) cp,.rs (4,0) cl,.rs (3,0) cd],.str is] fun a b c d e f g h i j k l=>((br (a == 0)
 (ck6 57 [.agg [.rs (5,0) j,.rs (4,0) k,.rs (3,0) l],(iN (w6 (m1 + 1)))] fun m=>(br (!m)
 (some ((iN (7)),[.op [.os (5,0) b,iN c,iN d,iN e,iN f,iN g,iN h,iN i,.rs (5,0) j,.rs (4,0) k,.rs (3,0) l]]))
 (some ((iN a),[(.op [.os (5,0) b,(iN (w6 (m1 + 1))),iN d,iN e,iN f,iN g,iN h,iN i,.rs (5,0) j,.rs (4,0) k,.rs (3,0) l])]))))
 (some ((iN a),[(.op [.os (5,0) b,(iN (w6 (m1 + 1))),iN d,iN e,iN f,iN g,iN h,iN i,.rs (5,0) j,.rs (4,0) k,.rs (3,0) l])])))))
 (
 br (io == 5)
 (ck6 57 [.agg [.rs (5,0) cp,.rs (4,0) cl,.rs (3,0) cd],iN im] fun a=>(br (!a)
 (some ((iN (7)),[.op [.os (5,0) p,iN m1,iN m2,iN m3,iN m4,iN m5,iN m6,iN m7,.rs (5,0) cp,.rs (4,0) cl,.rs (3,0) cd]]))
 (some ((iN (0)),[.op [.os (5,0) p,iN im,iN m2,iN m3,iN m4,iN m5,iN m6,iN m7,.rs (5,0) cp,.rs (4,0) cl,.rs (3,0) cd]]))))
 (
 br (io == 6)
 (ck9 157 [.op [.os (5,0) p],(
 .agg [iN (6),(iN (w6 (w6 (8 * im) + ii))),.str ({ data:=#[] }),iN m3,iN (0)])] fun a b=>((Ph 185 [.op [.os (5,0) b,iN m1,iN m2,iN m3,iN m4,iN m5,iN m6,iN m7,.rs (5,0) cp,.rs (4,0) cl,.rs (3,0) cd],iN a] fun c d e f g h i j k l m=>(((ck6 57 [.agg [.rs (5,0) k,.rs (4,0) l,.rs (3,0) m],(iN (w6 (m1 + 1)))] fun n=>(br (!n)
 (some ((iN (7)),[.op [.os (5,0) c,iN d,iN e,iN f,iN g,iN h,iN i,iN j,.rs (5,0) k,.rs (4,0) l,.rs (3,0) m]]))
 (some ((iN (0)),[(.op [.os (5,0) c,(iN (w6 (m1 + 1))),iN e,iN f,iN g,iN h,iN i,iN j,.rs (5,0) k,.rs (4,0) l,.rs (3,0) m])])))))))))
 (Sp 182 [.op [.os (5,0) p,iN m1,iN m2,iN m3,iN m4,iN m5,iN m6,iN m7,.rs (5,0) cp,.rs (4,0) cl,.rs (3,0) cd]] fun a b c d e f g h i j k l m=>(((br (!b)
 (some ((iN (7)),[.op [.os (5,0) c,iN d,iN e,iN f,iN g,iN h,iN i,iN j,.rs (5,0) k,.rs (4,0) l,.rs (3,0) m]]))
 (
 grd (decide (0 <= a) && decide (a < ni c.length)) (cT c a.toNat fun n=>
 tk2 n fun o q _ _ _=>(br (io == 4)
 (
 br (o == 2)
 (
 br (q == 0)
 (ck6 57 [.agg [.rs (5,0) k,.rs (4,0) l,.rs (3,0) m],iN im] fun r=>(br (!r)
 (some ((iN (7)),[.op [.os (5,0) c,iN d,iN e,iN f,iN g,iN h,iN i,iN j,.rs (5,0) k,.rs (4,0) l,.rs (3,0) m]]))
 (some ((iN (0)),[.op [.os (5,0) c,iN im,iN e,iN f,iN g,iN h,iN i,iN j,.rs (5,0) k,.rs (4,0) l,.rs (3,0) m]]))))
 (ck6 57 [.agg [.rs (5,0) k,.rs (4,0) l,.rs (3,0) m],(iN (w6 (m1 + 1)))] fun r=>(br (!r)
 (some ((iN (7)),[.op [.os (5,0) c,iN d,iN e,iN f,iN g,iN h,iN i,iN j,.rs (5,0) k,.rs (4,0) l,.rs (3,0) m]]))
 (some ((iN (0)),[(.op [.os (5,0) c,(iN (w6 (m1 + 1))),iN e,iN f,iN g,iN h,iN i,iN j,.rs (5,0) k,.rs (4,0) l,.rs (3,0) m])])))))
 (ck6 57 [.agg [.rs (5,0) k,.rs (4,0) l,.rs (3,0) m],(iN (w6 (m1 + 1)))] fun r=>(br (!r)
 (some ((iN (7)),[.op [.os (5,0) c,iN d,iN e,iN f,iN g,iN h,iN i,iN j,.rs (5,0) k,.rs (4,0) l,.rs (3,0) m]]))
 (some ((iN (0)),[(.op [.os (5,0) c,(iN (w6 (m1 + 1))),iN e,iN f,iN g,iN h,iN i,iN j,.rs (5,0) k,.rs (4,0) l,.rs (3,0) m])])))))
 (ck6 57 [.agg [.rs (5,0) k,.rs (4,0) l,.rs (3,0) m],(iN (w6 (m1 + 1)))] fun r=>(br (!r)
 (some ((iN (7)),[.op [.os (5,0) c,iN d,iN e,iN f,iN g,iN h,iN i,iN j,.rs (5,0) k,.rs (4,0) l,.rs (3,0) m]]))
 (some ((iN (0)),[(.op [.os (5,0) c,(iN (w6 (m1 + 1))),iN e,iN f,iN g,iN h,iN i,iN j,.rs (5,0) k,.rs (4,0) l,.rs (3,0) m])]))))))))))))))):=by
 exact (yD Tryz.func134 rfl _).trans (by kernel_rfl)
theorem TE (a0_0:List D) (a0_1 a0_2:Int):V 52 [.op [.rs (1,0) a0_0,iN a0_1,iN a0_2]] =
 aal 112 [.op [.rs (1,0) a0_0,iN a0_1,iN a0_2]] fun a b c d e f g h i j k l m n=>(((((ck7 76 [.op [.rs (1,0) l,iN m,iN n],iN (30)] fun o p q r=>((br (o == 0)
 (ck7 76 [.op [.rs (1,0) p,iN q,iN r],iN (50)] fun s t u v=>((ck7 122 [.op [.rs (1,0) t,iN u,iN v],(.rs (1,0) [iN (-1),iN (0),(iN (w6 (ni b.length - 1))),(iN (ni b.length)),iN s])] fun w x y z=>((some ((.tup [.agg [.rs (5,0) a,.rs (4,0) b,.rs (3,0) c],(.agg [.rs (5,0) d,iN w,iN f,iN g,iN h,iN i,iN j,iN k])]),[.op [.rs (1,0) x,iN y,iN z]]))))))
 (
 br (o == 1)
 (ck7 76 [.op [.rs (1,0) p,iN q,iN r],iN (5)] fun s t u v=>((some ((.tup [.agg [.rs (5,0) a,.rs (4,0) b,.rs (3,0) c],(.agg [.rs (5,0) d,iN e,iN f,iN g,iN h,iN s,iN j,iN k])]),[.op [.rs (1,0) t,iN u,iN v]]))))
 (
 br (o == 2)
 (ck7 76 [.op [.rs (1,0) p,iN q,iN r],iN (21)] fun s t u v=>((some ((.tup [.agg [.rs (5,0) a,.rs (4,0) b,.rs (3,0) c],(.agg [.rs (5,0) d,iN e,iN f,iN g,iN h,iN i,iN s,iN k])]),[.op [.rs (1,0) t,iN u,iN v]]))))
 (
 br (o == 3)
 (ck7 91 [.op [.rs (1,0) p,iN q,iN r],(.agg [.rs (5,0) d])] fun s t u v=>((some ((.tup [.agg [.rs (5,0) a,.rs (4,0) b,.rs (3,0) c],(.agg [.rs (5,0) d,iN e,iN f,iN g,iN h,iN i,iN j,iN s])]),[.op [.rs (1,0) t,iN u,iN v]]))))
 (
 br (o == 4)
 (ck7 91 [.op [.rs (1,0) p,iN q,iN r],(.agg [.rs (5,0) d])] fun s t u v=>((some ((.tup [.agg [.rs (5,0) a,.rs (4,0) b,.rs (3,0) c],(.agg [.rs (5,0) d,iN e,iN s,iN g,iN h,iN i,iN j,iN k])]),[.op [.rs (1,0) t,iN u,iN v]]))))
 (
 br (o == 5)
 (ck7 91 [.op [.rs (1,0) p,iN q,iN r],(.agg [.rs (5,0) d])] fun s t u v=>((some ((.tup [.agg [.rs (5,0) a,.rs (4,0) b,.rs (3,0) c],(.agg [.rs (5,0) d,iN e,iN f,iN s,iN h,iN i,iN j,iN k])]),[.op [.rs (1,0) t,iN u,iN v]]))))
 (
 br (o == 6)
 (ck7 91 [.op [.rs (1,0) p,iN q,iN r],(.agg [.rs (5,0) d])] fun s t u v=>((some ((.tup [.agg [.rs (5,0) a,.rs (4,0) b,.rs (3,0) c],(.agg [.rs (5,0) d,iN e,iN f,iN g,iN s,iN i,iN j,iN k])]),[.op [.rs (1,0) t,iN u,iN v]]))))
 (
 br (o == 7)
 (Zy 74 [.op [.rs (1,0) p,iN q,iN r]] fun s t u v w x=>(((some ((.tup [.agg [.os (5,0) s,.os (4,0) t,.os (3,0) u],(.agg [.rs (5,0) d,iN e,iN f,iN g,iN h,iN i,iN j,iN k])]),[.op [.rs (1,0) v,iN w,iN x]])))))
 (
 br (o == 8)
 (Zz 90 [.op [.rs (1,0) p,iN q,iN r]] fun s t u v=>(((some ((.tup [.agg [.rs (5,0) a,.rs (4,0) b,.rs (3,0) c],(.agg [.os (5,0) s,iN e,iN f,iN g,iN h,iN i,iN j,iN k])]),[.op [.rs (1,0) t,iN u,iN v]])))))
 (some ((.tup [.agg [.rs (5,0) a,.rs (4,0) b,.rs (3,0) c],(.agg [.rs (5,0) d,iN e,iN f,iN g,iN h,iN i,iN j,iN k])]),[.op [.rs (1,0) p,iN q,iN r]]))))))))))))))))):=by
 exact (yD Tryz.func52 rfl _).trans (by kernel_rfl)
theorem QO (a0_:List D):V 10 [.rs (1,0) a0_] =
 ck6 12 [.rs (1,0) a0_] fun a=>(br a
 (some ((.bool true),[]))
 (aaV 13 [.rs (1,0) a0_] fun b c d e f g h i j k l m=>((((QH 22 [.agg [.rs (5,0) b,.rs (4,0) c,.rs (3,0) d],(.agg [.rs (5,0) e,iN f,iN g,iN h,iN i,iN j,iN k,iN l]),iN m] fun n o p _ _ q _ _ r=>(((QH 35 [.agg [.rs (5,0) b,.rs (4,0) c,.rs (3,0) d],(.agg [.rs (5,0) e,iN f,iN g,iN h,iN i,iN j,iN k,iN l]),iN m] fun _ _ _ _ _ _ _ _ s=>(((br (r != s)
 (some ((.bool false),[]))
 (ck6 15 [.agg [.rs (5,0) b,.rs (4,0) c,.rs (3,0) d],(.agg [.rs (5,0) e,iN f,iN g,iN h,iN i,iN j,iN k,iN l])] fun t=>(br (!t)
 (
 br (r == 0)
 (some ((.bool (q == 3)),[]))
 (some ((.bool false),[])))
 (Ct 16 [.rs (1,0) a0_,iN (1)] fun u=>(grd (!decide (w6 (r + 1) = 0)) (QH 22 [.agg [.rs (5,0) b,.rs (4,0) c,.rs (3,0) d],(.agg [.rs (5,0) e,iN f,iN g,iN h,iN i,iN j,iN k,iN l]),(iN (Int.tmod u (w6 (r + 1))))] fun v w x y z A B C E=>(((QH 22 [.agg [.rs (5,0) b,.rs (4,0) c,.rs (3,0) d],(.agg [.rs (5,0) v,iN w,iN x,iN y,iN z,iN A,iN B,iN C]),(iN (w6 (r - Int.tmod u (w6 (r + 1)))))] fun F G H _ _ I _ _ J=>(((br (E == Int.tmod u (w6 (r + 1)))
 (
 br (J == w6 (r - Int.tmod u (w6 (r + 1))))
 (
 br (I == q)
 (
 br (G == o)
 (
 br (H == p)
 (some ((.bool (ni F.length == ni n.length)),[]))
 (some ((.bool false),[])))
 (some ((.bool false),[])))
 (some ((.bool false),[])))
 (some ((.bool false),[])))
 (some ((.bool false),[]))))))))))))))))))))))))):=by
 exact (yD Tryz.func10 rfl _).trans (by kernel_rfl)
theorem Te (a0_0:List D) (a0_1 a0_2:Int):V 90 [.op [.rs (1,0) a0_0,iN a0_1,iN a0_2]] =
 Zz 154 [.op [.rs (1,0) a0_0,iN a0_1,iN a0_2]] fun a b c d=>(((br (decide (ni a.length > 0))
 (Sq 155 [.op [.rs (1,0) b,iN c,iN d],iN (12)] fun e f g h=>((br e
 (ck7 76 [.op [.rs (1,0) f,iN g,iN h],(iN (ni a.length))] fun i j k l=>((grd (decide (0 <= i) && decide (i < ni a.length)) (cT a i.toNat fun m=>
 asAgg m fun n=>unc n fun o p=>asI .i64 o fun q=>unc p fun r s=>asI .i64 r fun t=>unc s fun u v=>asS u fun w=>unc v fun x y=>asI .i64 x fun z=>unc y fun A B=>asI .i64 A fun C=>unn B (UH 156 [.op [.rs (1,0) j,iN k,iN l],.agg [iN q,iN t,.str w,iN z,iN C]] fun E F G H I J K L=>(((grd (decide (0 <= i) && decide (i < ni a.length)) (cT a i.toNat fun _=>
 nam (List.set a i.toNat (D.agg [iN E,iN F,D.str G,iN H,iN I])) fun M=>
 Sq 155 [(
 .op [.rs (1,0) J,iN K,iN L]),iN (60)] fun N O P Q=>((br N
 (ck7 76 [.op [.rs (1,0) O,iN P,iN Q],iN (2)] fun R S T U=>((grd (decide (0 <= w6 (3000 + R)) && decide (w6 (3000 + R) <= LIM)) (Aa (0) S T U (List.replicate (Int.toNat (w6 (3000 + R))) (D.agg [iN (0),iN (0),D.str { data:=#[] },iN (0),iN (0)]))))))
 (some ((.agg [.os (5,0) M]),[.op [.rs (1,0) O,iN P,iN Q]])))))))))))))
 (Sq 155 [.op [.rs (1,0) f,iN g,iN h],iN (60)] fun i j k l=>((br i
 (ck7 76 [.op [.rs (1,0) j,iN k,iN l],iN (2)] fun m n o p=>((grd (decide (0 <= w6 (3000 + m)) && decide (w6 (3000 + m) <= LIM)) (Aa (0) n o p (List.replicate (Int.toNat (w6 (3000 + m))) (D.agg [iN (0),iN (0),D.str { data:=#[] },iN (0),iN (0)]))))))
 (some ((.agg [.os (5,0) a]),[.op [.rs (1,0) j,iN k,iN l]]))))))))
 (Sq 155 [.op [.rs (1,0) b,iN c,iN d],iN (60)] fun e f g h=>((br e
 (ck7 76 [.op [.rs (1,0) f,iN g,iN h],iN (2)] fun i j k l=>((grd (decide (0 <= w6 (3000 + i)) && decide (w6 (3000 + i) <= LIM)) (Aa (0) j k l (List.replicate (Int.toNat (w6 (3000 + i))) (D.agg [iN (0),iN (0),D.str { data:=#[] },iN (0),iN (0)]))))))
 (some ((.agg [.os (5,0) a]),[.op [.rs (1,0) f,iN g,iN h]])))))))):=by
 exact (yD Tryz.func90 rfl _).trans (by kernel_rfl)
theorem TJ (a0_0 a0_1 a0_2 a1_0:List D) (a1_1 a1_2 a1_3 a1_4 a1_5 a1_6 a1_7:Int):V 153 [.agg [.rs (5,0) a0_0,.rs (4,0) a0_1,.rs (3,0) a0_2],.agg [.rs (5,0) a1_0,iN a1_1,iN a1_2,iN a1_3,iN a1_4,iN a1_5,iN a1_6,iN a1_7]] =
 ck5 85 [.agg [.rs (5,0) a1_0,iN a1_1,iN a1_2,iN a1_3,iN a1_4,iN a1_5,iN a1_6,iN a1_7]] fun a b c d e f g h=>((grd (decide (0 <= a1_1) && decide (a1_1 < ni a0_1.length)) (cT a0_1 a1_1.toNat fun i=>
 tk1 i fun j k l m=>(Lv 196 [.agg [.rs (5,0) a0_0,.rs (4,0) a0_1,.rs (3,0) a0_2],(.op [.os (5,0) a,iN b,iN c,iN d,iN e,iN f,iN g,iN h]),.agg [iN j,iN k,iN l,.str m]] fun n o p q r s t u v=>((br (n != 0)
 (ck5 97 [.agg [.rs (5,0) a1_0,iN a1_1,iN a1_2,iN a1_3,iN a1_4,iN a1_5,iN a1_6,iN a1_7],iN n] fun w x y z A B C E=>((some ((.agg [.os (5,0) w,iN x,iN y,iN z,iN A,iN B,iN C,iN E]),[]))))
 (ck6 62 [iN p,iN (0),(iN (w6 (ni a0_1.length - 1)))] fun w=>(br (!w)
 (ck5 97 [.agg [.rs (5,0) a1_0,iN a1_1,iN a1_2,iN a1_3,iN a1_4,iN a1_5,iN a1_6,iN a1_7],iN (7)] fun x y z A B C E F=>((some ((.agg [.os (5,0) x,iN y,iN z,iN A,iN B,iN C,iN E,iN F]),[]))))
 (
 br (decide (ni o.length > 3000))
 (ck5 97 [.agg [.rs (5,0) a1_0,iN a1_1,iN a1_2,iN a1_3,iN a1_4,iN a1_5,iN a1_6,iN a1_7],iN (6)] fun x y z A B C E F=>((some ((.agg [.os (5,0) x,iN y,iN z,iN A,iN B,iN C,iN E,iN F]),[]))))
 (some ((.agg [.os (5,0) o,iN p,iN q,iN r,iN s,iN t,iN u,iN v]),[]))))))))))):=by
 exact (yD Tryz.func153 rfl _).trans (by kernel_rfl)
theorem OX (a0_0 a0_1 a0_2 a1_0:List D) (a2_:Int):V 171 [.agg [.rs (5,0) a0_0,.rs (4,0) a0_1,.rs (3,0) a0_2],.agg [.rs (5,0) a1_0],iN a2_] =
 ck6 59 [.agg [.rs (5,0) a0_0,.rs (4,0) a0_1,.rs (3,0) a0_2]] fun a=>(br (!a)
 (some ((.tup [.agg [.os (5,0) [],iN (0),iN (0),iN (0),iN (0),iN (0),iN (0),iN (0)],.bool false]),[]))
 (ck6 60 [.agg [.rs (5,0) a1_0]] fun b=>(br (!b)
 (some ((.tup [.agg [.os (5,0) [],iN (0),iN (0),iN (0),iN (0),iN (0),iN (0),iN (0)],.bool false]),[]))
 (ck6 61 [.agg [.rs (5,0) a1_0],iN a2_] fun c=>(br (!c)
 (some ((.tup [.agg [.os (5,0) [],iN (0),iN (0),iN (0),iN (0),iN (0),iN (0),iN (0)],.bool false]),[]))
 (
 br (decide (w6 (ni a1_0.length + 2) > 3000))
 (some ((.tup [.agg [.os (5,0) [],iN (0),iN (0),iN (0),iN (0),iN (0),iN (0),iN (0)],.bool false]),[]))
 (
 grd (decide (0 <= a2_) && decide (a2_ < ni a1_0.length)) (cT a1_0 a2_.toNat fun d=>
 tk2 d fun e f _ g _=>(br (e != 6)
 (some ((.tup [.agg [.os (5,0) [],iN (0),iN (0),iN (0),iN (0),iN (0),iN (0),iN (0)],.bool false]),[]))
 (
 grd (!decide (8 = 0)) (br (Int.tmod f (8) != 0)
 (some ((.tup [.agg [.os (5,0) [],iN (0),iN (0),iN (0),iN (0),iN (0),iN (0),iN (0)],.bool false]),[]))
 (
 grd (!decide (8 = 0)) (br (decide (w6 (Int.tdiv f (8)) >= ni a0_1.length))
 (some ((.tup [.agg [.os (5,0) [],iN (0),iN (0),iN (0),iN (0),iN (0),iN (0),iN (0)],.bool false]),[]))
 (ck8 147 [.agg [.rs (5,0) a1_0]] fun h=>((ck9 158 [.op [.os (5,0) h],(.agg [iN (1),iN (0),.str ({ data:=#[] }),iN (0),iN (0)])] fun i j=>((ck9 158 [.op [.os (5,0) j],(.agg [iN (5),iN (0),.str ({ data:=#[] }),iN i,iN g])] fun k l=>((grd (!decide (8 = 0)) (some ((.tup [(.agg [.os (5,0) l,(iN (w6 (Int.tdiv f (8)))),iN i,iN k,iN i,iN (0),iN (0),iN (0)]),.bool true]),[])))))))))))))))))))))):=by
 exact (yD Tryz.func171 rfl _).trans (by kernel_rfl)
theorem Dp (p0:Int) (p1:List D) (p2 p3:Int):zZ p0 p1 p2 p3 =
 br (decide (p0 < 4))
 (Lx 192 [.op [.rs (1,0) p1,iN p2,iN p3]] fun a b c d=>((Zw 191 [.agg [.rs (5,0) []],.str a] fun e f g _=>(((Zx 193 [.agg [.rs (5,0) e],.rs (1,0) f] fun h i j k _=>(((br (g == 0)
 (
 br (k == 0)
 (some ((.agg [.os (5,0) h,.os (4,0) i,.os (3,0) j]),[.op [.rs (1,0) b,iN c,iN d]]))
 (zZ (w6 (p0 + 1)) b c d))
 (zZ (w6 (p0 + 1)) b c d))))))))))
 (Zw 191 [.agg [.rs (5,0) []],.str ({ data:=#[40,112,114,105,110,116,32,49,41] })] fun a b _ _=>(((Zx 193 [.agg [.rs (5,0) a],.rs (1,0) b] fun c d e _ _=>(((some ((.agg [.os (5,0) c,.os (4,0) d,.os (3,0) e]),[.op [.rs (1,0) p1,iN p2,iN p3]])))))))):=by
 exact (yC _ _ _).trans (by kernel_rfl)
theorem Xc (a0_0 a0_1 a0_2 a1_0:List D) (a1_1 a1_2 a1_3 a1_4 a1_5 a1_6 a1_7:Int):V 89 [.agg [.rs (5,0) a0_0,.rs (4,0) a0_1,.rs (3,0) a0_2],.agg [.rs (5,0) a1_0,iN a1_1,iN a1_2,iN a1_3,iN a1_4,iN a1_5,iN a1_6,iN a1_7]] =
 ck6 15 [.agg [.rs (5,0) a0_0,.rs (4,0) a0_1,.rs (3,0) a0_2],(.agg [.rs (5,0) a1_0,iN a1_1,iN a1_2,iN a1_3,iN a1_4,iN a1_5,iN a1_6,iN a1_7])] fun a=>(br (!a)
 (some ((.agg [.os (5,0) [],iN (0),iN (0),iN (0),iN (0),iN (3),iN (7),iN (0)]),[]))
 (
 br (a1_5 != 0)
 (ck5 85 [.agg [.rs (5,0) a1_0,iN a1_1,iN a1_2,iN a1_3,iN a1_4,iN a1_5,iN a1_6,iN a1_7]] fun b c d e f g h i=>((some ((.agg [.os (5,0) b,iN c,iN d,iN e,iN f,iN g,iN h,iN i]),[]))))
 (ck5 153 [.agg [.rs (5,0) a0_0,.rs (4,0) a0_1,.rs (3,0) a0_2],(.agg [.rs (5,0) a1_0,iN a1_1,iN a1_2,iN a1_3,iN a1_4,iN a1_5,iN a1_6,iN a1_7])] fun b c d e f g h i=>((some ((.agg [.os (5,0) b,iN c,iN d,iN e,iN f,iN g,iN h,iN i]),[])))))):=by
 exact (yD Tryz.func89 rfl _).trans (by kernel_rfl)
theorem S6 (a0_0:List D) (a0_1 a0_2:Int):V 143 [.op [.rs (1,0) a0_0,iN a0_1,iN a0_2]] =
 grd (!decide (33 < 0)) (grd (!decide (45 < 0)) (br (decide (a0_1 < ni a0_0.length))
 (
 grd (decide (0 <= a0_1) && decide (a0_1 < ni a0_0.length)) (cT a0_0 a0_1.toNat fun a=>
 asI .u8 a fun b=>some ((iN (w6 (ni (BitVec.toNat (BitVec.ofInt (IntKind.bits IntKind.i64) (w6 (w6 (ni (BitVec.toNat (BitVec.ofInt (IntKind.bits IntKind.i64) (w6 (ni (BitVec.toNat (BitVec.ofInt (IntKind.bits IntKind.i64) (Int.fdiv (w6 (w6 (a0_2 * 6364136223846793005) + 1442695040888963407)) (2 ^ min (Int.toNat (33)) (IntKind.bits IntKind.i64))) ^^^ BitVec.ofInt (IntKind.bits IntKind.i64) (Int.fdiv (w6 (w6 (a0_2 * 6364136223846793005) + 1442695040888963407)) (2 ^ min (Int.toNat (45)) (IntKind.bits IntKind.i64))))))) &&& BitVec.ofInt (IntKind.bits IntKind.i64) (255)))) + w6 b)) &&& BitVec.ofInt (IntKind.bits IntKind.i64) (255)))))),[(.op [.rs (1,0) a0_0,(iN (w6 (a0_1 + 1))),(iN (w6 (w6 (a0_2 * 6364136223846793005) + 1442695040888963407)))])])))
 (some ((iN (w6 (ni (BitVec.toNat (BitVec.ofInt (IntKind.bits IntKind.i64) (w6 (ni (BitVec.toNat (BitVec.ofInt (IntKind.bits IntKind.i64) (Int.fdiv (w6 (w6 (a0_2 * 6364136223846793005) + 1442695040888963407)) (2 ^ min (Int.toNat (33)) (IntKind.bits IntKind.i64))) ^^^ BitVec.ofInt (IntKind.bits IntKind.i64) (Int.fdiv (w6 (w6 (a0_2 * 6364136223846793005) + 1442695040888963407)) (2 ^ min (Int.toNat (45)) (IntKind.bits IntKind.i64))))))) &&& BitVec.ofInt (IntKind.bits IntKind.i64) (255)))))),[(.op [.rs (1,0) a0_0,iN a0_1,(iN (w6 (w6 (a0_2 * 6364136223846793005) + 1442695040888963407)))])])))):=by
 exact (yD Tryz.func143 rfl _).trans (by kernel_rfl)
theorem Ir (p0 p1:Int) (p2:List D):DN p0 p1 p2 =
 br (decide (p1 > 0))
 (
 grd (decide (0 <= p0) && decide (p0 < ni p2.length)) (cT p2 p0.toNat fun a=>
 asAgg a fun b=>cT b 0 fun c=>
 asI .i64 c fun d=>br (d == 5)
 (
 grd (decide (0 <= p0) && decide (p0 < ni p2.length)) (cT p2 p0.toNat fun e=>
 asAgg e fun f=>cT f 4 fun g=>
 asI .i64 g fun h=>DN h (w6 (p1 - 1)) p2))
 (
 grd (decide (0 <= p0) && decide (p0 < ni p2.length)) (cT p2 p0.toNat fun e=>
 asAgg e fun f=>cT f 0 fun g=>
 asI .i64 g fun h=>br (h != 5)
 (some ((.tup [iN (0),.bool false]),[]))
 (
 grd (decide (0 <= p0) && decide (p0 < ni p2.length)) (cT p2 p0.toNat fun i=>
 asAgg i fun j=>cT j 3 fun k=>
 asI .i64 k fun l=>some ((.tup [iN l,.bool true]),[])))))))
 (
 grd (decide (0 <= p0) && decide (p0 < ni p2.length)) (cT p2 p0.toNat fun a=>
 asAgg a fun b=>cT b 0 fun c=>
 asI .i64 c fun d=>br (d != 5)
 (some ((.tup [iN (0),.bool false]),[]))
 (
 grd (decide (0 <= p0) && decide (p0 < ni p2.length)) (cT p2 p0.toNat fun e=>
 asAgg e fun f=>cT f 3 fun g=>
 asI .i64 g fun h=>some ((.tup [iN h,.bool true]),[]))))):=by
 exact (yC _ _ _).trans (by kernel_rfl)
theorem Gy (p0:Int) (p1 p2 p3:List D):Di p0 p1 p2 p3 =
 br (decide (p0 < ni p3.length))
 (
 grd (decide (0 <= p0) && decide (p0 < ni p3.length)) (cT p3 p0.toNat fun a=>
 tk3 a fun b c d=>(ck6 128 [.str b] fun e=>(br (!e)
 (some ((.bool false),[]))
 (Ct 129 [.agg [.rs (5,0) p1,.rs (4,0) p2,.rs (3,0) p3],.str b] fun f=>(br (f != p0)
 (some ((.bool false),[]))
 (ck6 62 [iN c,iN (0),(iN (w6 (ni p2.length - 1)))] fun g=>(br (!g)
 (some ((.bool false),[]))
 (ck6 62 [iN d,iN (0),iN (4)] fun h=>(br (!h)
 (some ((.bool false),[]))
 (Di (w6 (p0 + 1)) p1 p2 p3)))))))))))
 (some ((.bool true),[])):=by
 exact (yC _ _ _).trans (by kernel_rfl)
theorem Cn (p0 p1:Int) (p2:List D) (p3 p4:Int) (p5:List D):Ah p0 p1 p2 p3 p4 p5 =
 br (decide (p1 < p0))
 (UH 197 [.op [.rs (1,0) p2,iN p3,iN p4],iN p1] fun a b c d e f g h=>(((ck9 158 [.op [.os (5,0) p5],.agg [iN a,iN b,.str c,iN d,iN e]] fun _ i=>((Ah p0 (w6 (p1 + 1)) f g h i))))))
 (some ((.agg [.os (5,0) p5]),[.op [.rs (1,0) p2,iN p3,iN p4]])):=by
 exact (yC _ _ _).trans (by kernel_rfl)
theorem Xb (a0_0:List D) (a1_:ByteArray):V 191 [.agg [.rs (5,0) a0_0],.str a1_] =
 ck6 60 [.agg [.rs (5,0) a0_0]] fun a=>(br (!a)
 (some ((.tup [.agg [.os (5,0) []],.os (1,0) [],iN (6),iN (0)]),[]))
 (
 br (decide (ni (ByteArray.size a1_) > 400))
 (ck8 147 [.agg [.rs (5,0) a0_0]] fun b=>((some ((.tup [.agg [.os (5,0) b],.os (1,0) [],iN (1),iN (0)]),[]))))
 (ck8 147 [.agg [.rs (5,0) a0_0]] fun b=>((za a1_ (0) a0_0 [] ([D.agg
 [iN (0),
 D.os
 (TypeInfo.size (Tables.types (Program.toTables Tryz.prog))[3],
 match qU Tryz.prog (3) with
 | true=>0
 | false=>1)
 []]]) b))))):=by
 exact (yD Tryz.func191 rfl _).trans (by kernel_rfl)
theorem WY (a0_0:List D) (a1_ a2_:Int):V 242 [.agg [.rs (5,0) a0_0],iN a1_,iN a2_] =
 ck6 55 [.agg [.rs (5,0) a0_0]] fun a=>(br (!a)
 (some ((.bool false),[]))
 (ck6 56 [.agg [.rs (5,0) a0_0],iN a1_] fun b=>(br (!b)
 (some ((.bool false),[]))
 (ck6 56 [.agg [.rs (5,0) a0_0],iN a2_] fun c=>(br (!c)
 (some ((.bool false),[]))
 (KM 247 [.agg [.rs (5,0) a0_0]] fun d=>(grd (decide (0 <= a1_) && decide (a1_ < ni d.length)) (cT d a1_.toNat fun e=>
 asI .i64 e fun f=>grd (decide (0 <= a2_) && decide (a2_ < ni d.length)) (cT d a2_.toNat fun g=>
 asI .i64 g fun h=>some ((.bool (f == h)),[])))))))))):=by
 exact (yD Tryz.func242 rfl _).trans (by kernel_rfl)
theorem Gv (p0:List D) (p1 p2:Int) (p3:List D):Dd p0 p1 p2 p3 =
 br (decide (p2 < p1))
 (
 grd (decide (0 <= p2) && decide (p2 < ni p0.length)) (cT p0 p2.toNat fun a=>
 tk2 a fun b c d e f=>(ck6 126 [.agg [iN b,iN c,.str d,iN e,iN f],iN p2] fun g=>(br (!g)
 (some ((.bool false),[]))
 (Dd p0 p1 (w6 (p2 + 1)) p3)))))
 (some ((.bool (decide (ni p3.length <= 3000))),[])):=by
 exact (yC _ _ _).trans (by kernel_rfl)
theorem Nu (a0_:Int):V 177 [.int .u8 a0_] =
 br (decide (a0_ >= 97))
 (
 br (decide (a0_ <= 122))
 (some ((.bool true),[]))
 (grd (decide (0 < 8)) (ck6 203 [.rs (1,0) [.int .u8 (43),.int .u8 (45),.int .u8 (42),.int .u8 (60),.int .u8 (61),.int .u8 (63),.int .u8 (33),.int .u8 (47)],.int .u8 a0_] fun a=>(some ((.bool a),[])))))
 (grd (decide (0 < 8)) (ck6 203 [.rs (1,0) [.int .u8 (43),.int .u8 (45),.int .u8 (42),.int .u8 (60),.int .u8 (61),.int .u8 (63),.int .u8 (33),.int .u8 (47)],.int .u8 a0_] fun a=>(some ((.bool a),[])))):=by
 exact (yD Tryz.func177 rfl _).trans (by kernel_rfl)
theorem Vh (a0_0:List D) (a0_1 a0_2:Int) (a1_0 a1_1 a1_2 a2_0:List D) (a2_1 a2_2 a2_3 a2_4 a2_5 a2_6 a2_7 a3_:Int):V 172 [.op [.rs (1,0) a0_0,iN a0_1,iN a0_2],.agg [.rs (5,0) a1_0,.rs (4,0) a1_1,.rs (3,0) a1_2],.agg [.os (5,0) a2_0,iN a2_1,iN a2_2,iN a2_3,iN a2_4,iN a2_5,iN a2_6,iN a2_7],iN a3_] =
 Cr a3_ (0) a0_0 a0_1 a0_2 a1_0 a1_1 a1_2 a2_1 a2_2 a2_3 a2_4 a2_5 a2_6 a2_7 (0) (0) (0) (0) (0) (0) (0) a2_0:=by
 exact (yD Tryz.func172 rfl _).trans (by kernel_rfl)
theorem FH (p0:List D) (p1:Int) (p2 p3:List D):Bc p0 p1 p2 p3 =
 br (decide (p1 < ni p0.length))
 (
 grd (decide (0 <= p1) && decide (p1 < ni p0.length)) (cT p0 p1.toNat fun a=>
 asI .i64 a fun b=>grd (decide (0 <= b) && decide (b < ni p3.length)) (cT p3 b.toNat fun _=>
 nam (List.set p3 b.toNat (D.bool true)) fun c=>
 Bc p0 (w6 (p1 + 1)) p2 c)))
 (zD (w6 (ni p2.length - 1)) p2 p3):=by
 exact (yC _ _ _).trans (by kernel_rfl)
theorem KN (p q:List D) (v:Int):V 93 [.op [.os (5,0) p],.agg [.rs (5,0) q],iN v] =
 UF 137 [.op [.os (5,0) p],(.agg [.rs (5,0) q]),.rs (1,0) [iN v]] fun a b=>((grd (decide (0 <= v) && decide (v < ni a.length)) (cT a v.toNat fun c=>
 asI .i64 c fun d=>some ((iN d),[.op [.os (5,0) b]])))):=by
 exact (yD Tryz.func93 rfl _).trans (by kernel_rfl)
theorem KO (p:List D) (m1 m2 m3 m4 m5 m6 m7:Int) (cp cl cd:List D) (v n:Int):V 207 [.op [.os (5,0) p,iN m1,iN m2,iN m3,iN m4,iN m5,iN m6,iN m7,.rs (5,0) cp,.rs (4,0) cl,.rs (3,0) cd],iN v,iN n] =
 Af v n m1 m2 m3 m4 m5 m6 m7 cp cl cd p:=by
 exact (yD Tryz.func207 rfl _).trans (by kernel_rfl)
theorem SB (a0_:ByteArray):V 124 [.str a0_] =
 ck6 58 [(iN (ni (ByteArray.size a0_))),iN (1),iN (12)] fun a=>(br (!a)
 (some ((.bool false),[]))
 (Bu a0_ (ni (ByteArray.size a0_)) (0))):=by
 exact (yD Tryz.func124 rfl _).trans (by kernel_rfl)
theorem Ip (p0:List D) (p1:ByteArray) (p2:Int):Cq p0 p1 p2 =
 br (decide (p2 < ni p0.length))
 (DL p0 p1 p2 (0))
 (some ((.tup [iN (-1),iN (0)]),[])):=by
 exact (yC _ _ _).trans (by kernel_rfl)
theorem Xa (r:Int) (p:List D):V 136 [iN r,.bp [.rs (5,0) p]] =
 ck6 56 [.agg [.rs (5,0) p],iN r] fun a=>(some ((.bool (!a)),[])):=by
 exact (yD Tryz.func136 rfl _).trans (by kernel_rfl)
theorem Q9 (a0_0 a1_:List D):V 84 [.agg [.rs (5,0) a0_0],.rs (1,0) a1_] =
 Bg a1_ (0) a0_0:=by
 exact (yD Tryz.func84 rfl _).trans (by kernel_rfl)
theorem O6 (a0_0:List D):V 252 [.agg [.rs (5,0) a0_0]] =
 zU (0) a0_0 [] []:=by
 exact (yD Tryz.func252 rfl _).trans (by kernel_rfl)

end Go.Eng
/-! the functions as the interpreter has them -/
namespace Go.Eng
open Go.Proofs Go.Proofs.Tryz
set_option maxRecDepth 100000
theorem Xh (cp cl cd p:List D) (m1 m2 m3 m4 m5 m6 m7 io im ii:Int) (is:ByteArray):V 196 [.agg [.rs (5,0) cp,.rs (4,0) cl,.rs (3,0) cd],.op [.os (5,0) p,iN m1,iN m2,iN m3,iN m4,iN m5,iN m6,iN m7],.agg [iN io,iN im,iN ii,.str is]] =
 br (io == 1)
 (ck9 96 [.op [.os (5,0) p],(.agg [.rs (5,0) cp]),iN im] fun a b=>((OI 95 [.op [.os (5,0) b,iN m1,iN m2,iN m3,iN m4,iN m5,iN m6,iN m7],iN a] fun c _ d e f g h i=>(((some ((iN (0)),[(.op [.os (5,0) c,(iN (w6 (m1 + 1))),iN d,iN e,iN f,iN g,iN h,iN i])])))))))
 (
 br (io == 2)
 (WT 216 [.agg [.rs (5,0) p],iN m3,iN im] fun a b=>((br (!b)
 (some ((iN (7)),[.op [.os (5,0) p,iN m1,iN m2,iN m3,iN m4,iN m5,iN m6,iN m7]]))
 (WT 216 [.agg [.rs (5,0) p],iN a,iN ii] fun c d=>((br (!d)
 (some ((iN (7)),[.op [.os (5,0) p,iN m1,iN m2,iN m3,iN m4,iN m5,iN m6,iN m7]]))
 (OI 95 [.op [.os (5,0) p,iN m1,iN m2,iN m3,iN m4,iN m5,iN m6,iN m7],iN c] fun e _ f g h i j k=>(((some ((iN (0)),[(.op [.os (5,0) e,(iN (w6 (m1 + 1))),iN f,iN g,iN h,iN i,iN j,iN k])])))))))))))
 (
 br (io == 3)
 (Lv 217 [.agg [.rs (5,0) cp,.rs (4,0) cl,.rs (3,0) cd],(.op [.os (5,0) p,iN m1,iN m2,iN m3,iN m4,iN m5,iN m6,iN m7]),.str is] fun a b c d e f g h i=>((br (a != 0)
 (some ((iN a),[.op [.os (5,0) b,iN c,iN d,iN e,iN f,iN g,iN h,iN i]]))
 (some ((iN (0)),[(.op [.os (5,0) b,(iN (w6 (m1 + 1))),iN d,iN e,iN f,iN g,iN h,iN i])])))))
 (
 br (io == 4)
 (UE 218 [.op [.os (5,0) p,iN m1,iN m2,iN m3,iN m4,iN m5,iN m6,iN m7]] fun a b c d e f g h i j=>(((br (!b)
 (some ((iN (7)),[.op [.os (5,0) c,iN d,iN e,iN f,iN g,iN h,iN i,iN j]]))
 (
 grd (decide (0 <= a) && decide (a < ni c.length)) (cT c a.toNat fun k=>
 tk2 k fun l m _ _ _=>(br (l == 2)
 (
 br (m == 0)
 (some ((iN (0)),[.op [.os (5,0) c,iN im,iN e,iN f,iN g,iN h,iN i,iN j]]))
 (some ((iN (0)),[(.op [.os (5,0) c,(iN (w6 (m1 + 1))),iN e,iN f,iN g,iN h,iN i,iN j])])))
 (some ((iN (0)),[(.op [.os (5,0) c,(iN (w6 (m1 + 1))),iN e,iN f,iN g,iN h,iN i,iN j])])))))))))
 (
 br (io == 5)
 (some ((iN (0)),[.op [.os (5,0) p,iN im,iN m2,iN m3,iN m4,iN m5,iN m6,iN m7]]))
 (
 br (io == 6)
 (ck9 158 [.op [.os (5,0) p],(.agg [iN (6),(iN (w6 (w6 (8 * im) + ii))),.str ({ data:=#[] }),iN m3,iN (0)])] fun a b=>((OI 95 [.op [.os (5,0) b,iN m1,iN m2,iN m3,iN m4,iN m5,iN m6,iN m7],iN a] fun c _ d e f g h i=>(((some ((iN (0)),[(.op [.os (5,0) c,(iN (w6 (m1 + 1))),iN d,iN e,iN f,iN g,iN h,iN i])])))))))
 (
 br (io == 7)
 (Lv 219 [.agg [.rs (5,0) cp,.rs (4,0) cl,.rs (3,0) cd],(.op [.os (5,0) p,iN m1,iN m2,iN m3,iN m4,iN m5,iN m6,iN m7]),iN ii,(iN (w6 (m1 + 1)))] fun a b c d e f g h i=>((some ((iN a),[.op [.os (5,0) b,iN c,iN d,iN e,iN f,iN g,iN h,iN i]]))))
 (
 br (io == 8)
 (Lv 220 [.op [.os (5,0) p,iN m1,iN m2,iN m3,iN m4,iN m5,iN m6,iN m7]] fun a b c d e f g h i=>((some ((iN a),[.op [.os (5,0) b,iN c,iN d,iN e,iN f,iN g,iN h,iN i]]))))
 (
 br (io == 9)
 (UE 218 [.op [.os (5,0) p,iN m1,iN m2,iN m3,iN m4,iN m5,iN m6,iN m7]] fun _ a b c d e f g h i=>(((br (!a)
 (some ((iN (7)),[.op [.os (5,0) b,iN c,iN d,iN e,iN f,iN g,iN h,iN i]]))
 (some ((iN (0)),[(.op [.os (5,0) b,(iN (w6 (m1 + 1))),iN d,iN e,iN f,iN g,iN h,iN i])]))))))
 (some ((iN (0)),[(.op [.os (5,0) p,(iN (w6 (m1 + 1))),iN m2,iN m3,iN m4,iN m5,iN m6,iN m7])])))))))))):=by
 exact (yD Tryz.func196 rfl _).trans (by kernel_rfl)
theorem TH (cp cl cd p:List D) (m1 m2 m3 m4 m5 m6 m7 n:Int) (l:List D) (nx:Int):V 240 [.agg [.rs (5,0) cp,.rs (4,0) cl,.rs (3,0) cd],.op [.os (5,0) p,iN m1,iN m2,iN m3,iN m4,iN m5,iN m6,iN m7],iN n,.rs (1,0) l,iN nx] =
 Ct 245 [iN n] fun a=>(br (ni l.length != a)
 (some ((iN (2)),[.op [.os (5,0) p,iN m1,iN m2,iN m3,iN m4,iN m5,iN m6,iN m7]]))
 (
 br (n == 18)
 (ck9 158 [.op [.os (5,0) p],(.agg [iN (3),iN nx,.str ({ data:=#[] }),iN (0),iN (0)])] fun b c=>((ck9 210 [.op [.os (5,0) c],.rs (1,0) [iN b,iN m2,iN m3,iN m4]] fun d e=>((ck9 158 [.op [.os (5,0) e],(.agg [iN (7),iN (0),.str ({ data:=#[] }),iN d,iN (0)])] fun f g=>((grd (decide (0 <= 0) && decide (0 < ni l.length)) (cT l 0 fun h=>
 asI .i64 h fun i=>Lv 233 [.agg [.rs (5,0) cp,.rs (4,0) cl,.rs (3,0) cd],(.op [.os (5,0) g,iN m1,iN m2,iN m3,iN m4,iN m5,iN m6,iN m7]),iN i,.rs (1,0) [iN f],iN nx] fun j k m o q r s t u=>((some ((iN j),[.op [.os (5,0) k,iN m,iN o,iN q,iN r,iN s,iN t,iN u]])))))))))))
 (
 br (decide (n > 12))
 (ck9 210 [.op [.os (5,0) p],.rs (1,0) l] fun b c=>((some ((iN (0)),[.op [.os (5,0) c,iN m1,iN m2,iN m3,iN m4,iN (1),iN n,iN b]]))))
 (YD 246 [.op [.os (5,0) p],iN n,.rs (1,0) l] fun b c d=>(((br (c == 3)
 (some ((iN (4)),[.op [.os (5,0) d,iN m1,iN m2,iN m3,iN m4,iN m5,iN m6,iN m7]]))
 (
 br (c == 4)
 (some ((iN (5)),[.op [.os (5,0) d,iN m1,iN m2,iN m3,iN m4,iN m5,iN m6,iN m7]]))
 (OI 95 [.op [.os (5,0) d,iN m1,iN m2,iN m3,iN m4,iN m5,iN m6,iN m7],iN b] fun e _ f g h i j k=>(((some ((iN (0)),[.op [.os (5,0) e,iN nx,iN f,iN g,iN h,iN i,iN j,iN k]]))))))))))))):=by
 exact (yD Tryz.func240 rfl _).trans (by kernel_rfl)
theorem PE (cp cl cd p:List D) (m1 m2 m3 m4 m5 m6 m7:Int) (s:ByteArray):V 217 [.agg [.rs (5,0) cp,.rs (4,0) cl,.rs (3,0) cd],.op [.os (5,0) p,iN m1,iN m2,iN m3,iN m4,iN m5,iN m6,iN m7],.str s] =
 Ct 129 [.agg [.rs (5,0) cp,.rs (4,0) cl,.rs (3,0) cd],.str s] fun a=>(br (decide (a >= 0))
 (ck9 158 [.op [.os (5,0) p],(.agg [iN (1),iN (0),.str ({ data:=#[] }),iN (0),iN (0)])] fun b c=>((grd (decide (0 <= a) && decide (a < ni cd.length)) (cT cd a.toNat fun d=>
 asAgg d fun e=>cT e 1 fun f=>
 asI .i64 f fun g=>grd (decide (0 <= a) && decide (a < ni cd.length)) (cT cd a.toNat fun h=>
 asAgg h fun i=>cT i 2 fun j=>
 asI .i64 j fun k=>ck9 158 [.op [.os (5,0) c],(.agg [iN (6),(iN (w6 (w6 (8 * g) + k))),.str ({ data:=#[] }),iN b,iN (0)])] fun l m=>((OI 95 [.op [.os (5,0) m,iN m1,iN m2,iN m3,iN m4,iN m5,iN m6,iN m7],iN l] fun n o q r t u v w=>(((some ((iN (0)),[.op [.os (5,0) n,iN o,iN q,iN r,iN t,iN u,iN v,iN w]])))))))))))
 (Ct 232 [.str s] fun b=>(br (b == 0)
 (some ((iN (1)),[.op [.os (5,0) p,iN m1,iN m2,iN m3,iN m4,iN m5,iN m6,iN m7]]))
 (ck9 158 [.op [.os (5,0) p],(.agg [iN (8),iN b,.str ({ data:=#[] }),iN (0),iN (0)])] fun c d=>((OI 95 [.op [.os (5,0) d,iN m1,iN m2,iN m3,iN m4,iN m5,iN m6,iN m7],iN c] fun e f g h i j k l=>(((some ((iN (0)),[.op [.os (5,0) e,iN f,iN g,iN h,iN i,iN j,iN k,iN l]])))))))))):=by
 exact (yD Tryz.func217 rfl _).trans (by kernel_rfl)
theorem U9 (p l d:List D) (h:Int) (n x e:List D):V 254 [.op [.os (5,0) p,.os (4,0) l,.os (3,0) d,iN h],.rs (1,0) n,.rs (1,0) x,.rs (1,1) e] =
 ck1 237 [(.op [.os (5,0) p,(.os (
 4,0) l),.os (3,0) d,iN h]),(.agg [iN (6),iN (0),(iN (ni n.length)),.str ({ data:=#[] })])] fun a b c f g=>((ck1 237 [.op [.os (5,0) b,.os (4,0) c,.os (3,0) f,iN g],(.agg [iN (5),iN (0),iN (0),.str ({ data:=#[] })])] fun i j k m o=>((ck2 253 [.op [.os (5,0) j,.os (4,0) k,.os (3,0) m,iN o],iN a] fun q r s t=>(((grd (decide (ni (List.length ([D.rs (1,0) n]++e)) <= LIM)) (nam ([D.rs (1,0) n]++e) fun u=>
 ck2 236 [.op [.os (5,0) q,.os (4,0) r,.os (3,0) s,iN t],.rs (1,0) x,.rs (1,1) u] fun v w y z=>(((ck1 237 [.op [.os (5,0) v,.os (4,0) w,.os (3,0) y,iN z],(.agg [iN (8),iN (0),iN (0),.str ({ data:=#[] })])] fun _ A B C E=>((ck2 253 [.op [.os (5,0) A,.os (4,0) B,.os (3,0) C,iN E],iN i] fun F G H I=>(((some ((.tup []),[.op [.os (5,0) F,.os (4,0) G,.os (3,0) H,iN I]]))))))))))))))))):=by
 exact (yD Tryz.func254 rfl _).trans (by kernel_rfl)
theorem QQ (a0_0:List D) (a0_1 a0_2 a1_:Int):V 76 [.op [.rs (1,0) a0_0,iN a0_1,iN a0_2],iN a1_] =
 br (decide (a1_ <= 0))
 (some ((iN (0)),[.op [.rs (1,0) a0_0,iN a0_1,iN a0_2]]))
 (
 br (decide (a1_ <= 256))
 (ck7 143 [.op [.rs (1,0) a0_0,iN a0_1,iN a0_2]] fun a b c d=>((grd (!decide (a1_ = 0)) (some ((iN (Int.tmod a a1_)),[.op [.rs (1,0) b,iN c,iN d]])))))
 (ck7 143 [.op [.rs (1,0) a0_0,iN a0_1,iN a0_2]] fun a b c d=>((ck7 143 [.op [.rs (1,0) b,iN c,iN d]] fun e f g h=>((ck7 143 [.op [.rs (1,0) f,iN g,iN h]] fun i j k l=>((ck7 143 [.op [.rs (1,0) j,iN k,iN l]] fun m n o p=>((grd (!decide (a1_ = 0)) (some ((iN (Int.tmod (w6 (w6 (w6 (w6 (a * 16777216) + w6 (e * 65536)) + w6 (i * 256)) + m)) a1_)),[.op [.rs (1,0) n,iN o,iN p]])))))))))))):=by
 exact (yD Tryz.func76 rfl _).trans (by kernel_rfl)
theorem Ig (p0:Int) (p1 p2:List D):zN p0 p1 p2 =
 br (decide (p0 >= 0))
 (
 grd (decide (0 <= p0) && decide (p0 < ni p2.length)) (cT p2 p0.toNat fun a=>
 asB a fun b=>br (!b)
 (zN (w6 (p0 - 1)) p1 p2)
 (
 grd (decide (0 <= p0) && decide (p0 < ni p1.length)) (cT p1 p0.toNat fun c=>
 tk2 c fun d _ _ e f=>(br (d == 5)
 (
 grd (decide (0 <= e) && decide (e < ni p2.length)) (cT p2 e.toNat fun _=>
 nam (List.set p2 e.toNat (D.bool true)) fun g=>
 grd (decide (0 <= f) && decide (f < ni g.length)) (cT g f.toNat fun _=>
 nam (List.set g f.toNat (D.bool true)) fun h=>
 zN (w6 (p0 - 1)) p1 h)))
 (
 br (d == 6)
 (
 br (d == 6)
 (
 grd (decide (0 <= e) && decide (e < ni p2.length)) (cT p2 e.toNat fun _=>
 nam (List.set p2 e.toNat (D.bool true)) fun g=>
 zN (w6 (p0 - 1)) p1 g))
 (zN (w6 (p0 - 1)) p1 p2))
 (
 br (d == 7)
 (
 grd (decide (0 <= e) && decide (e < ni p2.length)) (cT p2 e.toNat fun _=>
 nam (List.set p2 e.toNat (D.bool true)) fun g=>
 zN (w6 (p0 - 1)) p1 g))
 (zN (w6 (p0 - 1)) p1 p2))))))))
 (some ((.os (1,0) p2),[])):=by
 exact (yC _ _ _).trans (by kernel_rfl)
theorem Nw (a0_0 a0_1 a0_2:List D) (a1_:ByteArray):V 78 [.agg [.rs (5,0) a0_0,.rs (4,0) a0_1,.rs (3,0) a0_2],.str a1_] =
 Ct 129 [.agg [.rs (5,0) a0_0,.rs (4,0) a0_1,.rs (3,0) a0_2],.str a1_] fun a=>(ck6 59 [.agg [.rs (5,0) a0_0,.rs (4,0) a0_1,.rs (3,0) a0_2]] fun b=>(br (!b)
 (some ((.tup [.agg [.os (5,0) [],iN (0),iN (0),iN (0),iN (0),iN (0),iN (0),iN (0)],.bool false]),[]))
 (
 br (decide (a < 0))
 (some ((.tup [.agg [.os (5,0) [],iN (0),iN (0),iN (0),iN (0),iN (0),iN (0),iN (0)],.bool false]),[]))
 (
 grd (decide (0 <= a) && decide (a < ni a0_2.length)) (cT a0_2 a.toNat fun c=>
 asAgg c fun d=>cT d 2 fun e=>
 asI .i64 e fun f=>br (f != 0)
 (some ((.tup [.agg [.os (5,0) [],iN (0),iN (0),iN (0),iN (0),iN (0),iN (0),iN (0)],.bool false]),[]))
 (
 grd (decide (0 <= a) && decide (a < ni a0_2.length)) (cT a0_2 a.toNat fun g=>
 asAgg g fun h=>cT h 1 fun i=>
 asI .i64 i fun j=>some ((.tup [(.agg [(.os (5,0) [.agg [iN (1),iN (0),.str ({ data:=#[] }),iN (0),iN (0)],(.agg [iN (5),iN (0),.str ({ data:=#[] }),iN (0),iN (0)])]),iN j,iN (0),iN (1),iN (0),iN (0),iN (0),iN (0)]),.bool true]),[])))))))):=by
 exact (yD Tryz.func78 rfl _).trans (by kernel_rfl)
theorem Bj (p0:List D) (p1 p2:Int) (p3 p4 p5:List D):AU p0 p1 p2 p3 p4 p5 =
 br (decide (p1 < ni p0.length))
 (
 grd (decide (0 <= p1) && decide (p1 < ni p0.length)) (cT p0 p1.toNat fun a=>
 asI .i64 a fun b=>ck2 215 [.op [.os (5,0) p3,.os (4,0) p4,.os (3,0) p5,iN p2],iN b] fun c d e f=>(((br (f == 3)
 (some ((.tup [.agg [.os (5,0) [],.os (4,0) [],.os (3,0) []],iN (3),iN (0)]),[]))
 (
 br (f != 0)
 (some ((.tup [.agg [.os (5,0) [],.os (4,0) [],.os (3,0) []],iN f,iN p1]),[]))
 (AU p0 (w6 (p1 + 1)) f c d e)))))))
 (ck6 59 [.agg [.rs (5,0) p3,.rs (4,0) p4,.rs (3,0) p5]] fun a=>(br (!a)
 (some ((.tup [.agg [.os (5,0) [],.os (4,0) [],.os (3,0) []],iN (3),iN (0)]),[]))
 (some ((.tup [.agg [.os (5,0) p3,.os (4,0) p4,.os (3,0) p5],iN (0),(iN (ni p0.length))]),[])))):=by
 exact (yC _ _ _).trans (by kernel_rfl)
theorem Tn (p l d:List D) (h io im ii:Int) (is:ByteArray):V 237 [.op [.os (5,0) p,.os (4,0) l,.os (3,0) d,iN h],.agg [iN io,iN im,iN ii,.str is]] =
 br (h == 0)
 (
 br (ni l.length == 400)
 (some ((iN (0)),[.op [.os (5,0) p,.os (4,0) l,.os (3,0) d,iN (3)]]))
 (
 br (h != 0)
 (some ((iN (0)),[.op [.os (5,0) p,.os (4,0) l,.os (3,0) d,iN h]]))
 (
 grd (decide (ni (List.length (l++[D.agg [iN io,iN im,iN ii,D.str is]])) <= LIM)) (nam (l++[D.agg [iN io,iN im,iN ii,D.str is]]) fun a=>
 some ((iN (w6 (ni a.length - 1))),[.op [.os (5,0) p,.os (4,0) a,.os (3,0) d,iN h]])))))
 (
 br (h != 0)
 (some ((iN (0)),[.op [.os (5,0) p,.os (4,0) l,.os (3,0) d,iN h]]))
 (
 grd (decide (ni (List.length (l++[D.agg [iN io,iN im,iN ii,D.str is]])) <= LIM)) (nam (l++[D.agg [iN io,iN im,iN ii,D.str is]]) fun a=>
 some ((iN (w6 (ni a.length - 1))),[.op [.os (5,0) p,.os (4,0) a,.os (3,0) d,iN h]])))):=by
 exact (yD Tryz.func237 rfl _).trans (by kernel_rfl)
theorem FG (p0:List D) (p1 p2:Int) (p3 p4 p5 p6:List D):zY p0 p1 p2 p3 p4 p5 p6 =
 br (decide (p1 < ni p0.length))
 (
 br (p2 == 0)
 (
 grd (decide (0 <= p1) && decide (p1 < ni p0.length)) (cT p0 p1.toNat fun a=>
 asI .i64 a fun b=>Zt 230 [.op [.os (5,0) p4,.os (4,0) p5,.os (3,0) p6,iN p2],iN b] fun c d e f g h=>(((br (!d)
 (
 grd (decide (ni (List.length (p3++[D.str c])) <= LIM)) (nam (p3++[D.str c]) fun i=>
 zY p0 (w6 (p1 + 1)) (1) i e f g))
 (
 grd (decide (ni (List.length (p3++[D.str c])) <= LIM)) (nam (p3++[D.str c]) fun i=>
 zY p0 (w6 (p1 + 1)) h i e f g)))))))
 (zL (0) p2 p3 p4 p5 p6))
 (zL (0) p2 p3 p4 p5 p6):=by
 exact (yC _ _ _).trans (by kernel_rfl)
theorem FU (p:List D) (m1 m2 m3 m4 m5 m6 m7:Int) (cp cl cd:List D) :V 182 [.op [.os (5,0) p,iN m1,iN m2,iN m3,iN m4,iN m5,iN m6,iN m7,.rs (5,0) cp,.rs (4,0) cl,.rs (3,0) cd]] =
 grd (decide (0 <= m2) && decide (m2 < ni p.length)) (cT p m2.toNat fun a=>
 tk2 a fun b _ _ c d=>(br (b != 5)
 (some ((.tup [iN (0),.bool false]),[.op [.os (5,0) p,iN m1,iN m2,iN m3,iN m4,iN m5,iN m6,iN m7,.rs (5,0) cp,.rs (4,0) cl,.rs (3,0) cd]]))
 (some ((.tup [iN c,.bool true]),[.op [.os (5,0) p,iN m1,iN d,iN m3,iN m4,iN m5,iN m6,iN m7,.rs (5,0) cp,.rs (4,0) cl,.rs (3,0) cd]])))):=by
 exact (yD Tryz.func182 rfl _).trans (by kernel_rfl)
theorem SG (a0_0:List D) (a0_1 a0_2 a0_3 a0_4 a0_5 a0_6 a0_7 a1_:Int):V 92 [.agg [.rs (5,0) a0_0,iN a0_1,iN a0_2,iN a0_3,iN a0_4,iN a0_5,iN a0_6,iN a0_7],iN a1_] =
 ck5 63 [.agg [.rs (5,0) a0_0,iN a0_1,iN a0_2,iN a0_3,iN a0_4,iN a0_5,iN a0_6,iN a0_7]] fun a _ b c d _ _ _=>((some ((.agg [.os (5,0) a,iN (0),iN b,iN c,iN d,iN (3),iN a1_,iN (0)]),[]))):=by
 exact (yD Tryz.func92 rfl _).trans (by kernel_rfl)
theorem Tj (a0_:ByteArray):V 212 [.str a0_] =
 br (kc a0_ { data:=#[35,116] })
 (some ((.tup [.agg [iN (2),iN (1),.str ({ data:=#[] }),iN (0),iN (0)],.bool true]),[]))
 (
 br (kc a0_ { data:=#[35,102] })
 (some ((.tup [.agg [iN (2),iN (0),.str ({ data:=#[] }),iN (0),iN (0)],.bool true]),[]))
 (WT 227 [.str a0_] fun a b=>((br b
 (some ((.tup [.agg [iN (3),iN a,.str ({ data:=#[] }),iN (0),iN (0)],.bool true]),[]))
 (ck6 128 [.str a0_] fun c=>(some ((.tup [.agg [iN (4),iN (0),.str a0_,iN (0),iN (0)],.bool c]),[]))))))):=by
 exact (yD Tryz.func212 rfl _).trans (by kernel_rfl)
theorem QX :V 239 [] =
 some ((.os (1,0) [.str ({ data:=#[] }),.str ({ data:=#[43] }),.str ({ data:=#[45] }),.str ({ data:=#[42] }),.str ({ data:=#[60] }),.str ({ data:=#[61] }),.str ({ data:=#[99,111,110,115] }),.str ({ data:=#[99,97,114] }),.str ({ data:=#[99,100,114] }),.str ({ data:=#[110,117,108,108,63] }),.str ({ data:=#[112,97,105,114,63] }),.str ({ data:=#[101,113,63] }),.str ({ data:=#[110,111,116] }),.str ({ data:=#[112,114,105,110,116] }),.str ({ data:=#[115,101,108,102] }),.str ({ data:=#[115,101,110,100] }),.str ({ data:=#[114,101,99,118] }),.str ({ data:=#[115,112,97,119,110] }),.str ({ data:=#[99,97,108,108,99,99] }),.str ({ data:=#[103,111] })]),[]):=by
 exact (yD Tryz.func239 rfl _).trans (by kernel_rfl)
theorem Xf (p l d:List D) (h x:Int):V 253 [.op [.os (5,0) p,.os (4,0) l,.os (3,0) d,iN h],iN x] =
 br (h == 0)
 (
 grd (decide (0 <= x) && decide (x < ni l.length)) (cT l x.toNat fun a=>
 asAgg a fun b=>nam (List.set l x.toNat (D.agg (List.take 1 b++[iN (ni l.length)]++List.drop 2 b))) fun c=>
 some ((.tup []),[.op [.os (5,0) p,.os (4,0) c,.os (3,0) d,iN h]])))
 (some ((.tup []),[.op [.os (5,0) p,.os (4,0) l,.os (3,0) d,iN h]])):=by
 exact (yD Tryz.func253 rfl _).trans (by kernel_rfl)
theorem TC (a0_0:List D) (a0_1 a0_2 a0_3 a0_4 a0_5 a0_6 a0_7:Int):V 85 [.agg [.rs (5,0) a0_0,iN a0_1,iN a0_2,iN a0_3,iN a0_4,iN a0_5,iN a0_6,iN a0_7]] =
 ck8 147 [.agg [.rs (5,0) a0_0]] fun a=>((some ((.agg [.os (5,0) a,iN a0_1,iN a0_2,iN a0_3,iN a0_4,iN a0_5,iN a0_6,iN a0_7]),[]))):=by
 exact (yD Tryz.func85 rfl _).trans (by kernel_rfl)
theorem Vi (a0_0 a0_1 a0_2 a1_0:List D) (a1_1 a1_2 a1_3 a1_4 a1_5 a1_6 a1_7 a2_:Int):V 101 [.agg [.rs (5,0) a0_0,.rs (4,0) a0_1,.rs (3,0) a0_2],.agg [.os (5,0) a1_0,iN a1_1,iN a1_2,iN a1_3,iN a1_4,iN a1_5,iN a1_6,iN a1_7],iN a2_] =
 DP a2_ (0) a0_0 a0_1 a0_2 a1_1 a1_2 a1_3 a1_4 a1_5 a1_6 a1_7 (0) (0) (0) (0) (0) (0) (0) a1_0:=by
 exact (yD Tryz.func101 rfl _).trans (by kernel_rfl)
theorem OQ (p:List D) (a b:Int):V 94 [.op [.os (5,0) p],iN a,iN b] =
 ck9 157 [.op [.os (5,0) p],(.agg [iN (5),iN (0),.str ({ data:=#[] }),iN a,iN b])] fun c d=>((some ((iN c),[.op [.os (5,0) d]]))):=by
 exact (yD Tryz.func94 rfl _).trans (by kernel_rfl)
theorem W8 (a0_0 a1_:List D):V 66 [.agg [.rs (5,0) a0_0],.rs (1,0) a1_] =
 UF 137 [.op [.os (5,0) []],(.agg [.rs (5,0) a0_0]),.rs (1,0) a1_] fun a b=>((Fh a1_ (ni a1_.length) (0) a [] b)):=by
 exact (yD Tryz.func66 rfl _).trans (by kernel_rfl)
theorem UW (a0_0 a0_1 a0_2:List D) (a1_:ByteArray):V 125 [.agg [.rs (5,0) a0_0,.rs (4,0) a0_1,.rs (3,0) a0_2],.str a1_] =
 Ct 178 [.rs (3,0) a0_2,(.fn 179 [(.bp [.str a1_])])] fun a=>(some ((iN a),[])):=by
 exact (yD Tryz.func125 rfl _).trans (by kernel_rfl)
theorem SI (a0_0:List D) (a1_:Int):V 56 [.agg [.rs (5,0) a0_0],iN a1_] =
 ck6 58 [iN a1_,iN (0),(iN (w6 (ni a0_0.length - 1)))] fun a=>(some ((.bool a),[])):=by
 exact (yD Tryz.func56 rfl _).trans (by kernel_rfl)
theorem Db (a0_:List D):V 181 [.rs (5,0) a0_] =
 vO a0_
 (some ((.os (5,0) []),[]))
 (
 grd (decide (ni (List.length ([]++a0_)) <= LIM)) (nam ([]++a0_) fun a=>
 some ((.os (5,0) a),[]))):=by
 exact (yD Tryz.func181 rfl _).trans (by kernel_rfl)
theorem Pu (a0_0:List D):V 131 [.agg [.rs (5,0) a0_0]] =
 aaU 181 [.rs (5,0) a0_0] fun a=>(some ((.agg [.os (5,0) a]),[])):=by
 exact (yD Tryz.func131 rfl _).trans (by kernel_rfl)
theorem ZH (a:ByteArray) (b c:Int) (s:ByteArray):V 179 [.agg [.str a,iN b,iN c],.bp [.str s]] =
 some ((.bool (kc a s)),[]):=by
 exact (yD Tryz.func179 rfl _).trans (by kernel_rfl)
theorem Vf (a0_0:List D) (a1_ a2_:Int):V 216 [.agg [.rs (5,0) a0_0],iN a1_,iN a2_] =
 DN a1_ a2_ a0_0:=by
 exact (yD Tryz.func216 rfl _).trans (by kernel_rfl)
theorem QJ (a0_0:List D):V 247 [.agg [.rs (5,0) a0_0]] =
 yW a0_0 (ni a0_0.length) (0) [] []:=by
 exact (yD Tryz.func247 rfl _).trans (by kernel_rfl)
theorem SU (a0_0:List D):V 60 [.agg [.rs (5,0) a0_0]] =
 Dk (0) a0_0:=by
 exact (yD Tryz.func60 rfl _).trans (by kernel_rfl)

end Go.Eng
/-! the functions as the interpreter has them -/
namespace Go.Eng
open Go.Proofs Go.Proofs.Tryz
set_option maxRecDepth 100000
theorem De (p0:List D) (p1 p2:Int) (p3 p4 p5:List D):y9 p0 p1 p2 p3 p4 p5 =
 br (decide (p2 < p1))
 (
 grd (decide (0 <= p2) && decide (p2 < ni p0.length)) (cT p0 p2.toNat fun a=>
 tk2 a fun b c d e f=>(grd (decide (0 <= p2) && decide (p2 < ni p3.length)) (cT p3 p2.toNat fun _=>
 nam (List.set p3 p2.toNat (iN (-1))) fun g=>
 grd (decide (0 <= p2) && decide (p2 < ni p4.length)) (cT p4 p2.toNat fun h=>
 asB h fun i=>br (!i)
 (y9 p0 p1 (w6 (p2 + 1)) g p4 p5)
 (
 br (b == 5)
 (
 grd (decide (0 <= e) && decide (e < ni g.length)) (cT g e.toNat fun j=>
 asI .i64 j fun k=>grd (decide (0 <= f) && decide (f < ni g.length)) (cT g f.toNat fun l=>
 asI .i64 l fun m=>ck9 157 [.op [.os (5,0) p5],.agg [iN b,iN c,.str d,iN k,iN m]] fun n o=>((grd (decide (0 <= p2) && decide (p2 < ni g.length)) (cT g p2.toNat fun _=>
 nam (List.set g p2.toNat (iN n)) fun p=>
 y9 p0 p1 (w6 (p2 + 1)) p p4 o))))))
 (
 br (b == 6)
 (
 br (b == 6)
 (
 grd (decide (0 <= e) && decide (e < ni g.length)) (cT g e.toNat fun j=>
 asI .i64 j fun k=>ck9 157 [.op [.os (5,0) p5],.agg [iN b,iN c,.str d,iN k,iN f]] fun l m=>((grd (decide (0 <= p2) && decide (p2 < ni g.length)) (cT g p2.toNat fun _=>
 nam (List.set g p2.toNat (iN l)) fun n=>
 y9 p0 p1 (w6 (p2 + 1)) n p4 m)))))
 (ck9 157 [.op [.os (5,0) p5],.agg [iN b,iN c,.str d,iN e,iN f]] fun j k=>((grd (decide (0 <= p2) && decide (p2 < ni g.length)) (cT g p2.toNat fun _=>
 nam (List.set g p2.toNat (iN j)) fun l=>
 y9 p0 p1 (w6 (p2 + 1)) l p4 k)))))
 (
 br (b == 7)
 (
 grd (decide (0 <= e) && decide (e < ni g.length)) (cT g e.toNat fun j=>
 asI .i64 j fun k=>ck9 157 [.op [.os (5,0) p5],.agg [iN b,iN c,.str d,iN k,iN f]] fun l m=>((grd (decide (0 <= p2) && decide (p2 < ni g.length)) (cT g p2.toNat fun _=>
 nam (List.set g p2.toNat (iN l)) fun n=>
 y9 p0 p1 (w6 (p2 + 1)) n p4 m)))))
 (ck9 157 [.op [.os (5,0) p5],.agg [iN b,iN c,.str d,iN e,iN f]] fun j k=>((grd (decide (0 <= p2) && decide (p2 < ni g.length)) (cT g p2.toNat fun _=>
 nam (List.set g p2.toNat (iN j)) fun l=>
 y9 p0 p1 (w6 (p2 + 1)) l p4 k))))))))))))
 (some ((.os (1,0) p3),[.op [.os (5,0) p5]])):=by
 exact (yC _ _ _).trans (by kernel_rfl)
theorem GG (p0:List D) (p1:Int) (p2 p3 p4:List D):zI p0 p1 p2 p3 p4 =
 br (decide (p1 < ni p2.length))
 (
 grd (decide (0 <= p1) && decide (p1 < ni p0.length)) (cT p0 p1.toNat fun a=>
 asB a fun b=>br (!b)
 (zI p0 (w6 (p1 + 1)) p2 p3 p4)
 (
 grd (decide (0 <= p1) && decide (p1 < ni p2.length)) (cT p2 p1.toNat fun c=>
 tk2 c fun d e f g h=>(br (d == 5)
 (
 grd (decide (0 <= g) && decide (g < ni p3.length)) (cT p3 g.toNat fun i=>
 asI .i64 i fun j=>grd (decide (0 <= h) && decide (h < ni p3.length)) (cT p3 h.toNat fun k=>
 asI .i64 k fun l=>ck9 158 [.op [.os (5,0) p4],.agg [iN d,iN e,.str f,iN j,iN l]] fun m n=>((grd (decide (0 <= p1) && decide (p1 < ni p3.length)) (cT p3 p1.toNat fun _=>
 nam (List.set p3 p1.toNat (iN m)) fun o=>
 zI p0 (w6 (p1 + 1)) p2 o n))))))
 (
 br (d == 6)
 (
 br (d == 6)
 (
 grd (decide (0 <= g) && decide (g < ni p3.length)) (cT p3 g.toNat fun i=>
 asI .i64 i fun j=>ck9 158 [.op [.os (5,0) p4],.agg [iN d,iN e,.str f,iN j,iN h]] fun k l=>((grd (decide (0 <= p1) && decide (p1 < ni p3.length)) (cT p3 p1.toNat fun _=>
 nam (List.set p3 p1.toNat (iN k)) fun m=>
 zI p0 (w6 (p1 + 1)) p2 m l)))))
 (ck9 158 [.op [.os (5,0) p4],.agg [iN d,iN e,.str f,iN g,iN h]] fun i j=>((grd (decide (0 <= p1) && decide (p1 < ni p3.length)) (cT p3 p1.toNat fun _=>
 nam (List.set p3 p1.toNat (iN i)) fun k=>
 zI p0 (w6 (p1 + 1)) p2 k j)))))
 (
 br (d == 7)
 (
 grd (decide (0 <= g) && decide (g < ni p3.length)) (cT p3 g.toNat fun i=>
 asI .i64 i fun j=>ck9 158 [.op [.os (5,0) p4],.agg [iN d,iN e,.str f,iN j,iN h]] fun k l=>((grd (decide (0 <= p1) && decide (p1 < ni p3.length)) (cT p3 p1.toNat fun _=>
 nam (List.set p3 p1.toNat (iN k)) fun m=>
 zI p0 (w6 (p1 + 1)) p2 m l)))))
 (ck9 158 [.op [.os (5,0) p4],.agg [iN d,iN e,.str f,iN g,iN h]] fun i j=>((grd (decide (0 <= p1) && decide (p1 < ni p3.length)) (cT p3 p1.toNat fun _=>
 nam (List.set p3 p1.toNat (iN i)) fun k=>
 zI p0 (w6 (p1 + 1)) p2 k j)))))))))))
 (some ((.os (1,0) p3),[.op [.os (5,0) p4]])):=by
 exact (yC _ _ _).trans (by kernel_rfl)
theorem Tw (p:List D) (m1 m2 m3 m4 m5 m6 m7:Int) :V 220 [.op [.os (5,0) p,iN m1,iN m2,iN m3,iN m4,iN m5,iN m6,iN m7]] =
 UE 218 [.op [.os (5,0) p,iN m1,iN m2,iN m3,iN m4,iN m5,iN m6,iN m7]] fun a b c d e f g h i j=>(((br (!b)
 (some ((iN (7)),[.op [.os (5,0) c,iN d,iN e,iN f,iN g,iN h,iN i,iN j]]))
 (
 grd (decide (0 <= g) && decide (g < ni c.length)) (cT c g.toNat fun k=>
 tk2 k fun l _ _ m n=>(br (l == 1)
 (some ((iN (0)),[.op [.os (5,0) c,iN (0),iN e,iN f,iN g,iN (2),iN i,iN a]]))
 (
 br (l != 5)
 (some ((iN (7)),[.op [.os (5,0) c,iN d,iN e,iN f,iN g,iN h,iN i,iN j]]))
 (Zu 234 [.agg [.rs (5,0) c],iN m,iN (3)] fun o q r=>((br (!r)
 (some ((iN (7)),[.op [.os (5,0) c,iN d,iN e,iN f,iN g,iN h,iN i,iN j]]))
 (
 grd (decide (0 <= 0) && decide (0 < ni q.length)) (cT q 0 fun s=>
 asI .i64 s fun t=>grd (decide (0 <= 1) && decide (1 < ni q.length)) (cT q 1 fun u=>
 asI .i64 u fun v=>OI 95 [.op [.os (5,0) c,iN o,iN t,iN v,iN n,iN h,iN i,iN j],iN a] fun w x y z A B C E=>(((some ((iN (0)),[.op [.os (5,0) w,iN x,iN y,iN z,iN A,iN B,iN C,iN E]]))))))))))))))))):=by
 exact (yD Tryz.func220 rfl _).trans (by kernel_rfl)
theorem Iu (p0 p1:Int) (p2:List D) (p3 p4:Int) (p5 p6 p7:List D) (p8 p9 p10 p11 p12 p13 p14 p15 p16 p17 p18 p19 p20 p21:Int) (p22:List D):Cr p0 p1 p2 p3 p4 p5 p6 p7 p8 p9 p10 p11 p12 p13 p14 p15 p16 p17 p18 p19 p20 p21 p22 =
 br (decide (p1 < p0))
 (
 br (p12 == 1)
 (UH 201 [.op [.rs (1,0) p2,iN p3,iN p4]] fun a b c d e f g h=>(((ck5 32 [.agg [.rs (5,0) p5,.rs (4,0) p6,.rs (3,0) p7],(.agg [.rs (5,0) p22,iN p8,iN p9,iN p10,iN p11,iN p12,iN p13,iN p14]),(.agg [.rs (5,0) [.agg [(iN a),iN b,.str c,iN d,iN e]]]),iN (0)] fun i j k l m n o p=>((Cr p0 (w6 (p1 + 1)) f g h p5 p6 p7 j k l m n o p p15 p16 p17 p18 p19 p20 p21 i))))))
 (ck5 89 [.agg [.rs (5,0) p5,.rs (4,0) p6,.rs (3,0) p7],(.agg [.rs (5,0) p22,iN p8,iN p9,iN p10,iN p11,iN p12,iN p13,iN p14])] fun a b c d e f g h=>((Cr p0 (w6 (p1 + 1)) p2 p3 p4 p5 p6 p7 b c d e f g h p15 p16 p17 p18 p19 p20 p21 a))))
 (some ((.agg [.os (5,0) p22,iN p8,iN p9,iN p10,iN p11,iN p12,iN p13,iN p14]),[.op [.rs (1,0) p2,iN p3,iN p4]])):=by
 exact (yC _ _ _).trans (by kernel_rfl)
theorem WZ (a0_0 a0_1 a0_2 a1_0:List D) (a1_1 a1_2 a1_3 a1_4 a1_5 a1_6 a1_7:Int):V 17 [.agg [.rs (5,0) a0_0,.rs (4,0) a0_1,.rs (3,0) a0_2],.agg [.rs (5,0) a1_0,iN a1_1,iN a1_2,iN a1_3,iN a1_4,iN a1_5,iN a1_6,iN a1_7]] =
 ck6 14 [.agg [.rs (5,0) a0_0,.rs (4,0) a0_1,.rs (3,0) a0_2],(.agg [.rs (5,0) a1_0,iN a1_1,iN a1_2,iN a1_3,iN a1_4,iN a1_5,iN a1_6,iN a1_7])] fun a=>(br (!a)
 (some ((.agg [.os (5,0) [],iN (0),iN (0),iN (0),iN (0),iN (3),iN (7),iN (0)]),[]))
 (
 br (a1_5 != 0)
 (ck5 63 [.agg [.rs (5,0) a1_0,iN a1_1,iN a1_2,iN a1_3,iN a1_4,iN a1_5,iN a1_6,iN a1_7]] fun b c d e f g h i=>((some ((.agg [.os (5,0) b,iN c,iN d,iN e,iN f,iN g,iN h,iN i]),[]))))
 (ck5 64 [.agg [.rs (5,0) a0_0,.rs (4,0) a0_1,.rs (3,0) a0_2],(.agg [.rs (5,0) a1_0,iN a1_1,iN a1_2,iN a1_3,iN a1_4,iN a1_5,iN a1_6,iN a1_7])] fun b c d e f g h i=>((some ((.agg [.os (5,0) b,iN c,iN d,iN e,iN f,iN g,iN h,iN i]),[])))))):=by
 exact (yD Tryz.func17 rfl _).trans (by kernel_rfl)
theorem FI (p0:Int) (p1 p2:List D):zD p0 p1 p2 =
 br (decide (p0 >= 0))
 (
 grd (decide (0 <= p0) && decide (p0 < ni p1.length)) (cT p1 p0.toNat fun a=>
 tk2 a fun b _ _ c d=>(grd (decide (0 <= p0) && decide (p0 < ni p2.length)) (cT p2 p0.toNat fun e=>
 asB e fun f=>br (!f)
 (zD (w6 (p0 - 1)) p1 p2)
 (
 br (b == 5)
 (
 grd (decide (0 <= c) && decide (c < ni p2.length)) (cT p2 c.toNat fun _=>
 nam (List.set p2 c.toNat (D.bool true)) fun g=>
 grd (decide (0 <= d) && decide (d < ni g.length)) (cT g d.toNat fun _=>
 nam (List.set g d.toNat (D.bool true)) fun h=>
 zD (w6 (p0 - 1)) p1 h)))
 (
 br (b == 6)
 (
 br (b == 6)
 (
 grd (decide (0 <= c) && decide (c < ni p2.length)) (cT p2 c.toNat fun _=>
 nam (List.set p2 c.toNat (D.bool true)) fun g=>
 zD (w6 (p0 - 1)) p1 g))
 (zD (w6 (p0 - 1)) p1 p2))
 (
 br (b == 7)
 (
 grd (decide (0 <= c) && decide (c < ni p2.length)) (cT p2 c.toNat fun _=>
 nam (List.set p2 c.toNat (D.bool true)) fun g=>
 zD (w6 (p0 - 1)) p1 g))
 (zD (w6 (p0 - 1)) p1 p2))))))))
 (some ((.os (1,0) p2),[])):=by
 exact (yC _ _ _).trans (by kernel_rfl)
theorem Nv (a0_:List D):V 13 [.rs (1,0) a0_] =
 aaT 51 [.rs (1,0) a0_] fun a b c=>((aal 52 [.op [.rs (1,0) a,iN b,iN c]] fun d e f g h i j k l m n o p q=>(((((ck7 53 [.op [.rs (1,0) o,iN p,iN q]] fun r _ _ _=>((some ((.tup [.agg [.rs (5,0) d,.rs (4,0) e,.rs (3,0) f],(.agg [.rs (5,0) g,iN h,iN i,iN j,iN k,iN l,iN m,iN n]),iN r]),[])))))))))):=by
 exact (yD Tryz.func13 rfl _).trans (by kernel_rfl)
theorem FF (p0:List D) (p1 p2:Int) (p3 p4 p5 p6:List D):zr p0 p1 p2 p3 p4 p5 p6 =
 br (decide (p1 < ni p3.length))
 (
 grd (decide (0 <= p1) && decide (p1 < ni p3.length)) (cT p3 p1.toNat fun a=>
 asI .i64 a fun b=>ck2 244 [.op [.os (5,0) p4,.os (4,0) p5,.os (3,0) p6,iN p2],iN b,.rs (1,1) p0] fun c d e f=>(((zr p0 (w6 (p1 + 1)) f p3 c d e)))))
 (ck1 237 [.op [.os (5,0) p4,.os (4,0) p5,.os (3,0) p6,iN p2],(.agg [iN (7),iN (0),(iN (w6 (ni p3.length - 1))),.str ({ data:=#[] })])] fun _ a b c d=>((some ((.tup []),[.op [.os (5,0) a,.os (4,0) b,.os (3,0) c,iN d]])))):=by
 exact (yC _ _ _).trans (by kernel_rfl)
theorem FA (p0:List D) (p1 p2:Int) (p3 p4 p5:List D):CJ p0 p1 p2 p3 p4 p5 =
 br (decide (p2 < p1))
 (
 grd (decide (0 <= p2) && decide (p2 < ni p0.length)) (cT p0 p2.toNat fun a=>
 tk3 a fun b c d=>(ck6 124 [.str b] fun e=>(br (!e)
 (some ((.bool false),[]))
 (Ct 125 [.agg [.rs (5,0) p3,.rs (4,0) p4,.rs (3,0) p5],.str b] fun f=>(br (f != p2)
 (some ((.bool false),[]))
 (ck6 58 [iN c,iN (0),(iN (w6 (ni p4.length - 1)))] fun g=>(br (!g)
 (some ((.bool false),[]))
 (ck6 58 [iN d,iN (0),iN (4)] fun h=>(br (!h)
 (some ((.bool false),[]))
 (CJ p0 p1 (w6 (p2 + 1)) p3 p4 p5)))))))))))
 (some ((.bool true),[])):=by
 exact (yC _ _ _).trans (by kernel_rfl)
theorem Jb (p0 p1:Int) (p2:List D) (p3 p4:Int):EW p0 p1 p2 p3 p4 =
 br (decide (p1 < p0))
 (UH 197 [.op [.rs (1,0) p2,iN p3,iN p4],iN p1] fun a b c d e f g h=>(((ck9 158 [.op [.os (5,0) []],.agg [iN a,iN b,.str c,iN d,iN e]] fun _ i=>((Ah p0 (w6 (p1 + 1)) f g h i))))))
 (some ((.agg [.os (5,0) []]),[.op [.rs (1,0) p2,iN p3,iN p4]])):=by
 exact (yC _ _ _).trans (by kernel_rfl)
theorem NB (a0_:Int):V 180 [.int .u8 a0_] =
 br (decide (a0_ >= 97))
 (
 br (decide (a0_ <= 122))
 (some ((.bool true),[]))
 (
 br (a0_ == 43)
 (some ((.bool true),[]))
 (
 br (a0_ == 45)
 (some ((.bool true),[]))
 (
 br (a0_ == 42)
 (some ((.bool true),[]))
 (
 br (a0_ == 60)
 (some ((.bool true),[]))
 (
 br (a0_ == 61)
 (some ((.bool true),[]))
 (
 br (a0_ == 63)
 (some ((.bool true),[]))
 (
 br (a0_ == 33)
 (some ((.bool true),[]))
 (some ((.bool (a0_ == 47)),[]))))))))))
 (
 br (a0_ == 43)
 (some ((.bool true),[]))
 (
 br (a0_ == 45)
 (some ((.bool true),[]))
 (
 br (a0_ == 42)
 (some ((.bool true),[]))
 (
 br (a0_ == 60)
 (some ((.bool true),[]))
 (
 br (a0_ == 61)
 (some ((.bool true),[]))
 (
 br (a0_ == 63)
 (some ((.bool true),[]))
 (
 br (a0_ == 33)
 (some ((.bool true),[]))
 (some ((.bool (a0_ == 47)),[]))))))))):=by
 exact (yD Tryz.func180 rfl _).trans (by kernel_rfl)
theorem GA (p0:Int) (p1:List D):Dk p0 p1 =
 br (decide (p0 < ni p1.length))
 (
 grd (decide (0 <= p0) && decide (p0 < ni p1.length)) (cT p1 p0.toNat fun a=>
 tk2 a fun b c d e f=>(ck6 130 [.agg [iN b,iN c,.str d,iN e,iN f],iN p0] fun g=>(br (!g)
 (some ((.bool false),[]))
 (Dk (w6 (p0 + 1)) p1)))))
 (some ((.bool (decide (ni p1.length <= 3000))),[])):=by
 exact (yC _ _ _).trans (by kernel_rfl)
theorem Ik (p0:List D) (p1 p2:Int):DK p0 p1 p2 =
 br (decide (p2 < ni p0.length))
 (
 br (decide (p2 < 4000))
 (
 grd (decide (0 <= p2) && decide (p2 < ni p0.length)) (cT p0 p2.toNat fun a=>
 asI .u8 a fun b=>DK p0 (w6 (ni (BitVec.toNat (BitVec.ofInt (IntKind.bits IntKind.i64) (w6 (w6 (w6 (p1 * 131) + w6 b) + 7)) &&& BitVec.ofInt (IntKind.bits IntKind.i64) (1073741823))))) (w6 (p2 + 1))))
 (some ((.op [.rs (1,0) p0,iN (0),iN p1]),[])))
 (some ((.op [.rs (1,0) p0,iN (0),iN p1]),[])):=by
 exact (yC _ _ _).trans (by kernel_rfl)
theorem Jy (p0:List D) (p1 p2:Int) (p3 p4 p5:List D):Fh p0 p1 p2 p3 p4 p5 =
 br (decide (p2 < p1))
 (
 grd (decide (0 <= p2) && decide (p2 < ni p0.length)) (cT p0 p2.toNat fun a=>
 asI .i64 a fun b=>grd (decide (0 <= b) && decide (b < ni p3.length)) (cT p3 b.toNat fun c=>
 asI .i64 c fun d=>grd (decide (ni (List.length (p4++[iN d])) <= LIM)) (nam (p4++[iN d]) fun e=>
 Fh p0 p1 (w6 (p2 + 1)) p3 e p5))))
 (some ((.tup [.agg [.os (5,0) p5],.os (1,0) p4]),[])):=by
 exact (yC _ _ _).trans (by kernel_rfl)
theorem GC (p0:Int) (p1:List D) (p2 p3:Int) (p4:List D):Aa p0 p1 p2 p3 p4 =
 br (decide (p0 < ni p4.length))
 (
 grd (decide (0 <= p0) && decide (p0 < ni p4.length)) (cT p4 p0.toNat fun a=>
 asAgg a fun b=>nam (List.set p4 p0.toNat (D.agg (List.take 0 b++[iN (1)]++List.drop 1 b))) fun c=>
 Aa (w6 (p0 + 1)) p1 p2 p3 c))
 (some ((.agg [.os (5,0) p4]),[.op [.rs (1,0) p1,iN p2,iN p3]])):=by
 exact (yC _ _ _).trans (by kernel_rfl)
theorem OL (p l:List D):V 222 [.op [.os (5,0) p],.rs (1,0) l] =
 ck9 157 [.op [.os (5,0) p],(.agg [iN (1),iN (0),.str ({ data:=#[] }),iN (0),iN (0)])] fun a b=>((Bq l a (w6 (ni l.length - 1)) b)):=by
 exact (yD Tryz.func222 rfl _).trans (by kernel_rfl)
theorem EZ (p0:Int) (p1:ByteArray):BM p0 p1 =
 br (decide (p0 > 0))
 (grd (!decide (10 = 0)) (gy ([D.int IntKind.u8 (IntKind.wrap IntKind.u8 (w6 (48 + Int.tmod p0 (10))))]) fun a=>grd (decide (ni (ByteArray.size a + ByteArray.size p1) <= LIM)) (grd (!decide (10 = 0)) (BM (w6 (Int.tdiv p0 (10))) (a++p1)))))
 (some ((.str p1),[])):=by
 exact (yC _ _ _).trans (by kernel_rfl)
theorem Gu (p0:ByteArray) (p1 p2:Int):Bu p0 p1 p2 =
 br (decide (p2 < p1))
 (grd (decide (0 <= p2) && decide (p2 < ni (ByteArray.size p0))) (ck6 177 [.int .u8 (bt p0 p2)] fun a=>(br (!a)
 (some ((.bool false),[]))
 (Bu p0 p1 (w6 (p2 + 1))))))
 (some ((.bool true),[])):=by
 exact (yC _ _ _).trans (by kernel_rfl)
theorem Pt (a0_:Bool):V 241 [.bool a0_] =
 br a0_
 (some ((.agg [iN (2),iN (1),.str ({ data:=#[] }),iN (0),iN (0)]),[]))
 (some ((.agg [iN (2),iN (0),.str ({ data:=#[] }),iN (0),iN (0)]),[])):=by
 exact (yD Tryz.func241 rfl _).trans (by kernel_rfl)
theorem U3 (a0_ a1_:Int):V 116 [iN a0_,iN a1_] =
 br (decide (a0_ < a1_))
 (some ((iN a0_),[]))
 (some ((iN a1_),[])):=by
 exact (yD Tryz.func116 rfl _).trans (by kernel_rfl)
theorem Ly (l p:List D):V 188 [.rs (1,0) l,.fn 136 [.bp [.rs (5,0) p]]] =
 Aq l p (ni l.length) (0):=by
 exact (yD Tryz.func188 rfl _).trans (by kernel_rfl)
end Go.Eng
