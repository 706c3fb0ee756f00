/- the program and the reference on plain data, part 2 -/
import Derived.Test.YtkndfhaehnfnmaaGreatPart1
import Derived.Test.YtkndfhaehnfnmaaGreatEngC
/-! the functions as the interpreter has them -/
namespace Go.Eng
open Go.Proofs Go.Proofs.Tryz
set_option maxRecDepth 100000
theorem GB (p0 p1 p2:Int) (p3:Bool) (p4:List D):AQ p0 p1 p2 p3 p4 =
 br (decide (p1 < p0))
 (
 br p3
 (ck7 114 [(
 .op [.os (1,0) p4,iN p2,.bool p3])] fun a b c d=>((br (a == 2)
 (
 br (a == 2)
 (ck7 114 [.op [.os (1,0) b,iN c,.bool d]] fun e f g h=>((grd (decide (ni 1 <= LIM)) (yP p0 (w6 (p1 + 1)) g h f ([D.agg [iN a,iN e,D.str { data:=#[] },iN (0),iN (0)]])))))
 (
 br (a == 3)
 (ck7 114 [.op [.os (1,0) b,iN c,.bool d]] fun e f g h=>((grd (decide (ni 1 <= LIM)) (yP p0 (w6 (p1 + 1)) g h f ([D.agg [iN a,iN (w6 (e - 1000000000)),D.str { data:=#[] },iN (0),iN (0)]])))))
 (
 br (a == 4)
 (Tc 174 [.rs (1,0) b,iN c] fun e f g=>((br d
 (grd (decide (ni 1 <= LIM)) (yP p0 (w6 (p1 + 1)) f g b ([D.agg [iN a,iN (0),D.str e,iN (0),iN (0)]])))
 (grd (decide (ni 1 <= LIM)) (yP p0 (w6 (p1 + 1)) f false b ([D.agg [iN a,iN (0),D.str e,iN (0),iN (0)]]))))))
 (
 br (a == 5)
 (ck7 114 [.op [.os (1,0) b,iN c,.bool d]] fun e f g h=>((ck7 114 [.op [.os (1,0) f,iN g,.bool h]] fun i j k l=>((grd (decide (ni 1 <= LIM)) (yP p0 (w6 (p1 + 1)) k l j ([D.agg [iN a,iN (0),D.str { data:=#[] },iN e,iN i]])))))))
 (
 br (a == 6)
 (ck7 114 [.op [.os (1,0) b,iN c,.bool d]] fun e f g h=>((ck7 114 [.op [.os (1,0) f,iN g,.bool h]] fun i j k l=>((grd (decide (ni 1 <= LIM)) (yP p0 (w6 (p1 + 1)) k l j ([D.agg [iN a,iN e,D.str { data:=#[] },iN i,iN (0)]])))))))
 (
 br (a == 7)
 (ck7 114 [.op [.os (1,0) b,iN c,.bool d]] fun e f g h=>((grd (decide (ni 1 <= LIM)) (yP p0 (w6 (p1 + 1)) g h f ([D.agg [iN a,iN (0),D.str { data:=#[] },iN e,iN (0)]])))))
 (grd (decide (ni 1 <= LIM)) (yP p0 (w6 (p1 + 1)) c d b ([D.agg [iN a,iN (0),D.str { data:=#[] },iN (0),iN (0)]])))))))))
 (
 br (a == 8)
 (
 br (a == 8)
 (ck7 114 [.op [.os (1,0) b,iN c,.bool d]] fun e f g h=>((grd (decide (ni 1 <= LIM)) (yP p0 (w6 (p1 + 1)) g h f ([D.agg [iN a,iN e,D.str { data:=#[] },iN (0),iN (0)]])))))
 (
 br (a == 3)
 (ck7 114 [.op [.os (1,0) b,iN c,.bool d]] fun e f g h=>((grd (decide (ni 1 <= LIM)) (yP p0 (w6 (p1 + 1)) g h f ([D.agg [iN a,iN (w6 (e - 1000000000)),D.str { data:=#[] },iN (0),iN (0)]])))))
 (
 br (a == 4)
 (Tc 174 [.rs (1,0) b,iN c] fun e f g=>((br d
 (grd (decide (ni 1 <= LIM)) (yP p0 (w6 (p1 + 1)) f g b ([D.agg [iN a,iN (0),D.str e,iN (0),iN (0)]])))
 (grd (decide (ni 1 <= LIM)) (yP p0 (w6 (p1 + 1)) f false b ([D.agg [iN a,iN (0),D.str e,iN (0),iN (0)]]))))))
 (
 br (a == 5)
 (ck7 114 [.op [.os (1,0) b,iN c,.bool d]] fun e f g h=>((ck7 114 [.op [.os (1,0) f,iN g,.bool h]] fun i j k l=>((grd (decide (ni 1 <= LIM)) (yP p0 (w6 (p1 + 1)) k l j ([D.agg [iN a,iN (0),D.str { data:=#[] },iN e,iN i]])))))))
 (
 br (a == 6)
 (ck7 114 [.op [.os (1,0) b,iN c,.bool d]] fun e f g h=>((ck7 114 [.op [.os (1,0) f,iN g,.bool h]] fun i j k l=>((grd (decide (ni 1 <= LIM)) (yP p0 (w6 (p1 + 1)) k l j ([D.agg [iN a,iN e,D.str { data:=#[] },iN i,iN (0)]])))))))
 (
 br (a == 7)
 (ck7 114 [.op [.os (1,0) b,iN c,.bool d]] fun e f g h=>((grd (decide (ni 1 <= LIM)) (yP p0 (w6 (p1 + 1)) g h f ([D.agg [iN a,iN (0),D.str { data:=#[] },iN e,iN (0)]])))))
 (grd (decide (ni 1 <= LIM)) (yP p0 (w6 (p1 + 1)) c d b ([D.agg [iN a,iN (0),D.str { data:=#[] },iN (0),iN (0)]])))))))))
 (
 br (a == 9)
 (ck7 114 [.op [.os (1,0) b,iN c,.bool d]] fun e f g h=>((grd (decide (ni 1 <= LIM)) (yP p0 (w6 (p1 + 1)) g h f ([D.agg [iN a,iN e,D.str { data:=#[] },iN (0),iN (0)]])))))
 (
 br (a == 3)
 (ck7 114 [.op [.os (1,0) b,iN c,.bool d]] fun e f g h=>((grd (decide (ni 1 <= LIM)) (yP p0 (w6 (p1 + 1)) g h f ([D.agg [iN a,iN (w6 (e - 1000000000)),D.str { data:=#[] },iN (0),iN (0)]])))))
 (
 br (a == 4)
 (Tc 174 [.rs (1,0) b,iN c] fun e f g=>((br d
 (grd (decide (ni 1 <= LIM)) (yP p0 (w6 (p1 + 1)) f g b ([D.agg [iN a,iN (0),D.str e,iN (0),iN (0)]])))
 (grd (decide (ni 1 <= LIM)) (yP p0 (w6 (p1 + 1)) f false b ([D.agg [iN a,iN (0),D.str e,iN (0),iN (0)]]))))))
 (
 br (a == 5)
 (ck7 114 [.op [.os (1,0) b,iN c,.bool d]] fun e f g h=>((ck7 114 [.op [.os (1,0) f,iN g,.bool h]] fun i j k l=>((grd (decide (ni 1 <= LIM)) (yP p0 (w6 (p1 + 1)) k l j ([D.agg [iN a,iN (0),D.str { data:=#[] },iN e,iN i]])))))))
 (
 br (a == 6)
 (ck7 114 [.op [.os (1,0) b,iN c,.bool d]] fun e f g h=>((ck7 114 [.op [.os (1,0) f,iN g,.bool h]] fun i j k l=>((grd (decide (ni 1 <= LIM)) (yP p0 (w6 (p1 + 1)) k l j ([D.agg [iN a,iN e,D.str { data:=#[] },iN i,iN (0)]])))))))
 (
 br (a == 7)
 (ck7 114 [.op [.os (1,0) b,iN c,.bool d]] fun e f g h=>((grd (decide (ni 1 <= LIM)) (yP p0 (w6 (p1 + 1)) g h f ([D.agg [iN a,iN (0),D.str { data:=#[] },iN e,iN (0)]])))))
 (grd (decide (ni 1 <= LIM)) (yP p0 (w6 (p1 + 1)) c d b ([D.agg [iN a,iN (0),D.str { data:=#[] },iN (0),iN (0)]])))))))))))))
 (
 br p3
 (
 br (p2 == ni p4.length)
 (ck6 60 [.agg [.rs (5,0) []]] fun a=>(some ((.agg [.os (5,0) []]),[.op [.os (1,0) p4,iN p2,.bool a]])))
 (some ((.agg [.os (5,0) []]),[.op [.os (1,0) p4,iN p2,.bool false]])))
 (some ((.agg [.os (5,0) []]),[.op [.os (1,0) p4,iN p2,.bool false]]))))
 (
 br p3
 (
 br (p2 == ni p4.length)
 (ck6 60 [.agg [.rs (5,0) []]] fun a=>(some ((.agg [.os (5,0) []]),[.op [.os (1,0) p4,iN p2,.bool a]])))
 (some ((.agg [.os (5,0) []]),[.op [.os (1,0) p4,iN p2,.bool false]])))
 (some ((.agg [.os (5,0) []]),[.op [.os (1,0) p4,iN p2,.bool false]]))):=by
 exact (yC _ _ _).trans (by kernel_rfl)
theorem D4 (p0:List D) (p1 p2:Int) (p3:List D):yU p0 p1 p2 p3 =
 br (decide (p2 < p1))
 (
 grd (decide (0 <= p2) && decide (p2 < ni p0.length)) (cT p0 p2.toNat fun a=>
 tk1 a fun b c d e f=>(zA 67 [iN b] fun g=>(grd (decide (ni (List.length (p3++g)) <= LIM)) (nam (p3++g) fun h=>
 br (b == 2)
 (
 br (b == 2)
 (zA 67 [iN c] fun i=>(grd (decide (ni (List.length (h++i)) <= LIM)) (nam (h++i) fun j=>
 yU p0 p1 (w6 (p2 + 1)) j)))
 (
 br (b == 3)
 (zA 67 [(iN (w6 (c + 1000000000)))] fun i=>(grd (decide (ni (List.length (h++i)) <= LIM)) (nam (h++i) fun j=>
 yU p0 p1 (w6 (p2 + 1)) j)))
 (
 br (b == 4)
 (zA 138 [.str d] fun i=>(grd (decide (ni (List.length (h++i)) <= LIM)) (nam (h++i) fun j=>
 yU p0 p1 (w6 (p2 + 1)) j)))
 (
 br (b == 5)
 (zA 67 [iN e] fun i=>(grd (decide (ni (List.length (h++i)) <= LIM)) (nam (h++i) fun j=>
 zA 67 [iN f] fun k=>(grd (decide (ni (List.length (j++k)) <= LIM)) (nam (j++k) fun l=>
 yU p0 p1 (w6 (p2 + 1)) l)))))
 (
 br (b == 6)
 (zA 67 [iN c] fun i=>(grd (decide (ni (List.length (h++i)) <= LIM)) (nam (h++i) fun j=>
 zA 67 [iN e] fun k=>(grd (decide (ni (List.length (j++k)) <= LIM)) (nam (j++k) fun l=>
 yU p0 p1 (w6 (p2 + 1)) l)))))
 (
 br (b == 7)
 (zA 67 [iN e] fun i=>(grd (decide (ni (List.length (h++i)) <= LIM)) (nam (h++i) fun j=>
 yU p0 p1 (w6 (p2 + 1)) j)))
 (yU p0 p1 (w6 (p2 + 1)) h)))))))
 (
 br (b == 8)
 (
 br (b == 8)
 (zA 67 [iN c] fun i=>(grd (decide (ni (List.length (h++i)) <= LIM)) (nam (h++i) fun j=>
 yU p0 p1 (w6 (p2 + 1)) j)))
 (
 br (b == 3)
 (zA 67 [(iN (w6 (c + 1000000000)))] fun i=>(grd (decide (ni (List.length (h++i)) <= LIM)) (nam (h++i) fun j=>
 yU p0 p1 (w6 (p2 + 1)) j)))
 (
 br (b == 4)
 (zA 138 [.str d] fun i=>(grd (decide (ni (List.length (h++i)) <= LIM)) (nam (h++i) fun j=>
 yU p0 p1 (w6 (p2 + 1)) j)))
 (
 br (b == 5)
 (zA 67 [iN e] fun i=>(grd (decide (ni (List.length (h++i)) <= LIM)) (nam (h++i) fun j=>
 zA 67 [iN f] fun k=>(grd (decide (ni (List.length (j++k)) <= LIM)) (nam (j++k) fun l=>
 yU p0 p1 (w6 (p2 + 1)) l)))))
 (
 br (b == 6)
 (zA 67 [iN c] fun i=>(grd (decide (ni (List.length (h++i)) <= LIM)) (nam (h++i) fun j=>
 zA 67 [iN e] fun k=>(grd (decide (ni (List.length (j++k)) <= LIM)) (nam (j++k) fun l=>
 yU p0 p1 (w6 (p2 + 1)) l)))))
 (
 br (b == 7)
 (zA 67 [iN e] fun i=>(grd (decide (ni (List.length (h++i)) <= LIM)) (nam (h++i) fun j=>
 yU p0 p1 (w6 (p2 + 1)) j)))
 (yU p0 p1 (w6 (p2 + 1)) h)))))))
 (
 br (b == 9)
 (zA 67 [iN c] fun i=>(grd (decide (ni (List.length (h++i)) <= LIM)) (nam (h++i) fun j=>
 yU p0 p1 (w6 (p2 + 1)) j)))
 (
 br (b == 3)
 (zA 67 [(iN (w6 (c + 1000000000)))] fun i=>(grd (decide (ni (List.length (h++i)) <= LIM)) (nam (h++i) fun j=>
 yU p0 p1 (w6 (p2 + 1)) j)))
 (
 br (b == 4)
 (zA 138 [.str d] fun i=>(grd (decide (ni (List.length (h++i)) <= LIM)) (nam (h++i) fun j=>
 yU p0 p1 (w6 (p2 + 1)) j)))
 (
 br (b == 5)
 (zA 67 [iN e] fun i=>(grd (decide (ni (List.length (h++i)) <= LIM)) (nam (h++i) fun j=>
 zA 67 [iN f] fun k=>(grd (decide (ni (List.length (j++k)) <= LIM)) (nam (j++k) fun l=>
 yU p0 p1 (w6 (p2 + 1)) l)))))
 (
 br (b == 6)
 (zA 67 [iN c] fun i=>(grd (decide (ni (List.length (h++i)) <= LIM)) (nam (h++i) fun j=>
 zA 67 [iN e] fun k=>(grd (decide (ni (List.length (j++k)) <= LIM)) (nam (j++k) fun l=>
 yU p0 p1 (w6 (p2 + 1)) l)))))
 (
 br (b == 7)
 (zA 67 [iN e] fun i=>(grd (decide (ni (List.length (h++i)) <= LIM)) (nam (h++i) fun j=>
 yU p0 p1 (w6 (p2 + 1)) j)))
 (yU p0 p1 (w6 (p2 + 1)) h)))))))))))))
 (some ((.os (1,0) p3),[])):=by
 exact (yC _ _ _).trans (by kernel_rfl)
theorem VL (p l d:List D) (h x:Int):V 215 [.op [.os (5,0) p,.os (4,0) l,.os (3,0) d,iN h],iN x] =
 grd (decide (0 <= x) && decide (x < ni p.length)) (cT p x.toNat fun a=>
 asAgg a fun b=>cT b 0 fun c=>
 asI .i64 c fun e=>br (e == 5)
 (ck3 228 [.agg [.rs (5,0) p],iN x] fun f g=>((br (!g)
 (ck2 229 [.op [.os (5,0) p,.os (4,0) l,.os (3,0) d,iN h],.str ({ data:=#[109,97,105,110] }),.rs (1,0) [],.rs (1,0) [iN x]] fun i j k m=>(((some ((.tup []),[.op [.os (5,0) i,.os (4,0) j,.os (3,0) k,iN m]])))))
 (
 grd (decide (0 <= 0) && decide (0 < ni f.length)) (cT f 0 fun i=>
 asI .i64 i fun j=>grd (decide (0 <= j) && decide (j < ni p.length)) (cT p j.toNat fun k=>
 asAgg k fun m=>cT m 0 fun n=>
 asI .i64 n fun o=>br (o != 4)
 (ck2 229 [.op [.os (5,0) p,.os (4,0) l,.os (3,0) d,iN h],.str ({ data:=#[109,97,105,110] }),.rs (1,0) [],.rs (1,0) [iN x]] fun q r s t=>(((some ((.tup []),[.op [.os (5,0) q,.os (4,0) r,.os (3,0) s,iN t]])))))
 (
 grd (decide (0 <= 0) && decide (0 < ni f.length)) (cT f 0 fun q=>
 asI .i64 q fun r=>grd (decide (0 <= r) && decide (r < ni p.length)) (cT p r.toNat fun s=>
 asAgg s fun t=>cT t 2 fun u=>
 asS u fun v=>br (!kc v { data:=#[100,101,102,105,110,101] })
 (ck2 229 [.op [.os (5,0) p,.os (4,0) l,.os (3,0) d,iN h],.str ({ data:=#[109,97,105,110] }),.rs (1,0) [],.rs (1,0) [iN x]] fun w y z A=>(((some ((.tup []),[.op [.os (5,0) w,.os (4,0) y,.os (3,0) z,iN A]])))))
 (
 br (decide (ni f.length < 3))
 (some ((.tup []),[.op [.os (5,0) p,.os (4,0) l,.os (3,0) d,iN (1)]]))
 (
 grd (decide (0 <= 1) && decide (1 < ni f.length)) (cT f 1 fun w=>
 asI .i64 w fun y=>grd (decide (0 <= y) && decide (y < ni p.length)) (cT p y.toNat fun z=>
 asAgg z fun A=>cT A 0 fun B=>
 asI .i64 B fun C=>br (C != 5)
 (some ((.tup []),[.op [.os (5,0) p,.os (4,0) l,.os (3,0) d,iN (1)]]))
 (
 grd (decide (0 <= 1) && decide (1 < ni f.length)) (cT f 1 fun E=>
 asI .i64 E fun F=>ck3 228 [.agg [.rs (5,0) p],iN F] fun G H=>((br (!H)
 (some ((.tup []),[.op [.os (5,0) p,.os (4,0) l,.os (3,0) d,iN (1)]]))
 (
 grd (decide (0 <= 0) && decide (0 < ni G.length)) (cT G 0 fun I=>
 asI .i64 I fun J=>aad 230 [.op [.os (5,0) p,.os (4,0) l,.os (3,0) d,iN h],iN J] fun K L M N O P=>(((br (!L)
 (some ((.tup []),[.op [.os (5,0) M,.os (4,0) N,.os (3,0) O,iN (1)]]))
 (grd (cW G.length (some (1)) none) (ck4 231 [.op [.os (5,0) M,.os (4,0) N,.os (3,0) O,iN P],(.rs (1,0) (part G (some (Int.toNat (1),List.length G - Int.toNat (1)))))] fun Q R S T U=>((grd (cW f.length (some (2)) none) (ck2 229 [.op [.os (5,0) R,.os (4,0) S,.os (3,0) T,iN U],.str K,.rs (1,0) Q,(.rs (1,0) (part f (some (Int.toNat (2),List.length f - Int.toNat (2)))))] fun W X Y Z=>(((some ((.tup []),[.op [.os (5,0) W,.os (4,0) X,.os (3,0) Y,iN Z]])))))))))))))))))))))))))))))))
 (ck2 229 [.op [.os (5,0) p,.os (4,0) l,.os (3,0) d,iN h],.str ({ data:=#[109,97,105,110] }),.rs (1,0) [],.rs (1,0) [iN x]] fun f g i j=>(((some ((.tup []),[.op [.os (5,0) f,.os (4,0) g,.os (3,0) i,iN j]])))))):=by
 exact (yD Tryz.func215 rfl _).trans (by kernel_rfl)
theorem XF (a0_0:List D) (a0_1 a0_2 a0_3 a0_4 a0_5 a0_6 a0_7:Int):V 28 [.agg [.rs (5,0) a0_0,iN a0_1,iN a0_2,iN a0_3,iN a0_4,iN a0_5,iN a0_6,iN a0_7]] =
 br (a0_5 == 1)
 (grd (decide (ni 4 <= LIM)) (ck6 84 [.agg [.rs (5,0) a0_0],.rs (1,0) [iN a0_2,iN a0_3,iN a0_4,iN a0_7]] fun a=>(br (!a)
 (ck5 85 [.agg [.rs (5,0) a0_0,iN a0_1,iN a0_2,iN a0_3,iN a0_4,iN a0_5,iN a0_6,iN a0_7]] fun b c d e f g h i=>((some ((.agg [.os (5,0) b,iN c,iN d,iN e,iN f,iN g,iN h,iN i]),[]))))
 (Vh 86 [.agg [.rs (5,0) a0_0],.rs (1,0) [iN a0_2,iN a0_3,iN a0_4,iN a0_7]] fun b c=>(((grd (decide (0 <= 0) && decide (0 < ni c.length)) (cT c 0 fun d=>
 asI .i64 d fun e=>grd (decide (0 <= 1) && decide (1 < ni c.length)) (cT c 1 fun f=>
 asI .i64 f fun g=>grd (decide (0 <= 2) && decide (2 < ni c.length)) (cT c 2 fun h=>
 asI .i64 h fun i=>grd (decide (0 <= 3) && decide (3 < ni c.length)) (cT c 3 fun j=>
 asI .i64 j fun k=>some ((.agg [.os (5,0) b,iN a0_1,iN e,iN g,iN i,iN a0_5,iN a0_6,iN k]),[]))))))))))))
 (
 br (a0_5 == 2)
 (grd (decide (ni 4 <= LIM)) (ck6 84 [.agg [.rs (5,0) a0_0],.rs (1,0) [iN a0_2,iN a0_3,iN a0_4,iN a0_7]] fun a=>(br (!a)
 (ck5 85 [.agg [.rs (5,0) a0_0,iN a0_1,iN a0_2,iN a0_3,iN a0_4,iN a0_5,iN a0_6,iN a0_7]] fun b c d e f g h i=>((some ((.agg [.os (5,0) b,iN c,iN d,iN e,iN f,iN g,iN h,iN i]),[]))))
 (Vh 86 [.agg [.rs (5,0) a0_0],.rs (1,0) [iN a0_2,iN a0_3,iN a0_4,iN a0_7]] fun b c=>(((grd (decide (0 <= 0) && decide (0 < ni c.length)) (cT c 0 fun d=>
 asI .i64 d fun e=>grd (decide (0 <= 1) && decide (1 < ni c.length)) (cT c 1 fun f=>
 asI .i64 f fun g=>grd (decide (0 <= 2) && decide (2 < ni c.length)) (cT c 2 fun h=>
 asI .i64 h fun i=>br (a0_5 == 2)
 (
 grd (decide (0 <= 3) && decide (3 < ni c.length)) (cT c 3 fun j=>
 asI .i64 j fun k=>some ((.agg [.os (5,0) b,iN a0_1,iN e,iN g,iN i,iN a0_5,iN a0_6,iN k]),[])))
 (some ((.agg [.os (5,0) b,iN a0_1,iN e,iN g,iN i,iN a0_5,iN a0_6,iN a0_7]),[]))))))))))))
 (ck6 84 [.agg [.rs (5,0) a0_0],.rs (1,0) [iN a0_2,iN a0_3,iN a0_4]] fun a=>(br (!a)
 (ck5 85 [.agg [.rs (5,0) a0_0,iN a0_1,iN a0_2,iN a0_3,iN a0_4,iN a0_5,iN a0_6,iN a0_7]] fun b c d e f g h i=>((some ((.agg [.os (5,0) b,iN c,iN d,iN e,iN f,iN g,iN h,iN i]),[]))))
 (Vh 86 [.agg [.rs (5,0) a0_0],.rs (1,0) [iN a0_2,iN a0_3,iN a0_4]] fun b c=>(((grd (decide (0 <= 0) && decide (0 < ni c.length)) (cT c 0 fun d=>
 asI .i64 d fun e=>grd (decide (0 <= 1) && decide (1 < ni c.length)) (cT c 1 fun f=>
 asI .i64 f fun g=>grd (decide (0 <= 2) && decide (2 < ni c.length)) (cT c 2 fun h=>
 asI .i64 h fun i=>br (a0_5 == 2)
 (
 grd (decide (0 <= 3) && decide (3 < ni c.length)) (cT c 3 fun j=>
 asI .i64 j fun k=>some ((.agg [.os (5,0) b,iN a0_1,iN e,iN g,iN i,iN a0_5,iN a0_6,iN k]),[])))
 (some ((.agg [.os (5,0) b,iN a0_1,iN e,iN g,iN i,iN a0_5,iN a0_6,iN a0_7]),[])))))))))))):=by
 exact (yD Tryz.func28 rfl _).trans (by kernel_rfl)
theorem NH (a0_0:List D) (a0_1 a0_2:Int):V 201 [.op [.rs (1,0) a0_0,iN a0_1,iN a0_2]] =
 ck8 76 [.op [.rs (1,0) a0_0,iN a0_1,iN a0_2],iN (8)] fun a b c d=>((br (a == 0)
 (some ((.agg [iN (1),iN (0),.str ({ data:=#[] }),iN (0),iN (0)]),[.op [.rs (1,0) b,iN c,iN d]]))
 (
 br (a == 1)
 (ck8 76 [.op [.rs (1,0) b,iN c,iN d],iN (2)] fun e f g h=>((some ((.agg [iN (2),iN e,.str ({ data:=#[] }),iN (0),iN (0)]),[.op [.rs (1,0) f,iN g,iN h]]))))
 (
 br (a == 2)
 (KI 75 [.op [.rs (1,0) b,iN c,iN d],(.rs (1,0) [.str ({ data:=#[97] }),.str ({ data:=#[98,99] }),.str ({ data:=#[120] }),.str ({ data:=#[102] }),.str ({ data:=#[43] }),.str ({ data:=#[108,105,115,116] })])] fun e f g h=>((some ((.agg [iN (4),iN (0),.str e,iN (0),iN (0)]),[.op [.rs (1,0) f,iN g,iN h]]))))
 (
 br (a == 3)
 (ck8 76 [.op [.rs (1,0) b,iN c,iN d],iN (5)] fun e f g h=>((some ((.agg [iN (9),iN e,.str ({ data:=#[] }),iN (0),iN (0)]),[.op [.rs (1,0) f,iN g,iN h]]))))
 (
 br (a == 4)
 (ck8 76 [.op [.rs (1,0) b,iN c,iN d],iN (5)] fun e f g h=>((some ((.agg [iN (8),iN e,.str ({ data:=#[] }),iN (0),iN (0)]),[.op [.rs (1,0) f,iN g,iN h]]))))
 (ck8 76 [.op [.rs (1,0) b,iN c,iN d],iN (12)] fun e f g h=>((some ((.agg [iN (3),(iN (w6 (e - 3))),.str ({ data:=#[] }),iN (0),iN (0)]),[.op [.rs (1,0) f,iN g,iN h]])))))))))):=by
 exact (yD Tryz.func201 rfl _).trans (by kernel_rfl)
theorem O8 (a0_0 a0_1 a0_2 a1_0:List D) (a1_1 a1_2 a1_3 a1_4 a1_5 a1_6 a1_7:Int):V 15 [.agg [.rs (5,0) a0_0,.rs (4,0) a0_1,.rs (3,0) a0_2],.agg [.rs (5,0) a1_0,iN a1_1,iN a1_2,iN a1_3,iN a1_4,iN a1_5,iN a1_6,iN a1_7]] =
 ck6 59 [.agg [.rs (5,0) a0_0,.rs (4,0) a0_1,.rs (3,0) a0_2]] fun a=>(br (!a)
 (some ((.bool false),[]))
 (ck6 60 [.agg [.rs (5,0) a1_0]] fun b=>(br (!b)
 (some ((.bool false),[]))
 (ck6 61 [.agg [.rs (5,0) a1_0],iN a1_2] fun c=>(br (!c)
 (some ((.bool false),[]))
 (ck6 61 [.agg [.rs (5,0) a1_0],iN a1_3] fun d=>(br (!d)
 (some ((.bool false),[]))
 (ck6 61 [.agg [.rs (5,0) a1_0],iN a1_4] fun e=>(br (!e)
 (some ((.bool false),[]))
 (ck6 62 [iN a1_1,iN (0),(iN (w6 (ni a0_1.length - 1)))] fun f=>(br (a1_5 == 0)
 (
 br f
 (
 br (a1_6 == 0)
 (some ((.bool (a1_7 == 0)),[]))
 (some ((.bool false),[])))
 (some ((.bool false),[])))
 (
 br (a1_5 == 1)
 (
 br f
 (ck6 62 [iN a1_6,iN (13),iN (19)] fun g=>(br g
 (
 br (a1_6 != 18)
 (ck6 61 [.agg [.rs (5,0) a1_0],iN a1_7] fun h=>(some ((.bool h),[])))
 (some ((.bool false),[])))
 (some ((.bool false),[]))))
 (some ((.bool false),[])))
 (
 br (a1_5 == 2)
 (
 br (a1_1 == 0)
 (
 br (a1_6 == 0)
 (ck6 61 [.agg [.rs (5,0) a1_0],iN a1_7] fun g=>(some ((.bool g),[])))
 (some ((.bool false),[])))
 (some ((.bool false),[])))
 (
 br (a1_5 == 3)
 (
 br (a1_1 == 0)
 (ck6 62 [iN a1_6,iN (1),iN (7)] fun g=>(br g
 (some ((.bool (a1_7 == 0)),[]))
 (some ((.bool false),[]))))
 (some ((.bool false),[])))
 (some ((.bool false),[])))))))))))))))):=by
 exact (yD Tryz.func15 rfl _).trans (by kernel_rfl)
theorem LY (a0_0 a0_1 a0_2 a1_0:List D) (a1_1 a1_2 a1_3 a1_4 a1_5 a1_6 a1_7:Int):V 19 [.agg [.rs (5,0) a0_0,.rs (4,0) a0_1,.rs (3,0) a0_2],.agg [.rs (5,0) a1_0,iN a1_1,iN a1_2,iN a1_3,iN a1_4,iN a1_5,iN a1_6,iN a1_7]] =
 ck6 14 [.agg [.rs (5,0) a0_0,.rs (4,0) a0_1,.rs (3,0) a0_2],(.agg [.rs (5,0) a1_0,iN a1_1,iN a1_2,iN a1_3,iN a1_4,iN a1_5,iN a1_6,iN a1_7])] fun a=>(br (!a)
 (some ((.tup [.str ({ data:=#[] }),.bool false]),[]))
 (ck5 18 [.agg [.rs (5,0) a1_0,iN a1_1,iN a1_2,iN a1_3,iN a1_4,iN a1_5,iN a1_6,iN a1_7]] fun b c d e f g h i=>((AJ (ni 7) (0) c d e f g h i [] ([iN c,iN g,iN h,iN d,iN e,iN f,iN i]) b)))):=by
 exact (yD Tryz.func19 rfl _).trans (by kernel_rfl)
theorem KF (p0:List D) (p1 p2:Int) (p3:List D):DH p0 p1 p2 p3 =
 br (decide (p1 < ni p0.length))
 (
 grd (decide (0 <= p1) && decide (p1 < ni p0.length)) (cT p0 p1.toNat fun a=>
 asI .i64 a fun b=>ck2 215 [.op [.os (5,0) p3,.os (4,0) [],.os (3,0) [],iN p2],iN b] fun c d e f=>(((br (f == 3)
 (some ((.tup [.agg [.os (5,0) [],.os (4,0) [],.os (3,0) []],iN (3),iN (0)]),[]))
 (
 br (f != 0)
 (some ((.tup [.agg [.os (5,0) [],.os (4,0) [],.os (3,0) []],iN f,iN p1]),[]))
 (Ba p0 (w6 (p1 + 1)) f c d e)))))))
 (ck6 59 [.agg [.rs (5,0) p3,.rs (4,0) [],.rs (3,0) []]] fun a=>(br (!a)
 (some ((.tup [.agg [.os (5,0) [],.os (4,0) [],.os (3,0) []],iN (3),iN (0)]),[]))
 (some ((.tup [.agg [.os (5,0) p3,.os (4,0) [],.os (3,0) []],iN (0),(iN (ni p0.length))]),[])))):=by
 exact (yC _ _ _).trans (by kernel_rfl)
theorem Rc (a0_:List D) (a1_:Int):V 174 [.rs (1,0) a0_,iN a1_] =
 Zk 173 [.rs (1,0) a0_,iN a1_] fun a b c=>((br (!c)
 (some ((.tup [.str ({ data:=#[] }),iN (0),.bool false]),[]))
 (
 br (decide (a > w6 (ni a0_.length - b)))
 (some ((.tup [.str ({ data:=#[] }),iN (0),.bool false]),[]))
 (grd (cW a0_.length (some b) (some (w6 (b + a)))) (gy (wu (wt a0_ (w6 (b + a))) b) fun d=>some ((.tup [.str d,(iN (w6 (b + a))),.bool true]),[])))))):=by
 exact (yD Tryz.func174 rfl _).trans (by kernel_rfl)
theorem Fw (p0:List D) (p1:Int) (p2:List D):CN p0 p1 p2 =
 br (decide (p1 < ni p0.length))
 (
 grd (decide (0 <= p1) && decide (p1 < ni p0.length)) (cT p0 p1.toNat fun a=>
 asI .i64 a fun b=>ck6 61 [.agg [.rs (5,0) p2],iN b] fun c=>(br (!c)
 (some ((.tup [.agg [.os (5,0) [],.os (4,0) [],.os (3,0) []],iN (3),iN (0)]),[]))
 (CN p0 (w6 (p1 + 1)) p2))))
 (ck9 147 [.agg [.rs (5,0) p2]] fun a=>((DH p0 (0) (0) a))):=by
 exact (yC _ _ _).trans (by kernel_rfl)
theorem VP (p:List D) (m1 m2 m3 m4 m5 m6 m7 v:Int):V 95 [.op [.os (5,0) p,iN m1,iN m2,iN m3,iN m4,iN m5,iN m6,iN m7],iN v] =
 zP 158 [.op [.os (5,0) p],(.agg [iN (5),iN (0),.str ({ data:=#[] }),iN v,iN m2])] fun a b=>((some ((.tup []),[.op [.os (5,0) b,iN m1,iN a,iN m3,iN m4,iN m5,iN m6,iN m7]]))):=by
 exact (yD Tryz.func95 rfl _).trans (by kernel_rfl)
theorem Ul (p q:List D) (v:Int):V 96 [.op [.os (5,0) p],.agg [.rs (5,0) q],iN v] =
 zA 149 [.agg [.rs (5,0) q],.rs (1,0) [iN v]] fun a=>(Xq 148 [.op [.os (5,0) p],(.agg [.rs (5,0) q]),.rs (1,0) a] fun b c=>((grd (decide (0 <= v) && decide (v < ni b.length)) (cT b v.toNat fun d=>
 asI .i64 d fun e=>some ((iN e),[.op [.os (5,0) c]]))))):=by
 exact (yD Tryz.func96 rfl _).trans (by kernel_rfl)
theorem TJ (a0_0:List D) (a0_1 a0_2 a1_:Int):V 155 [.op [.rs (1,0) a0_0,iN a0_1,iN a0_2],iN a1_] =
 ck8 76 [.op [.rs (1,0) a0_0,iN a0_1,iN a0_2],iN a1_] fun a b c d=>((some ((.bool (a == 0)),[.op [.rs (1,0) b,iN c,iN d]]))):=by
 exact (yD Tryz.func155 rfl _).trans (by kernel_rfl)
theorem CX (p0 p1:List D) (p2 p3:Int):Ax p0 p1 p2 p3 =
 br (decide (p3 < p2))
 (
 grd (decide (0 <= p3) && decide (p3 < ni p0.length)) (cT p0 p3.toNat fun a=>
 asI .i64 a fun b=>ck6 136 [iN b,(.bp [.rs (5,0) p1])] fun c=>(br c
 (some ((iN p3),[]))
 (Ax p0 p1 p2 (w6 (p3 + 1))))))
 (some ((iN (-1)),[])):=by
 exact (yC _ _ _).trans (by kernel_rfl)
theorem Fa (p0 p1:Int) (p2 p3 p4 p5:List D):zR p0 p1 p2 p3 p4 p5 =
 br (decide (p0 < ni p2.length))
 (
 br (p1 == 0)
 (AP p0 (0) p1 p2 p3 p4 p5)
 (some ((.os (1,0) p2),[.op [.os (5,0) p3,.os (4,0) p4,.os (3,0) p5,iN p1]])))
 (some ((.os (1,0) p2),[.op [.os (5,0) p3,.os (4,0) p4,.os (3,0) p5,iN p1]])):=by
 exact (yC _ _ _).trans (by kernel_rfl)
theorem Gu (p0:ByteArray) (p1:Int) (p2:List D):Dp p0 p1 p2 =
 br (decide (p1 <= 19))
 (
 grd (decide (0 <= p1) && decide (p1 < ni p2.length)) (cT p2 p1.toNat fun a=>
 asS a fun b=>br (kc b p0)
 (some ((iN p1),[]))
 (Dp p0 (w6 (p1 + 1)) p2)))
 (some ((iN (0)),[])):=by
 exact (yC _ _ _).trans (by kernel_rfl)
theorem Vz (a0_0 a1_:List D):V 189 [.agg [.rs (5,0) a0_0],.rs (1,0) a1_] =
 grd (decide (0 <= ni a0_0.length) && decide (ni a0_0.length <= LIM)) (Cw a1_ (ni a1_.length) (0) a0_0 (List.replicate (Int.toNat (ni a0_0.length)) (D.bool false))):=by
 exact (yD Tryz.func189 rfl _).trans (by kernel_rfl)
theorem TU (p l d:List D) (h:Int) (x e:List D):V 236 [.op [.os (5,0) p,.os (4,0) l,.os (3,0) d,iN h],.rs (1,0) x,.rs (1,1) e] =
 BM x e (0) h p l d:=by
 exact (yD Tryz.func236 rfl _).trans (by kernel_rfl)
theorem VE (a0_0 a0_1 a0_2:List D) (a1_:ByteArray):V 129 [.agg [.rs (5,0) a0_0,.rs (4,0) a0_1,.rs (3,0) a0_2],.str a1_] =
 DQ a1_ (0) a0_0 a0_1 a0_2:=by
 exact (yD Tryz.func129 rfl _).trans (by kernel_rfl)
theorem NA (l:List D) (s:ByteArray):V 178 [.rs (3,0) l,.fn 179 [.bp [.str s]]] =
 AZ l s (ni l.length) (0):=by
 exact (yD Tryz.func178 rfl _).trans (by kernel_rfl)
theorem VN (a0_:List D) (a1_:ByteArray):V 248 [.rs (1,1) a0_,.str a1_] =
 Cy a0_ a1_ (0):=by
 exact (yD Tryz.func248 rfl _).trans (by kernel_rfl)

end Go.Eng
/-! the functions as the interpreter has them -/
namespace Go.Eng
open Go.Proofs Go.Proofs.Tryz
set_option maxRecDepth 100000
theorem TZ (p l d:List D) (h x:Int) (e:List D):V 244 [.op [.os (5,0) p,.os (4,0) l,.os (3,0) d,iN h],iN x,.rs (1,1) e] =
 shd (ck1 237 [.op [.os (5,0) p,.os (4,0) l,.os (3,0) d,iN h],(.agg [iN (1),iN x,iN (0),.str ({ data:=#[] })])] fun _ a b c f=>((some ((.tup []),[.op [.os (5,0) a,.os (4,0) b,.os (3,0) c,iN f]])))) fun T2:Option Ret=>shd (ck3 228 [.agg [.rs (5,0) p],iN x] fun a b=>((br (!b)
 (some ((.tup []),[.op [.os (5,0) p,.os (4,0) l,.os (3,0) d,iN (1)]]))
 (
 grd (decide (0 <= 0) && decide (0 < ni a.length)) (cT a 0 fun c=>
 asI .i64 c fun f=>grd (decide (0 <= f) && decide (f < ni p.length)) (cT p f.toNat fun g=>
 tk1 g fun i _ j _ _=>(br (i == 4)
 (ck6 238 [.str j] fun k=>(br k
 (ck2 249 [.op [.os (5,0) p,.os (4,0) l,.os (3,0) d,iN h],.str j,.rs (1,0) a,.rs (1,1) e] fun m n o q=>(((some ((.tup []),[.op [.os (5,0) m,.os (4,0) n,.os (3,0) o,iN q]])))))
 (
 br (decide (ni a.length > 5))
 (some ((.tup []),[.op [.os (5,0) p,.os (4,0) l,.os (3,0) d,iN (1)]]))
 (Aq e (0) h a p l d))))
 (
 br (decide (ni a.length > 5))
 (some ((.tup []),[.op [.os (5,0) p,.os (4,0) l,.os (3,0) d,iN (1)]]))
 (Aq e (0) h a p l d))))))))) fun T1:Option Ret=>
 br (h != 0)
 (some ((.tup []),[.op [.os (5,0) p,.os (4,0) l,.os (3,0) d,iN h]]))
 (
 grd (decide (0 <= x) && decide (x < ni p.length)) (cT p x.toNat fun a=>
 tk1 a fun b _ c _ _=>(br (b == 1)
 (
 br (b == 1)
 T2
 (
 br (b == 4)
 (ck6 238 [.str c] fun f=>(br f
 (some ((.tup []),[.op [.os (5,0) p,.os (4,0) l,.os (3,0) d,iN (1)]]))
 (Zj 248 [.rs (1,1) e,.str c] fun g i=>((br (decide (g >= 0))
 (ck1 237 [.op [.os (5,0) p,.os (4,0) l,.os (3,0) d,iN h],(.agg [iN (2),iN g,iN i,.str ({ data:=#[] })])] fun _ j k m n=>((some ((.tup []),[.op [.os (5,0) j,.os (4,0) k,.os (3,0) m,iN n]]))))
 (ck1 237 [.op [.os (5,0) p,.os (4,0) l,.os (3,0) d,iN h],(.agg [iN (3),iN (0),iN (0),.str c])] fun _ j k m n=>((some ((.tup []),[.op [.os (5,0) j,.os (4,0) k,.os (3,0) m,iN n]])))))))))
 (
 br (b != 5)
 (some ((.tup []),[.op [.os (5,0) p,.os (4,0) l,.os (3,0) d,iN (1)]]))
 T1)))
 (
 br (b == 2)
 (
 br (b == 2)
 T2
 (
 br (b == 4)
 (ck6 238 [.str c] fun f=>(br f
 (some ((.tup []),[.op [.os (5,0) p,.os (4,0) l,.os (3,0) d,iN (1)]]))
 (Zj 248 [.rs (1,1) e,.str c] fun g i=>((br (decide (g >= 0))
 (ck1 237 [.op [.os (5,0) p,.os (4,0) l,.os (3,0) d,iN h],(.agg [iN (2),iN g,iN i,.str ({ data:=#[] })])] fun _ j k m n=>((some ((.tup []),[.op [.os (5,0) j,.os (4,0) k,.os (3,0) m,iN n]]))))
 (ck1 237 [.op [.os (5,0) p,.os (4,0) l,.os (3,0) d,iN h],(.agg [iN (3),iN (0),iN (0),.str c])] fun _ j k m n=>((some ((.tup []),[.op [.os (5,0) j,.os (4,0) k,.os (3,0) m,iN n]])))))))))
 (
 br (b != 5)
 (some ((.tup []),[.op [.os (5,0) p,.os (4,0) l,.os (3,0) d,iN (1)]]))
 T1)))
 (
 br (b == 3)
 T2
 (
 br (b == 4)
 (ck6 238 [.str c] fun f=>(br f
 (some ((.tup []),[.op [.os (5,0) p,.os (4,0) l,.os (3,0) d,iN (1)]]))
 (Zj 248 [.rs (1,1) e,.str c] fun g i=>((br (decide (g >= 0))
 (ck1 237 [.op [.os (5,0) p,.os (4,0) l,.os (3,0) d,iN h],(.agg [iN (2),iN g,iN i,.str ({ data:=#[] })])] fun _ j k m n=>((some ((.tup []),[.op [.os (5,0) j,.os (4,0) k,.os (3,0) m,iN n]]))))
 (ck1 237 [.op [.os (5,0) p,.os (4,0) l,.os (3,0) d,iN h],(.agg [iN (3),iN (0),iN (0),.str c])] fun _ j k m n=>((some ((.tup []),[.op [.os (5,0) j,.os (4,0) k,.os (3,0) m,iN n]])))))))))
 (
 br (b != 5)
 (some ((.tup []),[.op [.os (5,0) p,.os (4,0) l,.os (3,0) d,iN (1)]]))
 T1))))))):=by
 exact (yD Tryz.func244 rfl _).trans (by kernel_rfl)
theorem Rq (cp cl cd p:List D) (m1 m2 m3 m4 m5 m6 m7 f:Int) (l:List D) (nx:Int):V 233 [.agg [.rs (5,0) cp,.rs (4,0) cl,.rs (3,0) cd],.op [.os (5,0) p,iN m1,iN m2,iN m3,iN m4,iN m5,iN m6,iN m7],iN f,.rs (1,0) l,iN nx] =
 grd (decide (0 <= f) && decide (f < ni p.length)) (cT p f.toNat fun a=>
 tk1 a fun b c _ d _=>(br (b == 6)
 (
 grd (!decide (8 = 0)) (br (Int.tmod c (8) != ni l.length)
 (some ((iN (2)),[.op [.os (5,0) p,iN m1,iN m2,iN m3,iN m4,iN m5,iN m6,iN m7]]))
 (
 grd (!decide (8 = 0)) (br (decide (w6 (Int.tdiv c (8)) >= ni cl.length))
 (some ((iN (7)),[.op [.os (5,0) p,iN m1,iN m2,iN m3,iN m4,iN m5,iN m6,iN m7]]))
 (zP 158 [.op [.os (5,0) p],(.agg [iN (3),iN nx,.str ({ data:=#[] }),iN (0),iN (0)])] fun e g=>((zP 210 [.op [.os (5,0) g],.rs (1,0) [iN e,iN m2,iN m3]] fun h i=>((zP 158 [.op [.os (5,0) i],(.agg [iN (5),iN (0),.str ({ data:=#[] }),iN h,iN m4])] fun j k=>((zP 210 [.op [.os (5,0) k],.rs (1,0) l] fun m n=>((zP 158 [.op [.os (5,0) n],(.agg [iN (5),iN (0),.str ({ data:=#[] }),iN m,iN d])] fun o q=>((zP 158 [.op [.os (5,0) q],(.agg [iN (1),iN (0),.str ({ data:=#[] }),iN (0),iN (0)])] fun r s=>((grd (!decide (8 = 0)) (some ((iN (0)),[(.op [.os (5,0) s,(iN (w6 (Int.tdiv c (8)))),iN r,iN o,iN j,iN m5,iN m6,iN m7])])))))))))))))))))))
 (
 br (b == 8)
 (Lu 240 [.agg [.rs (5,0) cp,.rs (4,0) cl,.rs (3,0) cd],(.op [.os (5,0) p,iN m1,iN m2,iN m3,iN m4,iN m5,iN m6,iN m7]),iN c,.rs (1,0) l,iN nx] fun e g h i j k m n o=>((some ((iN e),[.op [.os (5,0) g,iN h,iN i,iN j,iN k,iN m,iN n,iN o]]))))
 (
 br (b == 7)
 (
 br (ni l.length != 1)
 (some ((iN (2)),[.op [.os (5,0) p,iN m1,iN m2,iN m3,iN m4,iN m5,iN m6,iN m7]]))
 (aae 234 [.agg [.rs (5,0) p],iN d,iN (4)] fun e g h=>((br (!h)
 (some ((iN (7)),[.op [.os (5,0) p,iN m1,iN m2,iN m3,iN m4,iN m5,iN m6,iN m7]]))
 (
 grd (decide (0 <= 0) && decide (0 < ni g.length)) (cT g 0 fun i=>
 asI .i64 i fun j=>grd (decide (0 <= 1) && decide (1 < ni g.length)) (cT g 1 fun k=>
 asI .i64 k fun m=>grd (decide (0 <= 2) && decide (2 < ni g.length)) (cT g 2 fun n=>
 asI .i64 n fun o=>grd (decide (0 <= 0) && decide (0 < ni l.length)) (cT l 0 fun q=>
 asI .i64 q fun r=>OZ 95 [.op [.os (5,0) p,iN e,iN j,iN m,iN o,iN m5,iN m6,iN m7],iN r] fun s t u v w x y z=>(((some ((iN (0)),[.op [.os (5,0) s,iN t,iN u,iN v,iN w,iN x,iN y,iN z]])))))))))))))
 (some ((iN (3)),[.op [.os (5,0) p,iN m1,iN m2,iN m3,iN m4,iN m5,iN m6,iN m7]])))))):=by
 exact (yD Tryz.func233 rfl _).trans (by kernel_rfl)
theorem LZ (a0_0 a0_1 a0_2:List D) (a1_:ByteArray):V 21 [.agg [.rs (5,0) a0_0,.rs (4,0) a0_1,.rs (3,0) a0_2],.str a1_] =
 ck7 71 [.op [.os (1,0) (gU a1_),iN (0),.bool true]] fun a b c d=>((ck7 71 [.op [.os (1,0) b,iN c,.bool d]] fun e f g h=>((ck7 71 [.op [.os (1,0) f,iN g,.bool h]] fun i j k l=>((ck7 71 [.op [.os (1,0) j,iN k,.bool l]] fun m n o p=>((ck7 71 [.op [.os (1,0) n,iN o,.bool p]] fun q r s t=>((ck7 71 [.op [.os (1,0) r,iN s,.bool t]] fun u v w x=>((ck7 71 [.op [.os (1,0) v,iN w,.bool x]] fun y z A B=>((Zi 72 [.op [.os (1,0) z,iN A,.bool B]] fun C _ _ E=>(((PF 19 [.agg [.rs (5,0) a0_0,.rs (4,0) a0_1,.rs (3,0) a0_2],(.agg [.rs (5,0) C,iN a,iN m,iN q,iN u,iN e,iN i,iN y])] fun F G=>((br (!E)
 (some ((.tup [.agg [.os (5,0) [],iN (0),iN (0),iN (0),iN (0),iN (0),iN (0),iN (0)],.bool false]),[]))
 (
 br (!G)
 (some ((.tup [.agg [.os (5,0) [],iN (0),iN (0),iN (0),iN (0),iN (0),iN (0),iN (0)],.bool false]),[]))
 (
 br (!kc F a1_)
 (some ((.tup [.agg [.os (5,0) [],iN (0),iN (0),iN (0),iN (0),iN (0),iN (0),iN (0)],.bool false]),[]))
 (some ((.tup [.agg [.os (5,0) C,iN a,iN m,iN q,iN u,iN e,iN i,iN y],.bool true]),[]))))))))))))))))))))))):=by
 exact (yD Tryz.func21 rfl _).trans (by kernel_rfl)
theorem KH (p0:ByteArray) (p1 p2:List D) (p3 p4:Int) (p5 p6 p7:List D):AM p0 p1 p2 p3 p4 p5 p6 p7 =
 br (decide (p3 < ni p7.length))
 (
 br (p4 == 0)
 (
 grd (decide (0 <= p3) && decide (p3 < ni p7.length)) (cT p7 p3.toNat fun a=>
 asAgg a fun b=>cT b 0 fun c=>
 asS c fun d=>br (kc d p0)
 (AM p0 p1 p2 (w6 (p3 + 1)) (2) p5 p6 p7)
 (AM p0 p1 p2 (w6 (p3 + 1)) p4 p5 p6 p7)))
 (
 grd (decide (ni (List.length (p7++[D.agg [D.str p0,iN (ni p6.length),iN (ni p1.length)]])) <= LIM)) (nam (p7++[D.agg [D.str p0,iN (ni p6.length),iN (ni p1.length)]]) fun a=>
 ck2 236 [.op [.os (5,0) p5,.os (4,0) p6,.os (3,0) a,iN p4],.rs (1,0) p2,(.rs (1,1) [.rs (1,0) p1])] fun b c d e=>(((ck1 237 [.op [.os (5,0) b,.os (4,0) c,.os (3,0) d,iN e],(.agg [iN (8),iN (0),iN (0),.str ({ data:=#[] })])] fun _ f g h i=>((some ((.tup []),[.op [.os (5,0) f,.os (4,0) g,.os (3,0) h,iN i]])))))))))
 (
 grd (decide (ni (List.length (p7++[D.agg [D.str p0,iN (ni p6.length),iN (ni p1.length)]])) <= LIM)) (nam (p7++[D.agg [D.str p0,iN (ni p6.length),iN (ni p1.length)]]) fun a=>
 ck2 236 [.op [.os (5,0) p5,.os (4,0) p6,.os (3,0) a,iN p4],.rs (1,0) p2,(.rs (1,1) [.rs (1,0) p1])] fun b c d e=>(((ck1 237 [.op [.os (5,0) b,.os (4,0) c,.os (3,0) d,iN e],(.agg [iN (8),iN (0),iN (0),.str ({ data:=#[] })])] fun _ f g h i=>((some ((.tup []),[.op [.os (5,0) f,.os (4,0) g,.os (3,0) h,iN i]])))))))):=by
 exact (yC _ _ _).trans (by kernel_rfl)
theorem Jw (a0_:List D):V 43 [.rs (1,0) a0_] =
 abk 51 [.rs (1,0) a0_] fun a b c=>((aai 52 [.op [.rs (1,0) a,iN b,iN c]] fun d e f g h i j k l m n _ _ _=>(((((some ((.tup [.agg [.rs (5,0) d,.rs (4,0) e,.rs (3,0) f],(.agg [.rs (5,0) g,iN h,iN i,iN j,iN k,iN l,iN m,iN n])]),[])))))))):=by
 exact (yD Tryz.func43 rfl _).trans (by kernel_rfl)
theorem Ib (p0 p1 p2:Int) (p3:Bool) (p4:List D):BI p0 p1 p2 p3 p4 =
 br (decide (p1 < p0))
 (
 br p3
 (
 br (decide (p1 <= 3000))
 (abj 141 [.op [.os (1,0) p4,iN p2,.bool p3]] fun a b c d e f g h=>(((grd (decide (ni 1 <= LIM)) (zL p0 (w6 (p1 + 1)) g h f ([D.agg [iN a,iN b,D.str c,iN d,iN e]]))))))
 (some ((.agg [.os (5,0) []]),[.op [.os (1,0) p4,iN p2,.bool p3]])))
 (some ((.agg [.os (5,0) []]),[.op [.os (1,0) p4,iN p2,.bool p3]])))
 (some ((.agg [.os (5,0) []]),[.op [.os (1,0) p4,iN p2,.bool p3]])):=by
 exact (yC _ _ _).trans (by kernel_rfl)
theorem VJ (a0_:ByteArray):V 227 [.str a0_] =
 br (decide (ni (ByteArray.size a0_) > 1))
 (
 grd (decide (0 <= 0) && decide (0 < ni (ByteArray.size a0_))) (br (bt a0_ (0) == 45)
 (
 grd (cW (ByteArray.size a0_) (some (1)) none) (br (decide (ni (ByteArray.size (ByteArray.extract a0_ (Int.toNat (1)) (ByteArray.size a0_))) > 10))
 (some ((.tup [iN (0),.bool false]),[]))
 (
 br (ni (ByteArray.size (ByteArray.extract a0_ (Int.toNat (1)) (ByteArray.size a0_))) == 0)
 (some ((.tup [iN (0),.bool false]),[]))
 (z9 a0_ (ByteArray.extract a0_ (Int.toNat (1)) (ByteArray.size a0_)) (0) (0)))))
 (
 br (decide (ni (ByteArray.size a0_) > 10))
 (some ((.tup [iN (0),.bool false]),[]))
 (
 br (ni (ByteArray.size a0_) == 0)
 (some ((.tup [iN (0),.bool false]),[]))
 (z9 a0_ a0_ (0) (0))))))
 (
 br (decide (ni (ByteArray.size a0_) > 10))
 (some ((.tup [iN (0),.bool false]),[]))
 (
 br (ni (ByteArray.size a0_) == 0)
 (some ((.tup [iN (0),.bool false]),[]))
 (z9 a0_ a0_ (0) (0)))):=by
 exact (yD Tryz.func227 rfl _).trans (by kernel_rfl)
theorem NT (a0_:ByteArray):V 238 [.str a0_] =
 br (kc a0_ { data:=#[113,117,111,116,101] })
 (some ((.bool true),[]))
 (
 br (kc a0_ { data:=#[105,102] })
 (some ((.bool true),[]))
 (
 br (kc a0_ { data:=#[102,110] })
 (some ((.bool true),[]))
 (
 br (kc a0_ { data:=#[100,111] })
 (some ((.bool true),[]))
 (
 br (kc a0_ { data:=#[108,101,116] })
 (some ((.bool true),[]))
 (some ((.bool (kc a0_ { data:=#[100,101,102,105,110,101] })),[])))))):=by
 exact (yD Tryz.func238 rfl _).trans (by kernel_rfl)
theorem TN (p l:List D):V 210 [.op [.os (5,0) p],.rs (1,0) l] =
 zP 158 [.op [.os (5,0) p],(.agg [iN (1),iN (0),.str ({ data:=#[] }),iN (0),iN (0)])] fun a b=>((Dr l a (w6 (ni l.length - 1)) b)):=by
 exact (yD Tryz.func210 rfl _).trans (by kernel_rfl)
theorem Mf (p q l:List D):V 137 [.op [.os (5,0) p],.agg [.rs (5,0) q],.rs (1,0) l] =
 grd (decide (0 <= ni q.length) && decide (ni q.length <= LIM)) (zA 189 [.agg [.rs (5,0) q],.rs (1,0) l] fun a=>(zf q (ni q.length) (0) (List.replicate (Int.toNat (ni q.length)) (iN (0))) a p)):=by
 exact (yD Tryz.func137 rfl _).trans (by kernel_rfl)
theorem Ra (a0_0 a1_:List D):V 65 [.agg [.rs (5,0) a0_0],.rs (1,0) a1_] =
 ck6 55 [.agg [.rs (5,0) a0_0]] fun a=>(br a
 (ck6 135 [.rs (1,0) a1_,(.fn 136 [(.bp [.rs (5,0) a0_0])])] fun b=>(some ((.bool (!b)),[])))
 (some ((.bool false),[]))):=by
 exact (yD Tryz.func65 rfl _).trans (by kernel_rfl)
theorem O6 (a0_0:List D):V 68 [.agg [.rs (5,0) a0_0]] =
 zA 67 [(iN (ni a0_0.length))] fun a=>(yU a0_0 (ni a0_0.length) (0) a):=by
 exact (yD Tryz.func68 rfl _).trans (by kernel_rfl)
end Go.Eng
/-! the functions as the interpreter has them -/
namespace Go.Eng
open Go.Proofs Go.Proofs.Tryz
set_option maxRecDepth 100000
theorem NQ (a0_0:List D) (a0_1 a0_2 a1_:Int):V 214 [.op [.rs (1,0) a0_0,iN a0_1,iN a0_2],iN a1_] =
 br (decide (a1_ <= 0))
 (KI 75 [.op [.rs (1,0) a0_0,iN a0_1,iN a0_2],(.rs (1,0) [.str ({ data:=#[49] }),.str ({ data:=#[120] }),.str ({ data:=#[121] }),.str ({ data:=#[45,50] }),.str ({ data:=#[35,116] }),.str ({ data:=#[40,41] }),.str ({ data:=#[102] }),.str ({ data:=#[40,113,117,111,116,101,32,97,41] }),.str ({ data:=#[48] })])] fun a b c d=>((some ((.str a),[.op [.rs (1,0) b,iN c,iN d]]))))
 (KI 214 [.op [.rs (1,0) a0_0,iN a0_1,iN a0_2],(iN (w6 (a1_ - 1)))] fun a b c d=>((KI 214 [.op [.rs (1,0) b,iN c,iN d],(iN (w6 (a1_ - 1)))] fun e f g h=>((ck8 76 [.op [.rs (1,0) f,iN g,iN h],iN (9)] fun i j k l=>((br (i == 0)
 (grd (decide (ni (ByteArray.size { data:=#[40,105,102,32] } + ByteArray.size a) <= LIM)) (grd (decide (ni (ByteArray.size ({ data:=#[40,105,102,32] }++a) + ByteArray.size { data:=#[32] }) <= LIM)) (grd (decide (ni (ByteArray.size ({ data:=#[40,105,102,32] }++a++{ data:=#[32] }) + ByteArray.size e) <= LIM)) (grd (decide (ni (ByteArray.size ({ data:=#[40,105,102,32] }++a++{ data:=#[32] }++e) + ByteArray.size { data:=#[32] }) <= LIM)) (KI 214 [.op [.rs (1,0) j,iN k,iN l],(iN (w6 (a1_ - 2)))] fun m n o p=>((grd (decide (ni (ByteArray.size ({ data:=#[40,105,102,32] }++a++{ data:=#[32] }++e++{ data:=#[32] }) + ByteArray.size m) <= LIM)) (grd (decide (ni (ByteArray.size ({ data:=#[40,105,102,32] }++a++{ data:=#[32] }++e++{ data:=#[32] }++m) + ByteArray.size { data:=#[41] }) <= LIM)) (some ((.str ({ data:=#[40,105,102,32] }++a++{ data:=#[32] }++e++{ data:=#[32] }++m++{ data:=#[41] })),[.op [.rs (1,0) n,iN o,iN p]]))))))))))
 (
 br (i == 1)
 (grd (decide (ni (ByteArray.size { data:=#[40,102,110,32,40,120,32,121,41,32] } + ByteArray.size a) <= LIM)) (grd (decide (ni (ByteArray.size ({ data:=#[40,102,110,32,40,120,32,121,41,32] }++a) + ByteArray.size { data:=#[41] }) <= LIM)) (some ((.str ({ data:=#[40,102,110,32,40,120,32,121,41,32] }++a++{ data:=#[41] })),[.op [.rs (1,0) j,iN k,iN l]]))))
 (
 br (i == 2)
 (grd (decide (ni (ByteArray.size { data:=#[40,108,101,116,32,120,32] } + ByteArray.size a) <= LIM)) (grd (decide (ni (ByteArray.size ({ data:=#[40,108,101,116,32,120,32] }++a) + ByteArray.size { data:=#[32] }) <= LIM)) (grd (decide (ni (ByteArray.size ({ data:=#[40,108,101,116,32,120,32] }++a++{ data:=#[32] }) + ByteArray.size e) <= LIM)) (grd (decide (ni (ByteArray.size ({ data:=#[40,108,101,116,32,120,32] }++a++{ data:=#[32] }++e) + ByteArray.size { data:=#[41] }) <= LIM)) (some ((.str ({ data:=#[40,108,101,116,32,120,32] }++a++{ data:=#[32] }++e++{ data:=#[41] })),[.op [.rs (1,0) j,iN k,iN l]]))))))
 (
 br (i == 3)
 (grd (decide (ni (ByteArray.size { data:=#[40,100,111,32] } + ByteArray.size a) <= LIM)) (grd (decide (ni (ByteArray.size ({ data:=#[40,100,111,32] }++a) + ByteArray.size { data:=#[32] }) <= LIM)) (grd (decide (ni (ByteArray.size ({ data:=#[40,100,111,32] }++a++{ data:=#[32] }) + ByteArray.size e) <= LIM)) (grd (decide (ni (ByteArray.size ({ data:=#[40,100,111,32] }++a++{ data:=#[32] }++e) + ByteArray.size { data:=#[41] }) <= LIM)) (some ((.str ({ data:=#[40,100,111,32] }++a++{ data:=#[32] }++e++{ data:=#[41] })),[.op [.rs (1,0) j,iN k,iN l]]))))))
 (
 br (i == 4)
 (grd (decide (ni (ByteArray.size { data:=#[40,112,114,105,110,116,32] } + ByteArray.size a) <= LIM)) (grd (decide (ni (ByteArray.size ({ data:=#[40,112,114,105,110,116,32] }++a) + ByteArray.size { data:=#[41] }) <= LIM)) (some ((.str ({ data:=#[40,112,114,105,110,116,32] }++a++{ data:=#[41] })),[.op [.rs (1,0) j,iN k,iN l]]))))
 (
 br (i == 5)
 (grd (decide (ni (ByteArray.size { data:=#[40,40,102,110,32,40,121,41,32] } + ByteArray.size a) <= LIM)) (grd (decide (ni (ByteArray.size ({ data:=#[40,40,102,110,32,40,121,41,32] }++a) + ByteArray.size { data:=#[41,32] }) <= LIM)) (grd (decide (ni (ByteArray.size ({ data:=#[40,40,102,110,32,40,121,41,32] }++a++{ data:=#[41,32] }) + ByteArray.size e) <= LIM)) (grd (decide (ni (ByteArray.size ({ data:=#[40,40,102,110,32,40,121,41,32] }++a++{ data:=#[41,32] }++e) + ByteArray.size { data:=#[41] }) <= LIM)) (some ((.str ({ data:=#[40,40,102,110,32,40,121,41,32] }++a++{ data:=#[41,32] }++e++{ data:=#[41] })),[.op [.rs (1,0) j,iN k,iN l]]))))))
 (
 br (i == 6)
 (KI 75 [.op [.rs (1,0) j,iN k,iN l],(.rs (1,0) [.str ({ data:=#[43] }),.str ({ data:=#[45] }),.str ({ data:=#[42] }),.str ({ data:=#[60] }),.str ({ data:=#[61] }),.str ({ data:=#[99,111,110,115] }),.str ({ data:=#[101,113,63] })])] fun m n o p=>((grd (decide (ni (ByteArray.size { data:=#[40] } + ByteArray.size m) <= LIM)) (grd (decide (ni (ByteArray.size ({ data:=#[40] }++m) + ByteArray.size { data:=#[32] }) <= LIM)) (grd (decide (ni (ByteArray.size ({ data:=#[40] }++m++{ data:=#[32] }) + ByteArray.size a) <= LIM)) (grd (decide (ni (ByteArray.size ({ data:=#[40] }++m++{ data:=#[32] }++a) + ByteArray.size { data:=#[32] }) <= LIM)) (grd (decide (ni (ByteArray.size ({ data:=#[40] }++m++{ data:=#[32] }++a++{ data:=#[32] }) + ByteArray.size e) <= LIM)) (grd (decide (ni (ByteArray.size ({ data:=#[40] }++m++{ data:=#[32] }++a++{ data:=#[32] }++e) + ByteArray.size { data:=#[41] }) <= LIM)) (some ((.str ({ data:=#[40] }++m++{ data:=#[32] }++a++{ data:=#[32] }++e++{ data:=#[41] })),[.op [.rs (1,0) n,iN o,iN p]]))))))))))
 (
 br (i == 7)
 (KI 75 [.op [.rs (1,0) j,iN k,iN l],(.rs (1,0) [.str ({ data:=#[99,97,114] }),.str ({ data:=#[99,100,114] }),.str ({ data:=#[110,117,108,108,63] }),.str ({ data:=#[112,97,105,114,63] }),.str ({ data:=#[110,111,116] }),.str ({ data:=#[99,97,108,108,99,99] })])] fun m n o p=>((grd (decide (ni (ByteArray.size { data:=#[40] } + ByteArray.size m) <= LIM)) (grd (decide (ni (ByteArray.size ({ data:=#[40] }++m) + ByteArray.size { data:=#[32] }) <= LIM)) (grd (decide (ni (ByteArray.size ({ data:=#[40] }++m++{ data:=#[32] }) + ByteArray.size a) <= LIM)) (grd (decide (ni (ByteArray.size ({ data:=#[40] }++m++{ data:=#[32] }++a) + ByteArray.size { data:=#[41] }) <= LIM)) (some ((.str ({ data:=#[40] }++m++{ data:=#[32] }++a++{ data:=#[41] })),[.op [.rs (1,0) n,iN o,iN p]]))))))))
 (some ((.str a),[.op [.rs (1,0) j,iN k,iN l]])))))))))))))))):=by
 exact (yD Tryz.func214 rfl _).trans (by kernel_rfl)
theorem XA (a0_0:List D) (a0_1 a0_2 a0_3 a0_4 a0_5 a0_6 a0_7:Int):V 18 [.agg [.rs (5,0) a0_0,iN a0_1,iN a0_2,iN a0_3,iN a0_4,iN a0_5,iN a0_6,iN a0_7]] =
 br (a0_5 == 1)
 (grd (decide (ni 4 <= LIM)) (ck6 65 [.agg [.rs (5,0) a0_0],.rs (1,0) [iN a0_2,iN a0_3,iN a0_4,iN a0_7]] fun a=>(br (!a)
 (ck5 63 [.agg [.rs (5,0) a0_0,iN a0_1,iN a0_2,iN a0_3,iN a0_4,iN a0_5,iN a0_6,iN a0_7]] fun b c d e f g h i=>((some ((.agg [.os (5,0) b,iN c,iN d,iN e,iN f,iN g,iN h,iN i]),[]))))
 (Vh 66 [.agg [.rs (5,0) a0_0],.rs (1,0) [iN a0_2,iN a0_3,iN a0_4,iN a0_7]] fun b c=>(((grd (decide (0 <= 0) && decide (0 < ni c.length)) (cT c 0 fun d=>
 asI .i64 d fun e=>grd (decide (0 <= 1) && decide (1 < ni c.length)) (cT c 1 fun f=>
 asI .i64 f fun g=>grd (decide (0 <= 2) && decide (2 < ni c.length)) (cT c 2 fun h=>
 asI .i64 h fun i=>grd (decide (0 <= 3) && decide (3 < ni c.length)) (cT c 3 fun j=>
 asI .i64 j fun k=>some ((.agg [.os (5,0) b,iN a0_1,iN e,iN g,iN i,iN a0_5,iN a0_6,iN k]),[]))))))))))))
 (
 br (a0_5 == 2)
 (grd (decide (ni 4 <= LIM)) (ck6 65 [.agg [.rs (5,0) a0_0],.rs (1,0) [iN a0_2,iN a0_3,iN a0_4,iN a0_7]] fun a=>(br (!a)
 (ck5 63 [.agg [.rs (5,0) a0_0,iN a0_1,iN a0_2,iN a0_3,iN a0_4,iN a0_5,iN a0_6,iN a0_7]] fun b c d e f g h i=>((some ((.agg [.os (5,0) b,iN c,iN d,iN e,iN f,iN g,iN h,iN i]),[]))))
 (Vh 66 [.agg [.rs (5,0) a0_0],.rs (1,0) [iN a0_2,iN a0_3,iN a0_4,iN a0_7]] fun b c=>(((grd (decide (0 <= 0) && decide (0 < ni c.length)) (cT c 0 fun d=>
 asI .i64 d fun e=>grd (decide (0 <= 1) && decide (1 < ni c.length)) (cT c 1 fun f=>
 asI .i64 f fun g=>grd (decide (0 <= 2) && decide (2 < ni c.length)) (cT c 2 fun h=>
 asI .i64 h fun i=>br (a0_5 == 2)
 (
 grd (decide (0 <= 3) && decide (3 < ni c.length)) (cT c 3 fun j=>
 asI .i64 j fun k=>some ((.agg [.os (5,0) b,iN a0_1,iN e,iN g,iN i,iN a0_5,iN a0_6,iN k]),[])))
 (some ((.agg [.os (5,0) b,iN a0_1,iN e,iN g,iN i,iN a0_5,iN a0_6,iN a0_7]),[]))))))))))))
 (ck6 65 [.agg [.rs (5,0) a0_0],.rs (1,0) [iN a0_2,iN a0_3,iN a0_4]] fun a=>(br (!a)
 (ck5 63 [.agg [.rs (5,0) a0_0,iN a0_1,iN a0_2,iN a0_3,iN a0_4,iN a0_5,iN a0_6,iN a0_7]] fun b c d e f g h i=>((some ((.agg [.os (5,0) b,iN c,iN d,iN e,iN f,iN g,iN h,iN i]),[]))))
 (Vh 66 [.agg [.rs (5,0) a0_0],.rs (1,0) [iN a0_2,iN a0_3,iN a0_4]] fun b c=>(((grd (decide (0 <= 0) && decide (0 < ni c.length)) (cT c 0 fun d=>
 asI .i64 d fun e=>grd (decide (0 <= 1) && decide (1 < ni c.length)) (cT c 1 fun f=>
 asI .i64 f fun g=>grd (decide (0 <= 2) && decide (2 < ni c.length)) (cT c 2 fun h=>
 asI .i64 h fun i=>br (a0_5 == 2)
 (
 grd (decide (0 <= 3) && decide (3 < ni c.length)) (cT c 3 fun j=>
 asI .i64 j fun k=>some ((.agg [.os (5,0) b,iN a0_1,iN e,iN g,iN i,iN a0_5,iN a0_6,iN k]),[])))
 (some ((.agg [.os (5,0) b,iN a0_1,iN e,iN g,iN i,iN a0_5,iN a0_6,iN a0_7]),[])))))))))))):=by
 exact (yD Tryz.func18 rfl _).trans (by kernel_rfl)
theorem Lr (p0:ByteArray) (p1:Nat) (p2 p3 p4:Int) (p5 p6 p7 p8:List D):z5 p0 p1 p2 p3 p4 p5 p6 p7 p8 =
 br (decide (p2 < ni (ByteArray.size p0)))
 (grd (decide (0 <= p2) && decide (p2 < ni (ByteArray.size p0))) (ck6 211 [.int .u8 (bt p0 p2)] fun a=>(br a
 (z5 p0 p1 (w6 (p2 + 1)) p3 p4 p5 p6 p7 p8)
 (grd (cW (ByteArray.size p0) (some p4) (some p2)) (PG 212 [(.str (ByteArray.extract p0 p4.toNat p2.toNat))] fun b c d e f g=>(((br (!g)
 (ck9 147 [.agg [.rs (5,0) p5]] fun h=>((some ((.tup [.agg [.os (5,0) h],.os (1,0) p6,iN (3),iN p4]),[]))))
 (
 grd (decide (0 <= p3) && decide (p3 < ni p1) && decide (0 + p1 <= List.length p7)) (cT p7 (0 + Int.toNat p3) fun h=>
 asAgg h fun i=>cT i 1 fun j=>
 jl (1,0) j fun k=>asAgg h fun l=>zP 158 [.op [.os (5,0) p8],.agg [iN b,iN c,.str d,iN e,iN f]] fun m n=>((grd (decide (ni (List.length (k++[iN m])) <= LIM)) (nam (k++[iN m]) fun o=>
 grd (decide (0 <= p3) && decide (p3 < ni p1) && decide (0 + p1 <= List.length (List.set p7 (0 + Int.toNat p3) (D.agg (List.take 1 l++[D.dead]++List.drop 2 l))))) (cT (List.set p7 (0 + Int.toNat p3) (D.agg (List.take 1 l++[D.dead]++List.drop 2 l))) (0 + Int.toNat p3) fun p=>
 asAgg p fun q=>nam (List.set (List.set p7 (0 + Int.toNat p3) (D.agg (List.take 1 l++[D.dead]++List.drop 2 l))) (0 + Int.toNat p3)
 (D.agg
 (List.take 1 q ++
 [D.os
 (TypeInfo.size (Tables.types (Program.toTables Tryz.prog))[3],
 match qU Tryz.prog (3) with
 | true=>0
 | false=>1)
 o] ++
 List.drop 2 q))) fun r=>
 za p0 p1 p2 p5 p6 r n))))))))))))))
 (grd (cW (ByteArray.size p0) (some p4) (some p2)) (PG 212 [(.str (ByteArray.extract p0 p4.toNat p2.toNat))] fun a b c d e f=>(((br (!f)
 (ck9 147 [.agg [.rs (5,0) p5]] fun g=>((some ((.tup [.agg [.os (5,0) g],.os (1,0) p6,iN (3),iN p4]),[]))))
 (
 grd (decide (0 <= p3) && decide (p3 < ni p1) && decide (0 + p1 <= List.length p7)) (cT p7 (0 + Int.toNat p3) fun g=>
 asAgg g fun h=>cT h 1 fun i=>
 jl (1,0) i fun j=>asAgg g fun k=>zP 158 [.op [.os (5,0) p8],.agg [iN a,iN b,.str c,iN d,iN e]] fun l m=>((grd (decide (ni (List.length (j++[iN l])) <= LIM)) (nam (j++[iN l]) fun n=>
 grd (decide (0 <= p3) && decide (p3 < ni p1) && decide (0 + p1 <= List.length (List.set p7 (0 + Int.toNat p3) (D.agg (List.take 1 k++[D.dead]++List.drop 2 k))))) (cT (List.set p7 (0 + Int.toNat p3) (D.agg (List.take 1 k++[D.dead]++List.drop 2 k))) (0 + Int.toNat p3) fun o=>
 asAgg o fun p=>nam (List.set (List.set p7 (0 + Int.toNat p3) (D.agg (List.take 1 k++[D.dead]++List.drop 2 k))) (0 + Int.toNat p3)
 (D.agg
 (List.take 1 p ++
 [D.os
 (TypeInfo.size (Tables.types (Program.toTables Tryz.prog))[3],
 match qU Tryz.prog (3) with
 | true=>0
 | false=>1)
 n] ++
 List.drop 2 p))) fun q=>
 za p0 p1 p2 p5 p6 q m))))))))))):=by
 exact (yC _ _ _).trans (by kernel_rfl)
theorem Gj (p0:List D) (p1 p2 p3:Int):Db p0 p1 p2 p3 =
 br (decide (p3 < 9))
 (
 br (decide (w6 (p1 + p3) < ni p0.length))
 (
 grd (decide (0 <= w6 (p1 + p3)) && decide (w6 (p1 + p3) < ni p0.length)) (cT p0 (Int.toNat (w6 (p1 + p3))) fun a=>
 asI .u8 a fun b=>grd (!decide (128 = 0)) (grd (!decide (w6 (7 * p3) < 0)) (br (decide (b < 128))
 (
 br (b == 0)
 (
 br (decide (p3 > 0))
 (some ((.tup [iN (0),iN (0),.bool false]),[]))
 (some ((.tup [(iN (w6 (ni (BitVec.toNat (BitVec.ofInt (IntKind.bits IntKind.i64) p2 ||| BitVec.ofInt (IntKind.bits IntKind.i64) (w6 (w6 (Int.tmod b (128)) * 2 ^ min (Int.toNat (w6 (7 * p3))) (IntKind.bits IntKind.i64)))))))),(iN (w6 (w6 (p1 + p3) + 1))),.bool true]),[])))
 (some ((.tup [(iN (w6 (ni (BitVec.toNat (BitVec.ofInt (IntKind.bits IntKind.i64) p2 ||| BitVec.ofInt (IntKind.bits IntKind.i64) (w6 (w6 (Int.tmod b (128)) * 2 ^ min (Int.toNat (w6 (7 * p3))) (IntKind.bits IntKind.i64)))))))),(iN (w6 (w6 (p1 + p3) + 1))),.bool true]),[])))
 (Db p0 p1 (w6 (ni (BitVec.toNat (BitVec.ofInt (IntKind.bits IntKind.i64) p2 ||| BitVec.ofInt (IntKind.bits IntKind.i64) (w6 (w6 (Int.tmod b (128)) * 2 ^ min (Int.toNat (w6 (7 * p3))) (IntKind.bits IntKind.i64))))))) (w6 (p3 + 1)))))))
 (some ((.tup [iN (0),iN (0),.bool false]),[])))
 (some ((.tup [iN (0),iN (0),.bool false]),[])):=by
 exact (yC _ _ _).trans (by kernel_rfl)
theorem Gq (p0:List D) (p1 p2 p3 p4:Int):Dk p0 p1 p2 p3 p4 =
 br (decide (p4 < 9))
 (
 br (decide (w6 (p1 + p4) < ni p0.length))
 (
 grd (decide (0 <= w6 (p1 + p4)) && decide (w6 (p1 + p4) < ni p0.length)) (cT p0 (Int.toNat (w6 (p1 + p4))) fun a=>
 asI .u8 a fun b=>grd (!decide (128 = 0)) (br (decide (w6 b < 128))
 (
 br (w6 b == 0)
 (
 br (decide (p4 > 0))
 (some ((.tup [iN (0),iN (0),.bool false]),[]))
 (some ((.tup [(iN (w6 (p2 + w6 (Int.tmod (w6 b) (128) * p3)))),(iN (w6 (w6 (p1 + p4) + 1))),.bool true]),[])))
 (some ((.tup [(iN (w6 (p2 + w6 (Int.tmod (w6 b) (128) * p3)))),(iN (w6 (w6 (p1 + p4) + 1))),.bool true]),[])))
 (Dk p0 p1 (w6 (p2 + w6 (Int.tmod (w6 b) (128) * p3))) (w6 (p3 * 128)) (w6 (p4 + 1))))))
 (some ((.tup [iN (0),iN (0),.bool false]),[])))
 (some ((.tup [iN (0),iN (0),.bool false]),[])):=by
 exact (yC _ _ _).trans (by kernel_rfl)
theorem Rt (a0_0:List D) (a1_ a2_:Int):V 234 [.agg [.rs (5,0) a0_0],iN a1_,iN a2_] =
 ck3 228 [.agg [.rs (5,0) a0_0],iN a1_] fun a b=>((br (!b)
 (some ((.tup [iN (0),.os (1,0) [],.bool false]),[]))
 (
 br (ni a.length != a2_)
 (some ((.tup [iN (0),.os (1,0) [],.bool false]),[]))
 (
 grd (decide (0 <= 0) && decide (0 < ni a.length)) (cT a 0 fun c=>
 asI .i64 c fun d=>grd (decide (0 <= d) && decide (d < ni a0_0.length)) (cT a0_0 d.toNat fun e=>
 asAgg e fun f=>cT f 0 fun g=>
 asI .i64 g fun h=>br (h != 3)
 (some ((.tup [iN (0),.os (1,0) [],.bool false]),[]))
 (
 grd (decide (0 <= 0) && decide (0 < ni a.length)) (cT a 0 fun i=>
 asI .i64 i fun j=>grd (decide (0 <= j) && decide (j < ni a0_0.length)) (cT a0_0 j.toNat fun k=>
 asAgg k fun l=>cT l 1 fun m=>
 asI .i64 m fun n=>grd (cW a.length (some (1)) none) (some ((.tup [iN n,(.os (1,0) (part a (some (Int.toNat (1),List.length a - Int.toNat (1))))),.bool true]),[]))))))))))):=by
 exact (yD Tryz.func234 rfl _).trans (by kernel_rfl)
theorem Ui (a0_0:List D) (a0_1 a0_2 a0_3 a0_4 a0_5 a0_6 a0_7 a1_:Int):V 97 [.agg [.rs (5,0) a0_0,iN a0_1,iN a0_2,iN a0_3,iN a0_4,iN a0_5,iN a0_6,iN a0_7],iN a1_] =
 ck5 85 [.agg [.rs (5,0) a0_0,iN a0_1,iN a0_2,iN a0_3,iN a0_4,iN a0_5,iN a0_6,iN a0_7]] fun a _ b c d _ _ _=>((some ((.agg [.os (5,0) a,iN (0),iN b,iN c,iN d,iN (3),iN a1_,iN (0)]),[]))):=by
 exact (yD Tryz.func97 rfl _).trans (by kernel_rfl)
theorem Ub (p l d:List D) (h x:Int):V 230 [.op [.os (5,0) p,.os (4,0) l,.os (3,0) d,iN h],iN x] =
 grd (decide (0 <= x) && decide (x < ni p.length)) (cT p x.toNat fun a=>
 tk1 a fun b _ c _ _=>(br (b == 4)
 (ck6 238 [.str c] fun e=>(some ((.tup [.str c,.bool (!e)]),[.op [.os (5,0) p,.os (4,0) l,.os (3,0) d,iN h]])))
 (some ((.tup [.str c,.bool false]),[.op [.os (5,0) p,.os (4,0) l,.os (3,0) d,iN h]])))):=by
 exact (yD Tryz.func230 rfl _).trans (by kernel_rfl)
theorem GA (p0:List D) (p1:Int) (p2 p3 p4:List D):Dv p0 p1 p2 p3 p4 =
 br (decide (p1 < ni p0.length))
 (
 grd (decide (0 <= p1) && decide (p1 < ni p0.length)) (cT p0 p1.toNat fun a=>
 asI .i64 a fun b=>grd (decide (0 <= b) && decide (b < ni p2.length)) (cT p2 b.toNat fun c=>
 asI .i64 c fun d=>grd (decide (ni (List.length (p3++[iN d])) <= LIM)) (nam (p3++[iN d]) fun e=>
 Dv p0 (w6 (p1 + 1)) p2 e p4))))
 (some ((.tup [.agg [.os (5,0) p4],.os (1,0) p3]),[])):=by
 exact (yC _ _ _).trans (by kernel_rfl)
theorem VT (b:List D) (i:Int) (k:Bool):V 114 [.op [.os (1,0) b,iN i,.bool k]] =
 Zk 173 [.rs (1,0) b,iN i] fun a c d=>((br (!d)
 (some ((iN (0)),[.op [.os (1,0) b,iN i,.bool false]]))
 (
 br (!k)
 (some ((iN (0)),[.op [.os (1,0) b,iN i,.bool false]]))
 (some ((iN a),[.op [.os (1,0) b,iN c,.bool k]]))))):=by
 exact (yD Tryz.func114 rfl _).trans (by kernel_rfl)
theorem FF (p0:List D) (p1:Int) (p2:List D):Bq p0 p1 p2 =
 br (decide (p1 < ni p0.length))
 (
 grd (decide (0 <= p1) && decide (p1 < ni p0.length)) (cT p0 p1.toNat fun a=>
 asI .i64 a fun b=>ck6 61 [.agg [.rs (5,0) p2],iN b] fun c=>(br (!c)
 (some ((.bool false),[]))
 (Bq p0 (w6 (p1 + 1)) p2))))
 (ck6 60 [.agg [.rs (5,0) p2]] fun a=>(some ((.bool a),[]))):=by
 exact (yC _ _ _).trans (by kernel_rfl)
theorem JG (a0_:Int):V 202 [iN a0_] =
 br (decide (a0_ < 0))
 (Vf 202 [(iN (w6 (0 - a0_)))] fun a=>(grd (decide (ni (ByteArray.size { data:=#[45] } + ByteArray.size a) <= LIM)) (some ((.str ({ data:=#[45] }++a)),[]))))
 (
 br (a0_ == 0)
 (some ((.str ({ data:=#[48] })),[]))
 (Ch a0_ ({ data:=#[] }))):=by
 exact (yD Tryz.func202 rfl _).trans (by kernel_rfl)
theorem Tw (a0_:List D) (a1_:Int):V 173 [.rs (1,0) a0_,iN a1_] =
 br (decide (a1_ < 0))
 (some ((.tup [iN (0),iN (0),.bool false]),[]))
 (
 br (decide (a1_ >= ni a0_.length))
 (some ((.tup [iN (0),iN (0),.bool false]),[]))
 (Dk a0_ a1_ (0) (1) (0))):=by
 exact (yD Tryz.func173 rfl _).trans (by kernel_rfl)
theorem Q9 (a0_0 a0_1 a0_2:List D) (a1_:Int):V 57 [.agg [.rs (5,0) a0_0,.rs (4,0) a0_1,.rs (3,0) a0_2],iN a1_] =
 ck6 58 [iN a1_,iN (0),(iN (w6 (ni a0_1.length - 1)))] fun a=>(some ((.bool a),[])):=by
 exact (yD Tryz.func57 rfl _).trans (by kernel_rfl)
theorem Ru (a0_0 a1_:List D):V 149 [.agg [.rs (5,0) a0_0],.rs (1,0) a1_] =
 grd (decide (0 <= ni a0_0.length) && decide (ni a0_0.length <= LIM)) (Bm a1_ (0) a0_0 (List.replicate (Int.toNat (ni a0_0.length)) (D.bool false))):=by
 exact (yD Tryz.func149 rfl _).trans (by kernel_rfl)
theorem VI (a0_0:List D) (a1_:Int):V 61 [.agg [.rs (5,0) a0_0],iN a1_] =
 ck6 62 [iN a1_,iN (0),(iN (w6 (ni a0_0.length - 1)))] fun a=>(some ((.bool a),[])):=by
 exact (yD Tryz.func61 rfl _).trans (by kernel_rfl)
theorem VG (a0_:List D):V 51 [.rs (1,0) a0_] =
 DR a0_ (w6 (17000 + ni a0_.length)) (0):=by
 exact (yD Tryz.func51 rfl _).trans (by kernel_rfl)
theorem PQ (a0_0:List D) (a1_:Int):V 228 [.agg [.rs (5,0) a0_0],iN a1_] =
 Cg a1_ a0_0 []:=by
 exact (yD Tryz.func228 rfl _).trans (by kernel_rfl)
theorem Tz (a0_:ByteArray):V 128 [.str a0_] =
 BJ a0_ (0):=by
 exact (yD Tryz.func128 rfl _).trans (by kernel_rfl)

end Go.Eng
/-! the functions as the interpreter has them -/
namespace Go.Eng
open Go.Proofs Go.Proofs.Tryz
set_option maxRecDepth 100000
theorem Uh (a0_0:List D) (a0_1 a0_2:Int):V 52 [.op [.rs (1,0) a0_0,iN a0_1,iN a0_2]] =
 aai 112 [.op [.rs (1,0) a0_0,iN a0_1,iN a0_2]] fun a b c d e f g h i j k l m n=>(((((ck8 76 [.op [.rs (1,0) l,iN m,iN n],iN (30)] fun o p q r=>((br (o == 0)
 (ck8 76 [.op [.rs (1,0) p,iN q,iN r],iN (50)] fun s t u v=>((ck8 122 [.op [.rs (1,0) t,iN u,iN v],(.rs (1,0) [iN (-1),iN (0),(iN (w6 (ni b.length - 1))),(iN (ni b.length)),iN s])] fun w x y z=>((some ((.tup [.agg [.rs (5,0) a,.rs (4,0) b,.rs (3,0) c],(.agg [.rs (5,0) d,iN w,iN f,iN g,iN h,iN i,iN j,iN k])]),[.op [.rs (1,0) x,iN y,iN z]]))))))
 (
 br (o == 1)
 (ck8 76 [.op [.rs (1,0) p,iN q,iN r],iN (5)] fun s t u v=>((some ((.tup [.agg [.rs (5,0) a,.rs (4,0) b,.rs (3,0) c],(.agg [.rs (5,0) d,iN e,iN f,iN g,iN h,iN s,iN j,iN k])]),[.op [.rs (1,0) t,iN u,iN v]]))))
 (
 br (o == 2)
 (ck8 76 [.op [.rs (1,0) p,iN q,iN r],iN (21)] fun s t u v=>((some ((.tup [.agg [.rs (5,0) a,.rs (4,0) b,.rs (3,0) c],(.agg [.rs (5,0) d,iN e,iN f,iN g,iN h,iN i,iN s,iN k])]),[.op [.rs (1,0) t,iN u,iN v]]))))
 (
 br (o == 3)
 (ck8 91 [.op [.rs (1,0) p,iN q,iN r],(.agg [.rs (5,0) d])] fun s t u v=>((some ((.tup [.agg [.rs (5,0) a,.rs (4,0) b,.rs (3,0) c],(.agg [.rs (5,0) d,iN e,iN f,iN g,iN h,iN i,iN j,iN s])]),[.op [.rs (1,0) t,iN u,iN v]]))))
 (
 br (o == 4)
 (ck8 91 [.op [.rs (1,0) p,iN q,iN r],(.agg [.rs (5,0) d])] fun s t u v=>((some ((.tup [.agg [.rs (5,0) a,.rs (4,0) b,.rs (3,0) c],(.agg [.rs (5,0) d,iN e,iN s,iN g,iN h,iN i,iN j,iN k])]),[.op [.rs (1,0) t,iN u,iN v]]))))
 (
 br (o == 5)
 (ck8 91 [.op [.rs (1,0) p,iN q,iN r],(.agg [.rs (5,0) d])] fun s t u v=>((some ((.tup [.agg [.rs (5,0) a,.rs (4,0) b,.rs (3,0) c],(.agg [.rs (5,0) d,iN e,iN f,iN s,iN h,iN i,iN j,iN k])]),[.op [.rs (1,0) t,iN u,iN v]]))))
 (
 br (o == 6)
 (ck8 91 [.op [.rs (1,0) p,iN q,iN r],(.agg [.rs (5,0) d])] fun s t u v=>((some ((.tup [.agg [.rs (5,0) a,.rs (4,0) b,.rs (3,0) c],(.agg [.rs (5,0) d,iN e,iN f,iN g,iN s,iN i,iN j,iN k])]),[.op [.rs (1,0) t,iN u,iN v]]))))
 (
 br (o == 7)
 (aaj 74 [.op [.rs (1,0) p,iN q,iN r]] fun s t u v w x=>(((some ((.tup [.agg [.os (5,0) s,.os (4,0) t,.os (3,0) u],(.agg [.rs (5,0) d,iN e,iN f,iN g,iN h,iN i,iN j,iN k])]),[.op [.rs (1,0) v,iN w,iN x]])))))
 (
 br (o == 8)
 (aak 90 [.op [.rs (1,0) p,iN q,iN r]] fun s t u v=>(((some ((.tup [.agg [.rs (5,0) a,.rs (4,0) b,.rs (3,0) c],(.agg [.os (5,0) s,iN e,iN f,iN g,iN h,iN i,iN j,iN k])]),[.op [.rs (1,0) t,iN u,iN v]])))))
 (some ((.tup [.agg [.rs (5,0) a,.rs (4,0) b,.rs (3,0) c],(.agg [.rs (5,0) d,iN e,iN f,iN g,iN h,iN i,iN j,iN k])]),[.op [.rs (1,0) p,iN q,iN r]]))))))))))))))))):=by
 exact (yD Tryz.func52 rfl _).trans (by kernel_rfl)
theorem TM (a0_0:List D) (a0_1 a0_2:Int):V 90 [.op [.rs (1,0) a0_0,iN a0_1,iN a0_2]] =
 aak 154 [.op [.rs (1,0) a0_0,iN a0_1,iN a0_2]] fun a b c d=>(((br (decide (ni a.length > 0))
 (S9 155 [.op [.rs (1,0) b,iN c,iN d],iN (12)] fun e f g h=>((br e
 (ck8 76 [.op [.rs (1,0) f,iN g,iN h],(iN (ni a.length))] fun i j k l=>((grd (decide (0 <= i) && decide (i < ni a.length)) (cT a i.toNat fun m=>
 asAgg m fun n=>unc n fun o p=>asI .i64 o fun q=>unc p fun r s=>asI .i64 r fun t=>unc s fun u v=>asS u fun w=>unc v fun x y=>asI .i64 x fun z=>unc y fun A B=>asI .i64 A fun C=>unn B (Vg 156 [.op [.rs (1,0) j,iN k,iN l],.agg [iN q,iN t,.str w,iN z,iN C]] fun E F G H I J K L=>(((grd (decide (0 <= i) && decide (i < ni a.length)) (cT a i.toNat fun _=>
 nam (List.set a i.toNat (D.agg [iN E,iN F,D.str G,iN H,iN I])) fun M=>
 S9 155 [(
 .op [.rs (1,0) J,iN K,iN L]),iN (60)] fun N O P Q=>((br N
 (ck8 76 [.op [.rs (1,0) O,iN P,iN Q],iN (2)] fun R S T U=>((grd (decide (0 <= w6 (3000 + R)) && decide (w6 (3000 + R) <= LIM)) (Ah (0) S T U (List.replicate (Int.toNat (w6 (3000 + R))) (D.agg [iN (0),iN (0),D.str { data:=#[] },iN (0),iN (0)]))))))
 (some ((.agg [.os (5,0) M]),[.op [.rs (1,0) O,iN P,iN Q]])))))))))))))
 (S9 155 [.op [.rs (1,0) f,iN g,iN h],iN (60)] fun i j k l=>((br i
 (ck8 76 [.op [.rs (1,0) j,iN k,iN l],iN (2)] fun m n o p=>((grd (decide (0 <= w6 (3000 + m)) && decide (w6 (3000 + m) <= LIM)) (Ah (0) n o p (List.replicate (Int.toNat (w6 (3000 + m))) (D.agg [iN (0),iN (0),D.str { data:=#[] },iN (0),iN (0)]))))))
 (some ((.agg [.os (5,0) a]),[.op [.rs (1,0) j,iN k,iN l]]))))))))
 (S9 155 [.op [.rs (1,0) b,iN c,iN d],iN (60)] fun e f g h=>((br e
 (ck8 76 [.op [.rs (1,0) f,iN g,iN h],iN (2)] fun i j k l=>((grd (decide (0 <= w6 (3000 + i)) && decide (w6 (3000 + i) <= LIM)) (Ah (0) j k l (List.replicate (Int.toNat (w6 (3000 + i))) (D.agg [iN (0),iN (0),D.str { data:=#[] },iN (0),iN (0)]))))))
 (some ((.agg [.os (5,0) a]),[.op [.rs (1,0) f,iN g,iN h]])))))))):=by
 exact (yD Tryz.func90 rfl _).trans (by kernel_rfl)
theorem Uk (a0_0 a0_1 a0_2 a1_0:List D) (a1_1 a1_2 a1_3 a1_4 a1_5 a1_6 a1_7:Int):V 153 [.agg [.rs (5,0) a0_0,.rs (4,0) a0_1,.rs (3,0) a0_2],.agg [.rs (5,0) a1_0,iN a1_1,iN a1_2,iN a1_3,iN a1_4,iN a1_5,iN a1_6,iN a1_7]] =
 ck5 85 [.agg [.rs (5,0) a1_0,iN a1_1,iN a1_2,iN a1_3,iN a1_4,iN a1_5,iN a1_6,iN a1_7]] fun a b c d e f g h=>((grd (decide (0 <= a1_1) && decide (a1_1 < ni a0_1.length)) (cT a0_1 a1_1.toNat fun i=>
 tk3 i fun j k l m=>(Lu 196 [.agg [.rs (5,0) a0_0,.rs (4,0) a0_1,.rs (3,0) a0_2],(.op [.os (5,0) a,iN b,iN c,iN d,iN e,iN f,iN g,iN h]),.agg [iN j,iN k,iN l,.str m]] fun n o p q r s t u v=>((br (n != 0)
 (ck5 97 [.agg [.rs (5,0) a1_0,iN a1_1,iN a1_2,iN a1_3,iN a1_4,iN a1_5,iN a1_6,iN a1_7],iN n] fun w x y z A B C E=>((some ((.agg [.os (5,0) w,iN x,iN y,iN z,iN A,iN B,iN C,iN E]),[]))))
 (ck6 62 [iN p,iN (0),(iN (w6 (ni a0_1.length - 1)))] fun w=>(br (!w)
 (ck5 97 [.agg [.rs (5,0) a1_0,iN a1_1,iN a1_2,iN a1_3,iN a1_4,iN a1_5,iN a1_6,iN a1_7],iN (7)] fun x y z A B C E F=>((some ((.agg [.os (5,0) x,iN y,iN z,iN A,iN B,iN C,iN E,iN F]),[]))))
 (
 br (decide (ni o.length > 3000))
 (ck5 97 [.agg [.rs (5,0) a1_0,iN a1_1,iN a1_2,iN a1_3,iN a1_4,iN a1_5,iN a1_6,iN a1_7],iN (6)] fun x y z A B C E F=>((some ((.agg [.os (5,0) x,iN y,iN z,iN A,iN B,iN C,iN E,iN F]),[]))))
 (some ((.agg [.os (5,0) o,iN p,iN q,iN r,iN s,iN t,iN u,iN v]),[]))))))))))):=by
 exact (yD Tryz.func153 rfl _).trans (by kernel_rfl)
theorem Ml (a0_0 a0_1 a0_2:List D) (a1_:ByteArray):V 45 [.agg [.rs (5,0) a0_0,.rs (4,0) a0_1,.rs (3,0) a0_2],.str a1_] =
 ck7 114 [.op [.os (1,0) (gU a1_),iN (0),.bool true]] fun a b c d=>((ck7 114 [.op [.os (1,0) b,iN c,.bool d]] fun e f g h=>((ck7 114 [.op [.os (1,0) f,iN g,.bool h]] fun i j k l=>((ck7 114 [.op [.os (1,0) j,iN k,.bool l]] fun m n o p=>((ck7 114 [.op [.os (1,0) n,iN o,.bool p]] fun q r s t=>((ck7 114 [.op [.os (1,0) r,iN s,.bool t]] fun u v w x=>((ck7 114 [.op [.os (1,0) v,iN w,.bool x]] fun y z A B=>((Zi 115 [.op [.os (1,0) z,iN A,.bool B]] fun C _ _ E=>(((br (!E)
 (some ((.tup [.agg [.os (5,0) [],iN (0),iN (0),iN (0),iN (0),iN (0),iN (0),iN (0)],.bool false]),[]))
 (PF 20 [.agg [.rs (5,0) a0_0,.rs (4,0) a0_1,.rs (3,0) a0_2],(.agg [.rs (5,0) C,iN a,iN m,iN q,iN u,iN e,iN i,iN y])] fun F G=>((br (!G)
 (some ((.tup [.agg [.os (5,0) [],iN (0),iN (0),iN (0),iN (0),iN (0),iN (0),iN (0)],.bool false]),[]))
 (
 br (!kc F a1_)
 (some ((.tup [.agg [.os (5,0) [],iN (0),iN (0),iN (0),iN (0),iN (0),iN (0),iN (0)],.bool false]),[]))
 (some ((.tup [.agg [.os (5,0) C,iN a,iN m,iN q,iN u,iN e,iN i,iN y],.bool true]),[]))))))))))))))))))))))):=by
 exact (yD Tryz.func45 rfl _).trans (by kernel_rfl)
theorem O7 (a0_0 a0_1 a0_2 a1_0:List D) (a2_:Int):V 171 [.agg [.rs (5,0) a0_0,.rs (4,0) a0_1,.rs (3,0) a0_2],.agg [.rs (5,0) a1_0],iN a2_] =
 ck6 59 [.agg [.rs (5,0) a0_0,.rs (4,0) a0_1,.rs (3,0) a0_2]] fun a=>(br (!a)
 (some ((.tup [.agg [.os (5,0) [],iN (0),iN (0),iN (0),iN (0),iN (0),iN (0),iN (0)],.bool false]),[]))
 (ck6 60 [.agg [.rs (5,0) a1_0]] fun b=>(br (!b)
 (some ((.tup [.agg [.os (5,0) [],iN (0),iN (0),iN (0),iN (0),iN (0),iN (0),iN (0)],.bool false]),[]))
 (ck6 61 [.agg [.rs (5,0) a1_0],iN a2_] fun c=>(br (!c)
 (some ((.tup [.agg [.os (5,0) [],iN (0),iN (0),iN (0),iN (0),iN (0),iN (0),iN (0)],.bool false]),[]))
 (
 br (decide (w6 (ni a1_0.length + 2) > 3000))
 (some ((.tup [.agg [.os (5,0) [],iN (0),iN (0),iN (0),iN (0),iN (0),iN (0),iN (0)],.bool false]),[]))
 (
 grd (decide (0 <= a2_) && decide (a2_ < ni a1_0.length)) (cT a1_0 a2_.toNat fun d=>
 tk1 d fun e f _ g _=>(br (e != 6)
 (some ((.tup [.agg [.os (5,0) [],iN (0),iN (0),iN (0),iN (0),iN (0),iN (0),iN (0)],.bool false]),[]))
 (
 grd (!decide (8 = 0)) (br (Int.tmod f (8) != 0)
 (some ((.tup [.agg [.os (5,0) [],iN (0),iN (0),iN (0),iN (0),iN (0),iN (0),iN (0)],.bool false]),[]))
 (
 grd (!decide (8 = 0)) (br (decide (w6 (Int.tdiv f (8)) >= ni a0_1.length))
 (some ((.tup [.agg [.os (5,0) [],iN (0),iN (0),iN (0),iN (0),iN (0),iN (0),iN (0)],.bool false]),[]))
 (ck9 147 [.agg [.rs (5,0) a1_0]] fun h=>((zP 158 [.op [.os (5,0) h],(.agg [iN (1),iN (0),.str ({ data:=#[] }),iN (0),iN (0)])] fun i j=>((zP 158 [.op [.os (5,0) j],(.agg [iN (5),iN (0),.str ({ data:=#[] }),iN i,iN g])] fun k l=>((grd (!decide (8 = 0)) (some ((.tup [(.agg [.os (5,0) l,(iN (w6 (Int.tdiv f (8)))),iN i,iN k,iN i,iN (0),iN (0),iN (0)]),.bool true]),[])))))))))))))))))))))):=by
 exact (yD Tryz.func171 rfl _).trans (by kernel_rfl)
theorem Dt (p0:Int) (p1:List D) (p2 p3:Int):z7 p0 p1 p2 p3 =
 br (decide (p0 < 4))
 (KI 192 [.op [.rs (1,0) p1,iN p2,iN p3]] fun a b c d=>((aaf 191 [.agg [.rs (5,0) []],.str a] fun e f g _=>(((aag 193 [.agg [.rs (5,0) e],.rs (1,0) f] fun h i j k _=>(((br (g == 0)
 (
 br (k == 0)
 (some ((.agg [.os (5,0) h,.os (4,0) i,.os (3,0) j]),[.op [.rs (1,0) b,iN c,iN d]]))
 (z7 (w6 (p0 + 1)) b c d))
 (z7 (w6 (p0 + 1)) b c d))))))))))
 (aaf 191 [.agg [.rs (5,0) []],.str ({ data:=#[40,112,114,105,110,116,32,49,41] })] fun a b _ _=>(((aag 193 [.agg [.rs (5,0) a],.rs (1,0) b] fun c d e _ _=>(((some ((.agg [.os (5,0) c,.os (4,0) d,.os (3,0) e]),[.op [.rs (1,0) p1,iN p2,iN p3]])))))))):=by
 exact (yC _ _ _).trans (by kernel_rfl)
theorem XE (a0_0 a0_1 a0_2 a1_0:List D) (a1_1 a1_2 a1_3 a1_4 a1_5 a1_6 a1_7:Int):V 89 [.agg [.rs (5,0) a0_0,.rs (4,0) a0_1,.rs (3,0) a0_2],.agg [.rs (5,0) a1_0,iN a1_1,iN a1_2,iN a1_3,iN a1_4,iN a1_5,iN a1_6,iN a1_7]] =
 ck6 15 [.agg [.rs (5,0) a0_0,.rs (4,0) a0_1,.rs (3,0) a0_2],(.agg [.rs (5,0) a1_0,iN a1_1,iN a1_2,iN a1_3,iN a1_4,iN a1_5,iN a1_6,iN a1_7])] fun a=>(br (!a)
 (some ((.agg [.os (5,0) [],iN (0),iN (0),iN (0),iN (0),iN (3),iN (7),iN (0)]),[]))
 (
 br (a1_5 != 0)
 (ck5 85 [.agg [.rs (5,0) a1_0,iN a1_1,iN a1_2,iN a1_3,iN a1_4,iN a1_5,iN a1_6,iN a1_7]] fun b c d e f g h i=>((some ((.agg [.os (5,0) b,iN c,iN d,iN e,iN f,iN g,iN h,iN i]),[]))))
 (ck5 153 [.agg [.rs (5,0) a0_0,.rs (4,0) a0_1,.rs (3,0) a0_2],(.agg [.rs (5,0) a1_0,iN a1_1,iN a1_2,iN a1_3,iN a1_4,iN a1_5,iN a1_6,iN a1_7])] fun b c d e f g h i=>((some ((.agg [.os (5,0) b,iN c,iN d,iN e,iN f,iN g,iN h,iN i]),[])))))):=by
 exact (yD Tryz.func89 rfl _).trans (by kernel_rfl)
theorem TH (a0_0:List D) (a0_1 a0_2:Int):V 143 [.op [.rs (1,0) a0_0,iN a0_1,iN a0_2]] =
 grd (!decide (33 < 0)) (grd (!decide (45 < 0)) (br (decide (a0_1 < ni a0_0.length))
 (
 grd (decide (0 <= a0_1) && decide (a0_1 < ni a0_0.length)) (cT a0_0 a0_1.toNat fun a=>
 asI .u8 a fun b=>some ((iN (w6 (ni (BitVec.toNat (BitVec.ofInt (IntKind.bits IntKind.i64) (w6 (w6 (ni (BitVec.toNat (BitVec.ofInt (IntKind.bits IntKind.i64) (w6 (ni (BitVec.toNat (BitVec.ofInt (IntKind.bits IntKind.i64) (Int.fdiv (w6 (w6 (a0_2 * 6364136223846793005) + 1442695040888963407)) (2 ^ min (Int.toNat (33)) (IntKind.bits IntKind.i64))) ^^^ BitVec.ofInt (IntKind.bits IntKind.i64) (Int.fdiv (w6 (w6 (a0_2 * 6364136223846793005) + 1442695040888963407)) (2 ^ min (Int.toNat (45)) (IntKind.bits IntKind.i64))))))) &&& BitVec.ofInt (IntKind.bits IntKind.i64) (255)))) + w6 b)) &&& BitVec.ofInt (IntKind.bits IntKind.i64) (255)))))),[(.op [.rs (1,0) a0_0,(iN (w6 (a0_1 + 1))),(iN (w6 (w6 (a0_2 * 6364136223846793005) + 1442695040888963407)))])])))
 (some ((iN (w6 (ni (BitVec.toNat (BitVec.ofInt (IntKind.bits IntKind.i64) (w6 (ni (BitVec.toNat (BitVec.ofInt (IntKind.bits IntKind.i64) (Int.fdiv (w6 (w6 (a0_2 * 6364136223846793005) + 1442695040888963407)) (2 ^ min (Int.toNat (33)) (IntKind.bits IntKind.i64))) ^^^ BitVec.ofInt (IntKind.bits IntKind.i64) (Int.fdiv (w6 (w6 (a0_2 * 6364136223846793005) + 1442695040888963407)) (2 ^ min (Int.toNat (45)) (IntKind.bits IntKind.i64))))))) &&& BitVec.ofInt (IntKind.bits IntKind.i64) (255)))))),[(.op [.rs (1,0) a0_0,iN a0_1,(iN (w6 (w6 (a0_2 * 6364136223846793005) + 1442695040888963407)))])])))):=by
 exact (yD Tryz.func143 rfl _).trans (by kernel_rfl)
theorem Il (p0 p1:Int) (p2:List D):DU p0 p1 p2 =
 br (decide (p1 > 0))
 (
 grd (decide (0 <= p0) && decide (p0 < ni p2.length)) (cT p2 p0.toNat fun a=>
 asAgg a fun b=>cT b 0 fun c=>
 asI .i64 c fun d=>br (d == 5)
 (
 grd (decide (0 <= p0) && decide (p0 < ni p2.length)) (cT p2 p0.toNat fun e=>
 asAgg e fun f=>cT f 4 fun g=>
 asI .i64 g fun h=>DU h (w6 (p1 - 1)) p2))
 (
 grd (decide (0 <= p0) && decide (p0 < ni p2.length)) (cT p2 p0.toNat fun e=>
 asAgg e fun f=>cT f 0 fun g=>
 asI .i64 g fun h=>br (h != 5)
 (some ((.tup [iN (0),.bool false]),[]))
 (
 grd (decide (0 <= p0) && decide (p0 < ni p2.length)) (cT p2 p0.toNat fun i=>
 asAgg i fun j=>cT j 3 fun k=>
 asI .i64 k fun l=>some ((.tup [iN l,.bool true]),[])))))))
 (
 grd (decide (0 <= p0) && decide (p0 < ni p2.length)) (cT p2 p0.toNat fun a=>
 asAgg a fun b=>cT b 0 fun c=>
 asI .i64 c fun d=>br (d != 5)
 (some ((.tup [iN (0),.bool false]),[]))
 (
 grd (decide (0 <= p0) && decide (p0 < ni p2.length)) (cT p2 p0.toNat fun e=>
 asAgg e fun f=>cT f 3 fun g=>
 asI .i64 g fun h=>some ((.tup [iN h,.bool true]),[]))))):=by
 exact (yC _ _ _).trans (by kernel_rfl)
theorem Cm (p0 p1 p2:Int) (p3:Bool) (p4 p5:List D):zL p0 p1 p2 p3 p4 p5 =
 br (decide (p1 < p0))
 (
 br p3
 (
 br (decide (p1 <= 3000))
 (abj 141 [.op [.os (1,0) p4,iN p2,.bool p3]] fun a b c d e f g h=>(((grd (decide (ni (List.length (p5++[D.agg [iN a,iN b,D.str c,iN d,iN e]])) <= LIM)) (nam (p5++[D.agg [iN a,iN b,D.str c,iN d,iN e]]) fun i=>
 zL p0 (w6 (p1 + 1)) g h f i)))))
 (some ((.agg [.os (5,0) p5]),[.op [.os (1,0) p4,iN p2,.bool p3]])))
 (some ((.agg [.os (5,0) p5]),[.op [.os (1,0) p4,iN p2,.bool p3]])))
 (some ((.agg [.os (5,0) p5]),[.op [.os (1,0) p4,iN p2,.bool p3]])):=by
 exact (yC _ _ _).trans (by kernel_rfl)
theorem Gp (p0:Int) (p1 p2 p3:List D):Di p0 p1 p2 p3 =
 br (decide (p0 < ni p3.length))
 (
 grd (decide (0 <= p0) && decide (p0 < ni p3.length)) (cT p3 p0.toNat fun a=>
 tk2 a fun b c d=>(ck6 128 [.str b] fun e=>(br (!e)
 (some ((.bool false),[]))
 (Iv 129 [.agg [.rs (5,0) p1,.rs (4,0) p2,.rs (3,0) p3],.str b] fun f=>(br (f != p0)
 (some ((.bool false),[]))
 (ck6 62 [iN c,iN (0),(iN (w6 (ni p2.length - 1)))] fun g=>(br (!g)
 (some ((.bool false),[]))
 (ck6 62 [iN d,iN (0),iN (4)] fun h=>(br (!h)
 (some ((.bool false),[]))
 (Di (w6 (p0 + 1)) p1 p2 p3)))))))))))
 (some ((.bool true),[])):=by
 exact (yC _ _ _).trans (by kernel_rfl)
theorem Cx (p0 p1:Int) (p2:List D) (p3 p4:Int) (p5:List D):Am p0 p1 p2 p3 p4 p5 =
 br (decide (p1 < p0))
 (Vg 197 [.op [.rs (1,0) p2,iN p3,iN p4],iN p1] fun a b c d e f g h=>(((zP 158 [.op [.os (5,0) p5],.agg [iN a,iN b,.str c,iN d,iN e]] fun _ i=>((Am p0 (w6 (p1 + 1)) f g h i))))))
 (some ((.agg [.os (5,0) p5]),[.op [.rs (1,0) p2,iN p3,iN p4]])):=by
 exact (yC _ _ _).trans (by kernel_rfl)
theorem XD (a0_0:List D) (a1_:ByteArray):V 191 [.agg [.rs (5,0) a0_0],.str a1_] =
 ck6 60 [.agg [.rs (5,0) a0_0]] fun a=>(br (!a)
 (some ((.tup [.agg [.os (5,0) []],.os (1,0) [],iN (6),iN (0)]),[]))
 (
 br (decide (ni (ByteArray.size a1_) > 400))
 (ck9 147 [.agg [.rs (5,0) a0_0]] fun b=>((some ((.tup [.agg [.os (5,0) b],.os (1,0) [],iN (1),iN (0)]),[]))))
 (ck9 147 [.agg [.rs (5,0) a0_0]] fun b=>((zg a1_ (0) a0_0 [] ([D.agg
 [iN (0),
 D.os
 (TypeInfo.size (Tables.types (Program.toTables Tryz.prog))[3],
 match qU Tryz.prog (3) with
 | true=>0
 | false=>1)
 []]]) b))))):=by
 exact (yD Tryz.func191 rfl _).trans (by kernel_rfl)
theorem Gl (p0:List D) (p1 p2:Int) (p3:List D):Dd p0 p1 p2 p3 =
 br (decide (p2 < p1))
 (
 grd (decide (0 <= p2) && decide (p2 < ni p0.length)) (cT p0 p2.toNat fun a=>
 tk1 a fun b c d e f=>(ck6 126 [.agg [iN b,iN c,.str d,iN e,iN f],iN p2] fun g=>(br (!g)
 (some ((.bool false),[]))
 (Dd p0 p1 (w6 (p2 + 1)) p3)))))
 (some ((.bool (decide (ni p3.length <= 3000))),[])):=by
 exact (yC _ _ _).trans (by kernel_rfl)
theorem NB (a0_:Int):V 177 [.int .u8 a0_] =
 br (decide (a0_ >= 97))
 (
 br (decide (a0_ <= 122))
 (some ((.bool true),[]))
 (grd (decide (0 < 8)) (ck6 203 [.rs (1,0) [.int .u8 (43),.int .u8 (45),.int .u8 (42),.int .u8 (60),.int .u8 (61),.int .u8 (63),.int .u8 (33),.int .u8 (47)],.int .u8 a0_] fun a=>(some ((.bool a),[])))))
 (grd (decide (0 < 8)) (ck6 203 [.rs (1,0) [.int .u8 (43),.int .u8 (45),.int .u8 (42),.int .u8 (60),.int .u8 (61),.int .u8 (63),.int .u8 (33),.int .u8 (47)],.int .u8 a0_] fun a=>(some ((.bool a),[])))):=by
 exact (yD Tryz.func177 rfl _).trans (by kernel_rfl)
theorem VQ (a0_0:List D) (a0_1 a0_2:Int) (a1_0 a1_1 a1_2 a2_0:List D) (a2_1 a2_2 a2_3 a2_4 a2_5 a2_6 a2_7 a3_:Int):V 172 [.op [.rs (1,0) a0_0,iN a0_1,iN a0_2],.agg [.rs (5,0) a1_0,.rs (4,0) a1_1,.rs (3,0) a1_2],.agg [.os (5,0) a2_0,iN a2_1,iN a2_2,iN a2_3,iN a2_4,iN a2_5,iN a2_6,iN a2_7],iN a3_] =
 Cz a3_ (0) a0_0 a0_1 a0_2 a1_0 a1_1 a1_2 a2_1 a2_2 a2_3 a2_4 a2_5 a2_6 a2_7 (0) (0) (0) (0) (0) (0) (0) a2_0:=by
 exact (yD Tryz.func172 rfl _).trans (by kernel_rfl)
theorem FC (p0:List D) (p1:Int) (p2 p3:List D):Bm p0 p1 p2 p3 =
 br (decide (p1 < ni p0.length))
 (
 grd (decide (0 <= p1) && decide (p1 < ni p0.length)) (cT p0 p1.toNat fun a=>
 asI .i64 a fun b=>grd (decide (0 <= b) && decide (b < ni p3.length)) (cT p3 b.toNat fun _=>
 nam (List.set p3 b.toNat (D.bool true)) fun c=>
 Bm p0 (w6 (p1 + 1)) p2 c)))
 (zG (w6 (ni p2.length - 1)) p2 p3):=by
 exact (yC _ _ _).trans (by kernel_rfl)
theorem Th (a0_:List D) (a1_:Int):V 140 [.rs (1,0) a0_,iN a1_] =
 ck6 58 [iN a1_,iN (0),(iN (w6 (ni a0_.length - 1)))] fun a=>(br (!a)
 (some ((.tup [iN (0),iN (0),.bool false]),[]))
 (Db a0_ a1_ (0) (0))):=by
 exact (yD Tryz.func140 rfl _).trans (by kernel_rfl)
theorem Tj (a0_:ByteArray):V 124 [.str a0_] =
 ck6 58 [(iN (ni (ByteArray.size a0_))),iN (1),iN (12)] fun a=>(br (!a)
 (some ((.bool false),[]))
 (BH a0_ (ni (ByteArray.size a0_)) (0))):=by
 exact (yD Tryz.func124 rfl _).trans (by kernel_rfl)
theorem Ij (p0:List D) (p1:ByteArray) (p2:Int):Cy p0 p1 p2 =
 br (decide (p2 < ni p0.length))
 (DT p0 p1 p2 (0))
 (some ((.tup [iN (-1),iN (0)]),[])):=by
 exact (yC _ _ _).trans (by kernel_rfl)
theorem XC (r:Int) (p:List D):V 136 [iN r,.bp [.rs (5,0) p]] =
 ck6 56 [.agg [.rs (5,0) p],iN r] fun a=>(some ((.bool (!a)),[])):=by
 exact (yD Tryz.func136 rfl _).trans (by kernel_rfl)
theorem Tm (a0_:Int):V 67 [iN a0_] =
 br (decide (a0_ < 0))
 (some ((.os (1,0) []),[]))
 (Dg a0_ []):=by
 exact (yD Tryz.func67 rfl _).trans (by kernel_rfl)
theorem Rv (a0_0 a1_:List D):V 84 [.agg [.rs (5,0) a0_0],.rs (1,0) a1_] =
 Bq a1_ (0) a0_0:=by
 exact (yD Tryz.func84 rfl _).trans (by kernel_rfl)
theorem Pa (a0_0:List D):V 252 [.agg [.rs (5,0) a0_0]] =
 z3 (0) a0_0 [] []:=by
 exact (yD Tryz.func252 rfl _).trans (by kernel_rfl)

end Go.Eng
/-! the functions as the interpreter has them -/
namespace Go.Eng
open Go.Proofs Go.Proofs.Tryz
set_option maxRecDepth 100000
theorem XJ (cp cl cd p:List D) (m1 m2 m3 m4 m5 m6 m7 io im ii:Int) (is:ByteArray):V 196 [.agg [.rs (5,0) cp,.rs (4,0) cl,.rs (3,0) cd],.op [.os (5,0) p,iN m1,iN m2,iN m3,iN m4,iN m5,iN m6,iN m7],.agg [iN io,iN im,iN ii,.str is]] =
 br (io == 1)
 (zP 96 [.op [.os (5,0) p],(.agg [.rs (5,0) cp]),iN im] fun a b=>((OZ 95 [.op [.os (5,0) b,iN m1,iN m2,iN m3,iN m4,iN m5,iN m6,iN m7],iN a] fun c _ d e f g h i=>(((some ((iN (0)),[(.op [.os (5,0) c,(iN (w6 (m1 + 1))),iN d,iN e,iN f,iN g,iN h,iN i])])))))))
 (
 br (io == 2)
 (Xr 216 [.agg [.rs (5,0) p],iN m3,iN im] fun a b=>((br (!b)
 (some ((iN (7)),[.op [.os (5,0) p,iN m1,iN m2,iN m3,iN m4,iN m5,iN m6,iN m7]]))
 (Xr 216 [.agg [.rs (5,0) p],iN a,iN ii] fun c d=>((br (!d)
 (some ((iN (7)),[.op [.os (5,0) p,iN m1,iN m2,iN m3,iN m4,iN m5,iN m6,iN m7]]))
 (OZ 95 [.op [.os (5,0) p,iN m1,iN m2,iN m3,iN m4,iN m5,iN m6,iN m7],iN c] fun e _ f g h i j k=>(((some ((iN (0)),[(.op [.os (5,0) e,(iN (w6 (m1 + 1))),iN f,iN g,iN h,iN i,iN j,iN k])])))))))))))
 (
 br (io == 3)
 (Lu 217 [.agg [.rs (5,0) cp,.rs (4,0) cl,.rs (3,0) cd],(.op [.os (5,0) p,iN m1,iN m2,iN m3,iN m4,iN m5,iN m6,iN m7]),.str is] fun a b c d e f g h i=>((br (a != 0)
 (some ((iN a),[.op [.os (5,0) b,iN c,iN d,iN e,iN f,iN g,iN h,iN i]]))
 (some ((iN (0)),[(.op [.os (5,0) b,(iN (w6 (m1 + 1))),iN d,iN e,iN f,iN g,iN h,iN i])])))))
 (
 br (io == 4)
 (Ve 218 [.op [.os (5,0) p,iN m1,iN m2,iN m3,iN m4,iN m5,iN m6,iN m7]] fun a b c d e f g h i j=>(((br (!b)
 (some ((iN (7)),[.op [.os (5,0) c,iN d,iN e,iN f,iN g,iN h,iN i,iN j]]))
 (
 grd (decide (0 <= a) && decide (a < ni c.length)) (cT c a.toNat fun k=>
 tk1 k fun l m _ _ _=>(br (l == 2)
 (
 br (m == 0)
 (some ((iN (0)),[.op [.os (5,0) c,iN im,iN e,iN f,iN g,iN h,iN i,iN j]]))
 (some ((iN (0)),[(.op [.os (5,0) c,(iN (w6 (m1 + 1))),iN e,iN f,iN g,iN h,iN i,iN j])])))
 (some ((iN (0)),[(.op [.os (5,0) c,(iN (w6 (m1 + 1))),iN e,iN f,iN g,iN h,iN i,iN j])])))))))))
 (
 br (io == 5)
 (some ((iN (0)),[.op [.os (5,0) p,iN im,iN m2,iN m3,iN m4,iN m5,iN m6,iN m7]]))
 (
 br (io == 6)
 (zP 158 [.op [.os (5,0) p],(.agg [iN (6),(iN (w6 (w6 (8 * im) + ii))),.str ({ data:=#[] }),iN m3,iN (0)])] fun a b=>((OZ 95 [.op [.os (5,0) b,iN m1,iN m2,iN m3,iN m4,iN m5,iN m6,iN m7],iN a] fun c _ d e f g h i=>(((some ((iN (0)),[(.op [.os (5,0) c,(iN (w6 (m1 + 1))),iN d,iN e,iN f,iN g,iN h,iN i])])))))))
 (
 br (io == 7)
 (Lu 219 [.agg [.rs (5,0) cp,.rs (4,0) cl,.rs (3,0) cd],(.op [.os (5,0) p,iN m1,iN m2,iN m3,iN m4,iN m5,iN m6,iN m7]),iN ii,(iN (w6 (m1 + 1)))] fun a b c d e f g h i=>((some ((iN a),[.op [.os (5,0) b,iN c,iN d,iN e,iN f,iN g,iN h,iN i]]))))
 (
 br (io == 8)
 (Lu 220 [.op [.os (5,0) p,iN m1,iN m2,iN m3,iN m4,iN m5,iN m6,iN m7]] fun a b c d e f g h i=>((some ((iN a),[.op [.os (5,0) b,iN c,iN d,iN e,iN f,iN g,iN h,iN i]]))))
 (
 br (io == 9)
 (Ve 218 [.op [.os (5,0) p,iN m1,iN m2,iN m3,iN m4,iN m5,iN m6,iN m7]] fun _ a b c d e f g h i=>(((br (!a)
 (some ((iN (7)),[.op [.os (5,0) b,iN c,iN d,iN e,iN f,iN g,iN h,iN i]]))
 (some ((iN (0)),[(.op [.os (5,0) b,(iN (w6 (m1 + 1))),iN d,iN e,iN f,iN g,iN h,iN i])]))))))
 (some ((iN (0)),[(.op [.os (5,0) p,(iN (w6 (m1 + 1))),iN m2,iN m3,iN m4,iN m5,iN m6,iN m7])])))))))))):=by
 exact (yD Tryz.func196 rfl _).trans (by kernel_rfl)
theorem Uj (cp cl cd p:List D) (m1 m2 m3 m4 m5 m6 m7 n:Int) (l:List D) (nx:Int):V 240 [.agg [.rs (5,0) cp,.rs (4,0) cl,.rs (3,0) cd],.op [.os (5,0) p,iN m1,iN m2,iN m3,iN m4,iN m5,iN m6,iN m7],iN n,.rs (1,0) l,iN nx] =
 Iv 245 [iN n] fun a=>(br (ni l.length != a)
 (some ((iN (2)),[.op [.os (5,0) p,iN m1,iN m2,iN m3,iN m4,iN m5,iN m6,iN m7]]))
 (
 br (n == 18)
 (zP 158 [.op [.os (5,0) p],(.agg [iN (3),iN nx,.str ({ data:=#[] }),iN (0),iN (0)])] fun b c=>((zP 210 [.op [.os (5,0) c],.rs (1,0) [iN b,iN m2,iN m3,iN m4]] fun d e=>((zP 158 [.op [.os (5,0) e],(.agg [iN (7),iN (0),.str ({ data:=#[] }),iN d,iN (0)])] fun f g=>((grd (decide (0 <= 0) && decide (0 < ni l.length)) (cT l 0 fun h=>
 asI .i64 h fun i=>Lu 233 [.agg [.rs (5,0) cp,.rs (4,0) cl,.rs (3,0) cd],(.op [.os (5,0) g,iN m1,iN m2,iN m3,iN m4,iN m5,iN m6,iN m7]),iN i,.rs (1,0) [iN f],iN nx] fun j k m o q r s t u=>((some ((iN j),[.op [.os (5,0) k,iN m,iN o,iN q,iN r,iN s,iN t,iN u]])))))))))))
 (
 br (decide (n > 12))
 (zP 210 [.op [.os (5,0) p],.rs (1,0) l] fun b c=>((some ((iN (0)),[.op [.os (5,0) c,iN m1,iN m2,iN m3,iN m4,iN (1),iN n,iN b]]))))
 (abh 246 [.op [.os (5,0) p],iN n,.rs (1,0) l] fun b c d=>(((br (c == 3)
 (some ((iN (4)),[.op [.os (5,0) d,iN m1,iN m2,iN m3,iN m4,iN m5,iN m6,iN m7]]))
 (
 br (c == 4)
 (some ((iN (5)),[.op [.os (5,0) d,iN m1,iN m2,iN m3,iN m4,iN m5,iN m6,iN m7]]))
 (OZ 95 [.op [.os (5,0) d,iN m1,iN m2,iN m3,iN m4,iN m5,iN m6,iN m7],iN b] fun e _ f g h i j k=>(((some ((iN (0)),[.op [.os (5,0) e,iN nx,iN f,iN g,iN h,iN i,iN j,iN k]]))))))))))))):=by
 exact (yD Tryz.func240 rfl _).trans (by kernel_rfl)
theorem PU (cp cl cd p:List D) (m1 m2 m3 m4 m5 m6 m7:Int) (s:ByteArray):V 217 [.agg [.rs (5,0) cp,.rs (4,0) cl,.rs (3,0) cd],.op [.os (5,0) p,iN m1,iN m2,iN m3,iN m4,iN m5,iN m6,iN m7],.str s] =
 Iv 129 [.agg [.rs (5,0) cp,.rs (4,0) cl,.rs (3,0) cd],.str s] fun a=>(br (decide (a >= 0))
 (zP 158 [.op [.os (5,0) p],(.agg [iN (1),iN (0),.str ({ data:=#[] }),iN (0),iN (0)])] fun b c=>((grd (decide (0 <= a) && decide (a < ni cd.length)) (cT cd a.toNat fun d=>
 asAgg d fun e=>cT e 1 fun f=>
 asI .i64 f fun g=>grd (decide (0 <= a) && decide (a < ni cd.length)) (cT cd a.toNat fun h=>
 asAgg h fun i=>cT i 2 fun j=>
 asI .i64 j fun k=>zP 158 [.op [.os (5,0) c],(.agg [iN (6),(iN (w6 (w6 (8 * g) + k))),.str ({ data:=#[] }),iN b,iN (0)])] fun l m=>((OZ 95 [.op [.os (5,0) m,iN m1,iN m2,iN m3,iN m4,iN m5,iN m6,iN m7],iN l] fun n o q r t u v w=>(((some ((iN (0)),[.op [.os (5,0) n,iN o,iN q,iN r,iN t,iN u,iN v,iN w]])))))))))))
 (Iv 232 [.str s] fun b=>(br (b == 0)
 (some ((iN (1)),[.op [.os (5,0) p,iN m1,iN m2,iN m3,iN m4,iN m5,iN m6,iN m7]]))
 (zP 158 [.op [.os (5,0) p],(.agg [iN (8),iN b,.str ({ data:=#[] }),iN (0),iN (0)])] fun c d=>((OZ 95 [.op [.os (5,0) d,iN m1,iN m2,iN m3,iN m4,iN m5,iN m6,iN m7],iN c] fun e f g h i j k l=>(((some ((iN (0)),[.op [.os (5,0) e,iN f,iN g,iN h,iN i,iN j,iN k,iN l]])))))))))):=by
 exact (yD Tryz.func217 rfl _).trans (by kernel_rfl)
theorem VK (p l d:List D) (h:Int) (n x e:List D):V 254 [.op [.os (5,0) p,.os (4,0) l,.os (3,0) d,iN h],.rs (1,0) n,.rs (1,0) x,.rs (1,1) e] =
 ck1 237 [(.op [.os (5,0) p,(.os (
 4,0) l),.os (3,0) d,iN h]),(.agg [iN (6),iN (0),(iN (ni n.length)),.str ({ data:=#[] })])] fun a b c f g=>((ck1 237 [.op [.os (5,0) b,.os (4,0) c,.os (3,0) f,iN g],(.agg [iN (5),iN (0),iN (0),.str ({ data:=#[] })])] fun i j k m o=>((ck2 253 [.op [.os (5,0) j,.os (4,0) k,.os (3,0) m,iN o],iN a] fun q r s t=>(((grd (decide (ni (List.length ([D.rs (1,0) n]++e)) <= LIM)) (nam ([D.rs (1,0) n]++e) fun u=>
 ck2 236 [.op [.os (5,0) q,.os (4,0) r,.os (3,0) s,iN t],.rs (1,0) x,.rs (1,1) u] fun v w y z=>(((ck1 237 [.op [.os (5,0) v,.os (4,0) w,.os (3,0) y,iN z],(.agg [iN (8),iN (0),iN (0),.str ({ data:=#[] })])] fun _ A B C E=>((ck2 253 [.op [.os (5,0) A,.os (4,0) B,.os (3,0) C,iN E],iN i] fun F G H I=>(((some ((.tup []),[.op [.os (5,0) F,.os (4,0) G,.os (3,0) H,iN I]]))))))))))))))))):=by
 exact (yD Tryz.func254 rfl _).trans (by kernel_rfl)
theorem Ry (a0_0:List D) (a0_1 a0_2:Int) (a1_:ByteArray):V 113 [.op [.rs (1,0) a0_0,iN a0_1,iN a0_2],.str a1_] =
 br (ni (List.length (gU a1_)) == 0)
 (some ((.str a1_),[.op [.rs (1,0) a0_0,iN a0_1,iN a0_2]]))
 (ck8 76 [.op [.rs (1,0) a0_0,iN a0_1,iN a0_2],iN (6)] fun a b c d=>((br (a == 0)
 (ck8 76 [(.op [(.rs (
 1,0) b),iN c,iN d]),(iN (ni (List.length (gU a1_))))] fun e f g h=>((ck8 122 [.op [.rs (1,0) f,iN g,iN h],(.rs (1,0) [iN (0),iN (1),iN (2),iN (3),iN (5),iN (9),iN (10),iN (127),iN (128)])] fun i j k l=>((grd (decide (0 <= e) && decide (e < ni (List.length (gU a1_)))) (cT (gU a1_) e.toNat fun _=>
 nam (List.set (gU a1_) e.toNat (D.int IntKind.u8 (IntKind.wrap IntKind.u8 i))) fun m=>
 gy m fun n=>some ((.str n),[.op [.rs (1,0) j,iN k,iN l]])))))))
 (
 br (a == 1)
 (ck8 76 [.op [.rs (1,0) b,iN c,iN d],(iN (w6 (ni (List.length (gU a1_)) + 1)))] fun e f g h=>((grd (cW (List.length (gU a1_)) none (some e)) (gy (part (gU a1_) (some (0,Int.toNat e))) fun i=>some ((.str i),[.op [.rs (1,0) f,iN g,iN h]])))))
 (
 br (a == 2)
 (
 grd (decide (ni (List.length (gU a1_++[D.int IntKind.u8 (0)])) <= LIM)) (nam (gU a1_++[D.int IntKind.u8 (0)]) fun e=>
 gy e fun f=>some ((.str f),[.op [.rs (1,0) b,iN c,iN d]])))
 (gy (gU a1_) fun e=>some ((.str e),[.op [.rs (1,0) b,iN c,iN d]]))))))):=by
 exact (yD Tryz.func113 rfl _).trans (by kernel_rfl)
theorem Rf (a0_0:List D) (a0_1 a0_2 a1_:Int):V 76 [.op [.rs (1,0) a0_0,iN a0_1,iN a0_2],iN a1_] =
 br (decide (a1_ <= 0))
 (some ((iN (0)),[.op [.rs (1,0) a0_0,iN a0_1,iN a0_2]]))
 (
 br (decide (a1_ <= 256))
 (ck8 143 [.op [.rs (1,0) a0_0,iN a0_1,iN a0_2]] fun a b c d=>((grd (!decide (a1_ = 0)) (some ((iN (Int.tmod a a1_)),[.op [.rs (1,0) b,iN c,iN d]])))))
 (ck8 143 [.op [.rs (1,0) a0_0,iN a0_1,iN a0_2]] fun a b c d=>((ck8 143 [.op [.rs (1,0) b,iN c,iN d]] fun e f g h=>((ck8 143 [.op [.rs (1,0) f,iN g,iN h]] fun i j k l=>((ck8 143 [.op [.rs (1,0) j,iN k,iN l]] fun m n o p=>((grd (!decide (a1_ = 0)) (some ((iN (Int.tmod (w6 (w6 (w6 (w6 (a * 16777216) + w6 (e * 65536)) + w6 (i * 256)) + m)) a1_)),[.op [.rs (1,0) n,iN o,iN p]])))))))))))):=by
 exact (yD Tryz.func76 rfl _).trans (by kernel_rfl)
theorem Ia (p0:Int) (p1 p2:List D):zX p0 p1 p2 =
 br (decide (p0 >= 0))
 (
 grd (decide (0 <= p0) && decide (p0 < ni p2.length)) (cT p2 p0.toNat fun a=>
 asB a fun b=>br (!b)
 (zX (w6 (p0 - 1)) p1 p2)
 (
 grd (decide (0 <= p0) && decide (p0 < ni p1.length)) (cT p1 p0.toNat fun c=>
 tk1 c fun d _ _ e f=>(br (d == 5)
 (
 grd (decide (0 <= e) && decide (e < ni p2.length)) (cT p2 e.toNat fun _=>
 nam (List.set p2 e.toNat (D.bool true)) fun g=>
 grd (decide (0 <= f) && decide (f < ni g.length)) (cT g f.toNat fun _=>
 nam (List.set g f.toNat (D.bool true)) fun h=>
 zX (w6 (p0 - 1)) p1 h)))
 (
 br (d == 6)
 (
 br (d == 6)
 (
 grd (decide (0 <= e) && decide (e < ni p2.length)) (cT p2 e.toNat fun _=>
 nam (List.set p2 e.toNat (D.bool true)) fun g=>
 zX (w6 (p0 - 1)) p1 g))
 (zX (w6 (p0 - 1)) p1 p2))
 (
 br (d == 7)
 (
 grd (decide (0 <= e) && decide (e < ni p2.length)) (cT p2 e.toNat fun _=>
 nam (List.set p2 e.toNat (D.bool true)) fun g=>
 zX (w6 (p0 - 1)) p1 g))
 (zX (w6 (p0 - 1)) p1 p2))))))))
 (some ((.os (1,0) p2),[])):=by
 exact (yC _ _ _).trans (by kernel_rfl)
theorem NG (a0_0 a0_1 a0_2:List D) (a1_:ByteArray):V 78 [.agg [.rs (5,0) a0_0,.rs (4,0) a0_1,.rs (3,0) a0_2],.str a1_] =
 Iv 129 [.agg [.rs (5,0) a0_0,.rs (4,0) a0_1,.rs (3,0) a0_2],.str a1_] fun a=>(ck6 59 [.agg [.rs (5,0) a0_0,.rs (4,0) a0_1,.rs (3,0) a0_2]] fun b=>(br (!b)
 (some ((.tup [.agg [.os (5,0) [],iN (0),iN (0),iN (0),iN (0),iN (0),iN (0),iN (0)],.bool false]),[]))
 (
 br (decide (a < 0))
 (some ((.tup [.agg [.os (5,0) [],iN (0),iN (0),iN (0),iN (0),iN (0),iN (0),iN (0)],.bool false]),[]))
 (
 grd (decide (0 <= a) && decide (a < ni a0_2.length)) (cT a0_2 a.toNat fun c=>
 asAgg c fun d=>cT d 2 fun e=>
 asI .i64 e fun f=>br (f != 0)
 (some ((.tup [.agg [.os (5,0) [],iN (0),iN (0),iN (0),iN (0),iN (0),iN (0),iN (0)],.bool false]),[]))
 (
 grd (decide (0 <= a) && decide (a < ni a0_2.length)) (cT a0_2 a.toNat fun g=>
 asAgg g fun h=>cT h 1 fun i=>
 asI .i64 i fun j=>some ((.tup [(.agg [(.os (5,0) [.agg [iN (1),iN (0),.str ({ data:=#[] }),iN (0),iN (0)],(.agg [iN (5),iN (0),.str ({ data:=#[] }),iN (0),iN (0)])]),iN j,iN (0),iN (1),iN (0),iN (0),iN (0),iN (0)]),.bool true]),[])))))))):=by
 exact (yD Tryz.func78 rfl _).trans (by kernel_rfl)
theorem Bx (p0:List D) (p1 p2:Int) (p3 p4 p5:List D):Ba p0 p1 p2 p3 p4 p5 =
 br (decide (p1 < ni p0.length))
 (
 grd (decide (0 <= p1) && decide (p1 < ni p0.length)) (cT p0 p1.toNat fun a=>
 asI .i64 a fun b=>ck2 215 [.op [.os (5,0) p3,.os (4,0) p4,.os (3,0) p5,iN p2],iN b] fun c d e f=>(((br (f == 3)
 (some ((.tup [.agg [.os (5,0) [],.os (4,0) [],.os (3,0) []],iN (3),iN (0)]),[]))
 (
 br (f != 0)
 (some ((.tup [.agg [.os (5,0) [],.os (4,0) [],.os (3,0) []],iN f,iN p1]),[]))
 (Ba p0 (w6 (p1 + 1)) f c d e)))))))
 (ck6 59 [.agg [.rs (5,0) p3,.rs (4,0) p4,.rs (3,0) p5]] fun a=>(br (!a)
 (some ((.tup [.agg [.os (5,0) [],.os (4,0) [],.os (3,0) []],iN (3),iN (0)]),[]))
 (some ((.tup [.agg [.os (5,0) p3,.os (4,0) p4,.os (3,0) p5],iN (0),(iN (ni p0.length))]),[])))):=by
 exact (yC _ _ _).trans (by kernel_rfl)
theorem TW (p l d:List D) (h io im ii:Int) (is:ByteArray):V 237 [.op [.os (5,0) p,.os (4,0) l,.os (3,0) d,iN h],.agg [iN io,iN im,iN ii,.str is]] =
 br (h == 0)
 (
 br (ni l.length == 400)
 (some ((iN (0)),[.op [.os (5,0) p,.os (4,0) l,.os (3,0) d,iN (3)]]))
 (
 br (h != 0)
 (some ((iN (0)),[.op [.os (5,0) p,.os (4,0) l,.os (3,0) d,iN h]]))
 (
 grd (decide (ni (List.length (l++[D.agg [iN io,iN im,iN ii,D.str is]])) <= LIM)) (nam (l++[D.agg [iN io,iN im,iN ii,D.str is]]) fun a=>
 some ((iN (w6 (ni a.length - 1))),[.op [.os (5,0) p,.os (4,0) a,.os (3,0) d,iN h]])))))
 (
 br (h != 0)
 (some ((iN (0)),[.op [.os (5,0) p,.os (4,0) l,.os (3,0) d,iN h]]))
 (
 grd (decide (ni (List.length (l++[D.agg [iN io,iN im,iN ii,D.str is]])) <= LIM)) (nam (l++[D.agg [iN io,iN im,iN ii,D.str is]]) fun a=>
 some ((iN (w6 (ni a.length - 1))),[.op [.os (5,0) p,.os (4,0) a,.os (3,0) d,iN h]])))):=by
 exact (yD Tryz.func237 rfl _).trans (by kernel_rfl)
theorem FA (p0:List D) (p1 p2:Int) (p3 p4 p5 p6:List D):z6 p0 p1 p2 p3 p4 p5 p6 =
 br (decide (p1 < ni p0.length))
 (
 br (p2 == 0)
 (
 grd (decide (0 <= p1) && decide (p1 < ni p0.length)) (cT p0 p1.toNat fun a=>
 asI .i64 a fun b=>aad 230 [.op [.os (5,0) p4,.os (4,0) p5,.os (3,0) p6,iN p2],iN b] fun c d e f g h=>(((br (!d)
 (
 grd (decide (ni (List.length (p3++[D.str c])) <= LIM)) (nam (p3++[D.str c]) fun i=>
 z6 p0 (w6 (p1 + 1)) (1) i e f g))
 (
 grd (decide (ni (List.length (p3++[D.str c])) <= LIM)) (nam (p3++[D.str c]) fun i=>
 z6 p0 (w6 (p1 + 1)) h i e f g)))))))
 (zR (0) p2 p3 p4 p5 p6))
 (zR (0) p2 p3 p4 p5 p6):=by
 exact (yC _ _ _).trans (by kernel_rfl)
theorem TT (a0_:ByteArray):V 212 [.str a0_] =
 br (kc a0_ { data:=#[35,116] })
 (some ((.tup [.agg [iN (2),iN (1),.str ({ data:=#[] }),iN (0),iN (0)],.bool true]),[]))
 (
 br (kc a0_ { data:=#[35,102] })
 (some ((.tup [.agg [iN (2),iN (0),.str ({ data:=#[] }),iN (0),iN (0)],.bool true]),[]))
 (Xr 227 [.str a0_] fun a b=>((br b
 (some ((.tup [.agg [iN (3),iN a,.str ({ data:=#[] }),iN (0),iN (0)],.bool true]),[]))
 (ck6 128 [.str a0_] fun c=>(some ((.tup [.agg [iN (4),iN (0),.str a0_,iN (0),iN (0)],.bool c]),[]))))))):=by
 exact (yD Tryz.func212 rfl _).trans (by kernel_rfl)
theorem Rm :V 239 [] =
 some ((.os (1,0) [.str ({ data:=#[] }),.str ({ data:=#[43] }),.str ({ data:=#[45] }),.str ({ data:=#[42] }),.str ({ data:=#[60] }),.str ({ data:=#[61] }),.str ({ data:=#[99,111,110,115] }),.str ({ data:=#[99,97,114] }),.str ({ data:=#[99,100,114] }),.str ({ data:=#[110,117,108,108,63] }),.str ({ data:=#[112,97,105,114,63] }),.str ({ data:=#[101,113,63] }),.str ({ data:=#[110,111,116] }),.str ({ data:=#[112,114,105,110,116] }),.str ({ data:=#[115,101,108,102] }),.str ({ data:=#[115,101,110,100] }),.str ({ data:=#[114,101,99,118] }),.str ({ data:=#[115,112,97,119,110] }),.str ({ data:=#[99,97,108,108,99,99] }),.str ({ data:=#[103,111] })]),[]):=by
 exact (yD Tryz.func239 rfl _).trans (by kernel_rfl)
theorem LP (p0:Int) (p1:List D):Dq p0 p1 =
 br (decide (p0 > 127))
 (
 grd (!decide (128 = 0)) (grd (decide (ni (List.length (p1++[D.int IntKind.u8 (IntKind.wrap IntKind.u8 (w6 (Int.tmod p0 (128) + 128)))])) <= LIM)) (nam (p1++[D.int IntKind.u8 (IntKind.wrap IntKind.u8 (w6 (Int.tmod p0 (128) + 128)))]) fun a=>
 grd (!decide (128 = 0)) (Dq (w6 (Int.tdiv p0 (128))) a))))
 (
 grd (decide (ni (List.length (p1++[D.int IntKind.u8 (IntKind.wrap IntKind.u8 p0)])) <= LIM)) (nam (p1++[D.int IntKind.u8 (IntKind.wrap IntKind.u8 p0)]) fun a=>
 some ((.os (1,0) a),[]))):=by
 exact (yC _ _ _).trans (by kernel_rfl)
theorem XH (p l d:List D) (h x:Int):V 253 [.op [.os (5,0) p,.os (4,0) l,.os (3,0) d,iN h],iN x] =
 br (h == 0)
 (
 grd (decide (0 <= x) && decide (x < ni l.length)) (cT l x.toNat fun a=>
 asAgg a fun b=>nam (List.set l x.toNat (D.agg (List.take 1 b++[iN (ni l.length)]++List.drop 2 b))) fun c=>
 some ((.tup []),[.op [.os (5,0) p,.os (4,0) c,.os (3,0) d,iN h]])))
 (some ((.tup []),[.op [.os (5,0) p,.os (4,0) l,.os (3,0) d,iN h]])):=by
 exact (yD Tryz.func253 rfl _).trans (by kernel_rfl)
theorem Ug (a0_0:List D) (a0_1 a0_2 a0_3 a0_4 a0_5 a0_6 a0_7:Int):V 85 [.agg [.rs (5,0) a0_0,iN a0_1,iN a0_2,iN a0_3,iN a0_4,iN a0_5,iN a0_6,iN a0_7]] =
 ck9 147 [.agg [.rs (5,0) a0_0]] fun a=>((some ((.agg [.os (5,0) a,iN a0_1,iN a0_2,iN a0_3,iN a0_4,iN a0_5,iN a0_6,iN a0_7]),[]))):=by
 exact (yD Tryz.func85 rfl _).trans (by kernel_rfl)
theorem XB (a0_0 a1_:List D):V 66 [.agg [.rs (5,0) a0_0],.rs (1,0) a1_] =
 Xq 137 [.op [.os (5,0) []],(.agg [.rs (5,0) a0_0]),.rs (1,0) a1_] fun a b=>((Fh a1_ (ni a1_.length) (0) a [] b)):=by
 exact (yD Tryz.func66 rfl _).trans (by kernel_rfl)
theorem Vy (a0_0 a0_1 a0_2:List D) (a1_:ByteArray):V 125 [.agg [.rs (5,0) a0_0,.rs (4,0) a0_1,.rs (3,0) a0_2],.str a1_] =
 Iv 178 [.rs (3,0) a0_2,(.fn 179 [(.bp [.str a1_])])] fun a=>(some ((iN a),[])):=by
 exact (yD Tryz.func125 rfl _).trans (by kernel_rfl)
theorem Tn (a0_0:List D) (a1_:Int):V 56 [.agg [.rs (5,0) a0_0],iN a1_] =
 ck6 58 [iN a1_,iN (0),(iN (w6 (ni a0_0.length - 1)))] fun a=>(some ((.bool a),[])):=by
 exact (yD Tryz.func56 rfl _).trans (by kernel_rfl)
theorem C9 (a0_:List D):V 181 [.rs (5,0) a0_] =
 vO a0_
 (some ((.os (5,0) []),[]))
 (
 grd (decide (ni (List.length ([]++a0_)) <= LIM)) (nam ([]++a0_) fun a=>
 some ((.os (5,0) a),[]))):=by
 exact (yD Tryz.func181 rfl _).trans (by kernel_rfl)
theorem PN (a0_0:List D):V 131 [.agg [.rs (5,0) a0_0]] =
 abU 181 [.rs (5,0) a0_0] fun a=>(some ((.agg [.os (5,0) a]),[])):=by
 exact (yD Tryz.func131 rfl _).trans (by kernel_rfl)
theorem aas (a:ByteArray) (b c:Int) (s:ByteArray):V 179 [.agg [.str a,iN b,iN c],.bp [.str s]] =
 some ((.bool (kc a s)),[]):=by
 exact (yD Tryz.func179 rfl _).trans (by kernel_rfl)
theorem VO (a0_0:List D) (a1_ a2_:Int):V 216 [.agg [.rs (5,0) a0_0],iN a1_,iN a2_] =
 DU a1_ a2_ a0_0:=by
 exact (yD Tryz.func216 rfl _).trans (by kernel_rfl)
theorem TC (a0_0:List D):V 60 [.agg [.rs (5,0) a0_0]] =
 Dn (0) a0_0:=by
 exact (yD Tryz.func60 rfl _).trans (by kernel_rfl)

end Go.Eng
/-! the functions as the interpreter has them -/
namespace Go.Eng
open Go.Proofs Go.Proofs.Tryz
set_option maxRecDepth 100000
theorem JF (a0_:List D):V 9 [.rs (1,0) a0_] =
 ck6 12 [.rs (1,0) a0_] fun a=>(br a
 (some ((.bool true),[]))
 (abT 43 [.rs (1,0) a0_] fun b c d e f g h i j k l=>((((PF 19 [.agg [.rs (5,0) b,.rs (4,0) c,.rs (3,0) d],(.agg [.rs (5,0) e,iN f,iN g,iN h,iN i,iN j,iN k,iN l])] fun m n=>((PF 20 [.agg [.rs (5,0) b,.rs (4,0) c,.rs (3,0) d],(.agg [.rs (5,0) e,iN f,iN g,iN h,iN i,iN j,iN k,iN l])] fun _ o=>((br (!n == o)
 (some ((.bool false),[]))
 (
 br n
 (JB 21 [(.agg [.rs (5,0) b,(.rs (
 4,0) c),.rs (3,0) d]),.str m] fun p q r _ s t _ _ u=>(((ck5 18 [.agg [.rs (5,0) e,iN f,iN g,iN h,iN i,iN j,iN k,iN l]] fun v w x _ y z _ _=>((br (!u)
 (some ((.bool false),[]))
 (
 br (q != w)
 (some ((.bool false),[]))
 (
 br (t != z)
 (some ((.bool false),[]))
 (
 br (r != x)
 (some ((.bool false),[]))
 (
 br (s != y)
 (some ((.bool false),[]))
 (
 br (ni p.length != ni v.length)
 (some ((.bool false),[]))
 (abi 44 [.rs (1,0) a0_] fun A B C E=>((
 (JB 21 [.agg [.rs (5,0) A,.rs (4,0) B,.rs (3,0) C],.str E] fun F G H I J K L M N=>(((JB 45 [.agg [.rs (5,0) A,.rs (4,0) B,.rs (3,0) C],.str E] fun _ _ _ _ _ _ _ _ O=>(((br (!N == O)
 (some ((.bool false),[]))
 (PF 19 [.agg [.rs (5,0) A,.rs (4,0) B,.rs (3,0) C],(.agg [.rs (5,0) F,iN G,iN H,iN I,iN J,iN K,iN L,iN M])] fun P Q=>((br (!N)
 (
 br (ni F.length == 0)
 (some ((.bool true),[]))
 (
 br N
 (
 br Q
 (some ((.bool (kc P E)),[]))
 (some ((.bool false),[])))
 (some ((.bool false),[]))))
 (
 br N
 (
 br Q
 (some ((.bool (kc P E)),[]))
 (some ((.bool false),[])))
 (some ((.bool false),[])))))))))))))))))))))))))))
 (abi 44 [.rs (1,0) a0_] fun p q r s=>((
 (JB 21 [.agg [.rs (5,0) p,.rs (4,0) q,.rs (3,0) r],.str s] fun t u v w x y z A B=>(((JB 45 [.agg [.rs (5,0) p,.rs (4,0) q,.rs (3,0) r],.str s] fun _ _ _ _ _ _ _ _ C=>(((br (!B == C)
 (some ((.bool false),[]))
 (PF 19 [.agg [.rs (5,0) p,.rs (4,0) q,.rs (3,0) r],(.agg [.rs (5,0) t,iN u,iN v,iN w,iN x,iN y,iN z,iN A])] fun E F=>((br (!B)
 (
 br (ni t.length == 0)
 (some ((.bool true),[]))
 (
 br B
 (
 br F
 (some ((.bool (kc E s)),[]))
 (some ((.bool false),[])))
 (some ((.bool false),[]))))
 (
 br B
 (
 br F
 (some ((.bool (kc E s)),[]))
 (some ((.bool false),[])))
 (some ((.bool false),[]))))))))))))))))))))))))))):=by
 exact (yD Tryz.func9 rfl _).trans (by kernel_rfl)
theorem Mh (b:List D) (i:Int) (k:Bool) :V 141 [.op [.os (1,0) b,iN i,.bool k]] =
 ck7 71 [.op [.os (1,0) b,iN i,.bool k]] fun a c d e=>((br (a == 2)
 (
 br (a == 2)
 (ck7 71 [.op [.os (1,0) c,iN d,.bool e]] fun f g h j=>((some ((.agg [iN a,iN f,.str ({ data:=#[] }),iN (0),iN (0)]),[.op [.os (1,0) g,iN h,.bool j]]))))
 (
 br (a == 3)
 (ck7 71 [.op [.os (1,0) c,iN d,.bool e]] fun f g h j=>((some ((.agg [iN a,(iN (w6 (f - 1000000000))),.str ({ data:=#[] }),iN (0),iN (0)]),[.op [.os (1,0) g,iN h,.bool j]]))))
 (
 br (a == 4)
 (aah 190 [.op [.os (1,0) c,iN d,.bool e]] fun f g h j=>((some ((.agg [iN a,iN (0),.str f,iN (0),iN (0)]),[.op [.os (1,0) g,iN h,.bool j]]))))
 (
 br (a == 5)
 (ck7 71 [.op [.os (1,0) c,iN d,.bool e]] fun f g h j=>((ck7 71 [.op [.os (1,0) g,iN h,.bool j]] fun l m n o=>((some ((.agg [iN a,iN (0),.str ({ data:=#[] }),iN f,iN l]),[.op [.os (1,0) m,iN n,.bool o]]))))))
 (
 br (a == 6)
 (ck7 71 [.op [.os (1,0) c,iN d,.bool e]] fun f g h j=>((ck7 71 [.op [.os (1,0) g,iN h,.bool j]] fun l m n o=>((some ((.agg [iN a,iN f,.str ({ data:=#[] }),iN l,iN (0)]),[.op [.os (1,0) m,iN n,.bool o]]))))))
 (
 br (a == 7)
 (ck7 71 [.op [.os (1,0) c,iN d,.bool e]] fun f g h j=>((some ((.agg [iN a,iN (0),.str ({ data:=#[] }),iN f,iN (0)]),[.op [.os (1,0) g,iN h,.bool j]]))))
 (some ((.agg [iN a,iN (0),.str ({ data:=#[] }),iN (0),iN (0)]),[.op [.os (1,0) c,iN d,.bool e]]))))))))
 (
 br (a == 8)
 (
 br (a == 8)
 (ck7 71 [.op [.os (1,0) c,iN d,.bool e]] fun f g h j=>((some ((.agg [iN a,iN f,.str ({ data:=#[] }),iN (0),iN (0)]),[.op [.os (1,0) g,iN h,.bool j]]))))
 (
 br (a == 3)
 (ck7 71 [.op [.os (1,0) c,iN d,.bool e]] fun f g h j=>((some ((.agg [iN a,(iN (w6 (f - 1000000000))),.str ({ data:=#[] }),iN (0),iN (0)]),[.op [.os (1,0) g,iN h,.bool j]]))))
 (
 br (a == 4)
 (aah 190 [.op [.os (1,0) c,iN d,.bool e]] fun f g h j=>((some ((.agg [iN a,iN (0),.str f,iN (0),iN (0)]),[.op [.os (1,0) g,iN h,.bool j]]))))
 (
 br (a == 5)
 (ck7 71 [.op [.os (1,0) c,iN d,.bool e]] fun f g h j=>((ck7 71 [.op [.os (1,0) g,iN h,.bool j]] fun l m n o=>((some ((.agg [iN a,iN (0),.str ({ data:=#[] }),iN f,iN l]),[.op [.os (1,0) m,iN n,.bool o]]))))))
 (
 br (a == 6)
 (ck7 71 [.op [.os (1,0) c,iN d,.bool e]] fun f g h j=>((ck7 71 [.op [.os (1,0) g,iN h,.bool j]] fun l m n o=>((some ((.agg [iN a,iN f,.str ({ data:=#[] }),iN l,iN (0)]),[.op [.os (1,0) m,iN n,.bool o]]))))))
 (
 br (a == 7)
 (ck7 71 [.op [.os (1,0) c,iN d,.bool e]] fun f g h j=>((some ((.agg [iN a,iN (0),.str ({ data:=#[] }),iN f,iN (0)]),[.op [.os (1,0) g,iN h,.bool j]]))))
 (some ((.agg [iN a,iN (0),.str ({ data:=#[] }),iN (0),iN (0)]),[.op [.os (1,0) c,iN d,.bool e]]))))))))
 (
 br (a == 9)
 (ck7 71 [.op [.os (1,0) c,iN d,.bool e]] fun f g h j=>((some ((.agg [iN a,iN f,.str ({ data:=#[] }),iN (0),iN (0)]),[.op [.os (1,0) g,iN h,.bool j]]))))
 (
 br (a == 3)
 (ck7 71 [.op [.os (1,0) c,iN d,.bool e]] fun f g h j=>((some ((.agg [iN a,(iN (w6 (f - 1000000000))),.str ({ data:=#[] }),iN (0),iN (0)]),[.op [.os (1,0) g,iN h,.bool j]]))))
 (
 br (a == 4)
 (aah 190 [.op [.os (1,0) c,iN d,.bool e]] fun f g h j=>((some ((.agg [iN a,iN (0),.str f,iN (0),iN (0)]),[.op [.os (1,0) g,iN h,.bool j]]))))
 (
 br (a == 5)
 (ck7 71 [.op [.os (1,0) c,iN d,.bool e]] fun f g h j=>((ck7 71 [.op [.os (1,0) g,iN h,.bool j]] fun l m n o=>((some ((.agg [iN a,iN (0),.str ({ data:=#[] }),iN f,iN l]),[.op [.os (1,0) m,iN n,.bool o]]))))))
 (
 br (a == 6)
 (ck7 71 [.op [.os (1,0) c,iN d,.bool e]] fun f g h j=>((ck7 71 [.op [.os (1,0) g,iN h,.bool j]] fun l m n o=>((some ((.agg [iN a,iN f,.str ({ data:=#[] }),iN l,iN (0)]),[.op [.os (1,0) m,iN n,.bool o]]))))))
 (
 br (a == 7)
 (ck7 71 [.op [.os (1,0) c,iN d,.bool e]] fun f g h j=>((some ((.agg [iN a,iN (0),.str ({ data:=#[] }),iN f,iN (0)]),[.op [.os (1,0) g,iN h,.bool j]]))))
 (some ((.agg [iN a,iN (0),.str ({ data:=#[] }),iN (0),iN (0)]),[.op [.os (1,0) c,iN d,.bool e]]))))))))))):=by
 exact (yD Tryz.func141 rfl _).trans (by kernel_rfl)
theorem De (p0:List D) (p1 p2:Int) (p3 p4 p5:List D):zf p0 p1 p2 p3 p4 p5 =
 br (decide (p2 < p1))
 (
 grd (decide (0 <= p2) && decide (p2 < ni p0.length)) (cT p0 p2.toNat fun a=>
 tk1 a fun b c d e f=>(grd (decide (0 <= p2) && decide (p2 < ni p3.length)) (cT p3 p2.toNat fun _=>
 nam (List.set p3 p2.toNat (iN (-1))) fun g=>
 grd (decide (0 <= p2) && decide (p2 < ni p4.length)) (cT p4 p2.toNat fun h=>
 asB h fun i=>br (!i)
 (zf p0 p1 (w6 (p2 + 1)) g p4 p5)
 (
 br (b == 5)
 (
 grd (decide (0 <= e) && decide (e < ni g.length)) (cT g e.toNat fun j=>
 asI .i64 j fun k=>grd (decide (0 <= f) && decide (f < ni g.length)) (cT g f.toNat fun l=>
 asI .i64 l fun m=>zP 157 [.op [.os (5,0) p5],.agg [iN b,iN c,.str d,iN k,iN m]] fun n o=>((grd (decide (0 <= p2) && decide (p2 < ni g.length)) (cT g p2.toNat fun _=>
 nam (List.set g p2.toNat (iN n)) fun p=>
 zf p0 p1 (w6 (p2 + 1)) p p4 o))))))
 (
 br (b == 6)
 (
 br (b == 6)
 (
 grd (decide (0 <= e) && decide (e < ni g.length)) (cT g e.toNat fun j=>
 asI .i64 j fun k=>zP 157 [.op [.os (5,0) p5],.agg [iN b,iN c,.str d,iN k,iN f]] fun l m=>((grd (decide (0 <= p2) && decide (p2 < ni g.length)) (cT g p2.toNat fun _=>
 nam (List.set g p2.toNat (iN l)) fun n=>
 zf p0 p1 (w6 (p2 + 1)) n p4 m)))))
 (zP 157 [.op [.os (5,0) p5],.agg [iN b,iN c,.str d,iN e,iN f]] fun j k=>((grd (decide (0 <= p2) && decide (p2 < ni g.length)) (cT g p2.toNat fun _=>
 nam (List.set g p2.toNat (iN j)) fun l=>
 zf p0 p1 (w6 (p2 + 1)) l p4 k)))))
 (
 br (b == 7)
 (
 grd (decide (0 <= e) && decide (e < ni g.length)) (cT g e.toNat fun j=>
 asI .i64 j fun k=>zP 157 [.op [.os (5,0) p5],.agg [iN b,iN c,.str d,iN k,iN f]] fun l m=>((grd (decide (0 <= p2) && decide (p2 < ni g.length)) (cT g p2.toNat fun _=>
 nam (List.set g p2.toNat (iN l)) fun n=>
 zf p0 p1 (w6 (p2 + 1)) n p4 m)))))
 (zP 157 [.op [.os (5,0) p5],.agg [iN b,iN c,.str d,iN e,iN f]] fun j k=>((grd (decide (0 <= p2) && decide (p2 < ni g.length)) (cT g p2.toNat fun _=>
 nam (List.set g p2.toNat (iN j)) fun l=>
 zf p0 p1 (w6 (p2 + 1)) l p4 k))))))))))))
 (some ((.os (1,0) p3),[.op [.os (5,0) p5]])):=by
 exact (yC _ _ _).trans (by kernel_rfl)
theorem Gz (p0:List D) (p1:Int) (p2 p3 p4:List D):zM p0 p1 p2 p3 p4 =
 br (decide (p1 < ni p2.length))
 (
 grd (decide (0 <= p1) && decide (p1 < ni p0.length)) (cT p0 p1.toNat fun a=>
 asB a fun b=>br (!b)
 (zM p0 (w6 (p1 + 1)) p2 p3 p4)
 (
 grd (decide (0 <= p1) && decide (p1 < ni p2.length)) (cT p2 p1.toNat fun c=>
 tk1 c fun d e f g h=>(br (d == 5)
 (
 grd (decide (0 <= g) && decide (g < ni p3.length)) (cT p3 g.toNat fun i=>
 asI .i64 i fun j=>grd (decide (0 <= h) && decide (h < ni p3.length)) (cT p3 h.toNat fun k=>
 asI .i64 k fun l=>zP 158 [.op [.os (5,0) p4],.agg [iN d,iN e,.str f,iN j,iN l]] fun m n=>((grd (decide (0 <= p1) && decide (p1 < ni p3.length)) (cT p3 p1.toNat fun _=>
 nam (List.set p3 p1.toNat (iN m)) fun o=>
 zM p0 (w6 (p1 + 1)) p2 o n))))))
 (
 br (d == 6)
 (
 br (d == 6)
 (
 grd (decide (0 <= g) && decide (g < ni p3.length)) (cT p3 g.toNat fun i=>
 asI .i64 i fun j=>zP 158 [.op [.os (5,0) p4],.agg [iN d,iN e,.str f,iN j,iN h]] fun k l=>((grd (decide (0 <= p1) && decide (p1 < ni p3.length)) (cT p3 p1.toNat fun _=>
 nam (List.set p3 p1.toNat (iN k)) fun m=>
 zM p0 (w6 (p1 + 1)) p2 m l)))))
 (zP 158 [.op [.os (5,0) p4],.agg [iN d,iN e,.str f,iN g,iN h]] fun i j=>((grd (decide (0 <= p1) && decide (p1 < ni p3.length)) (cT p3 p1.toNat fun _=>
 nam (List.set p3 p1.toNat (iN i)) fun k=>
 zM p0 (w6 (p1 + 1)) p2 k j)))))
 (
 br (d == 7)
 (
 grd (decide (0 <= g) && decide (g < ni p3.length)) (cT p3 g.toNat fun i=>
 asI .i64 i fun j=>zP 158 [.op [.os (5,0) p4],.agg [iN d,iN e,.str f,iN j,iN h]] fun k l=>((grd (decide (0 <= p1) && decide (p1 < ni p3.length)) (cT p3 p1.toNat fun _=>
 nam (List.set p3 p1.toNat (iN k)) fun m=>
 zM p0 (w6 (p1 + 1)) p2 m l)))))
 (zP 158 [.op [.os (5,0) p4],.agg [iN d,iN e,.str f,iN g,iN h]] fun i j=>((grd (decide (0 <= p1) && decide (p1 < ni p3.length)) (cT p3 p1.toNat fun _=>
 nam (List.set p3 p1.toNat (iN i)) fun k=>
 zM p0 (w6 (p1 + 1)) p2 k j)))))))))))
 (some ((.os (1,0) p3),[.op [.os (5,0) p4]])):=by
 exact (yC _ _ _).trans (by kernel_rfl)
theorem Ue (p:List D) (m1 m2 m3 m4 m5 m6 m7:Int) :V 220 [.op [.os (5,0) p,iN m1,iN m2,iN m3,iN m4,iN m5,iN m6,iN m7]] =
 Ve 218 [.op [.os (5,0) p,iN m1,iN m2,iN m3,iN m4,iN m5,iN m6,iN m7]] fun a b c d e f g h i j=>(((br (!b)
 (some ((iN (7)),[.op [.os (5,0) c,iN d,iN e,iN f,iN g,iN h,iN i,iN j]]))
 (
 grd (decide (0 <= g) && decide (g < ni c.length)) (cT c g.toNat fun k=>
 tk1 k fun l _ _ m n=>(br (l == 1)
 (some ((iN (0)),[.op [.os (5,0) c,iN (0),iN e,iN f,iN g,iN (2),iN i,iN a]]))
 (
 br (l != 5)
 (some ((iN (7)),[.op [.os (5,0) c,iN d,iN e,iN f,iN g,iN h,iN i,iN j]]))
 (aae 234 [.agg [.rs (5,0) c],iN m,iN (3)] fun o q r=>((br (!r)
 (some ((iN (7)),[.op [.os (5,0) c,iN d,iN e,iN f,iN g,iN h,iN i,iN j]]))
 (
 grd (decide (0 <= 0) && decide (0 < ni q.length)) (cT q 0 fun s=>
 asI .i64 s fun t=>grd (decide (0 <= 1) && decide (1 < ni q.length)) (cT q 1 fun u=>
 asI .i64 u fun v=>OZ 95 [.op [.os (5,0) c,iN o,iN t,iN v,iN n,iN h,iN i,iN j],iN a] fun w x y z A B C E=>(((some ((iN (0)),[.op [.os (5,0) w,iN x,iN y,iN z,iN A,iN B,iN C,iN E]]))))))))))))))))):=by
 exact (yD Tryz.func220 rfl _).trans (by kernel_rfl)
theorem Ip (p0 p1:Int) (p2:List D) (p3 p4:Int) (p5 p6 p7:List D) (p8 p9 p10 p11 p12 p13 p14 p15 p16 p17 p18 p19 p20 p21:Int) (p22:List D):Cz p0 p1 p2 p3 p4 p5 p6 p7 p8 p9 p10 p11 p12 p13 p14 p15 p16 p17 p18 p19 p20 p21 p22 =
 br (decide (p1 < p0))
 (
 br (p12 == 1)
 (Vg 201 [.op [.rs (1,0) p2,iN p3,iN p4]] fun a b c d e f g h=>(((ck5 32 [.agg [.rs (5,0) p5,.rs (4,0) p6,.rs (3,0) p7],(.agg [.rs (5,0) p22,iN p8,iN p9,iN p10,iN p11,iN p12,iN p13,iN p14]),(.agg [.rs (5,0) [.agg [(iN a),iN b,.str c,iN d,iN e]]]),iN (0)] fun i j k l m n o p=>((Cz p0 (w6 (p1 + 1)) f g h p5 p6 p7 j k l m n o p p15 p16 p17 p18 p19 p20 p21 i))))))
 (ck5 89 [.agg [.rs (5,0) p5,.rs (4,0) p6,.rs (3,0) p7],(.agg [.rs (5,0) p22,iN p8,iN p9,iN p10,iN p11,iN p12,iN p13,iN p14])] fun a b c d e f g h=>((Cz p0 (w6 (p1 + 1)) p2 p3 p4 p5 p6 p7 b c d e f g h p15 p16 p17 p18 p19 p20 p21 a))))
 (some ((.agg [.os (5,0) p22,iN p8,iN p9,iN p10,iN p11,iN p12,iN p13,iN p14]),[.op [.rs (1,0) p2,iN p3,iN p4]])):=by
 exact (yC _ _ _).trans (by kernel_rfl)
theorem FE (p0:Int) (p1 p2:List D):zG p0 p1 p2 =
 br (decide (p0 >= 0))
 (
 grd (decide (0 <= p0) && decide (p0 < ni p1.length)) (cT p1 p0.toNat fun a=>
 tk1 a fun b _ _ c d=>(grd (decide (0 <= p0) && decide (p0 < ni p2.length)) (cT p2 p0.toNat fun e=>
 asB e fun f=>br (!f)
 (zG (w6 (p0 - 1)) p1 p2)
 (
 br (b == 5)
 (
 grd (decide (0 <= c) && decide (c < ni p2.length)) (cT p2 c.toNat fun _=>
 nam (List.set p2 c.toNat (D.bool true)) fun g=>
 grd (decide (0 <= d) && decide (d < ni g.length)) (cT g d.toNat fun _=>
 nam (List.set g d.toNat (D.bool true)) fun h=>
 zG (w6 (p0 - 1)) p1 h)))
 (
 br (b == 6)
 (
 br (b == 6)
 (
 grd (decide (0 <= c) && decide (c < ni p2.length)) (cT p2 c.toNat fun _=>
 nam (List.set p2 c.toNat (D.bool true)) fun g=>
 zG (w6 (p0 - 1)) p1 g))
 (zG (w6 (p0 - 1)) p1 p2))
 (
 br (b == 7)
 (
 grd (decide (0 <= c) && decide (c < ni p2.length)) (cT p2 c.toNat fun _=>
 nam (List.set p2 c.toNat (D.bool true)) fun g=>
 zG (w6 (p0 - 1)) p1 g))
 (zG (w6 (p0 - 1)) p1 p2))))))))
 (some ((.os (1,0) p2),[])):=by
 exact (yC _ _ _).trans (by kernel_rfl)
theorem Fx (p0:List D) (p1 p2:Int) (p3 p4 p5 p6:List D):Aq p0 p1 p2 p3 p4 p5 p6 =
 br (decide (p1 < ni p3.length))
 (
 grd (decide (0 <= p1) && decide (p1 < ni p3.length)) (cT p3 p1.toNat fun a=>
 asI .i64 a fun b=>ck2 244 [.op [.os (5,0) p4,.os (4,0) p5,.os (3,0) p6,iN p2],iN b,.rs (1,1) p0] fun c d e f=>(((Aq p0 (w6 (p1 + 1)) f p3 c d e)))))
 (ck1 237 [.op [.os (5,0) p4,.os (4,0) p5,.os (3,0) p6,iN p2],(.agg [iN (7),iN (0),(iN (w6 (ni p3.length - 1))),.str ({ data:=#[] })])] fun _ a b c d=>((some ((.tup []),[.op [.os (5,0) a,.os (4,0) b,.os (3,0) c,iN d]])))):=by
 exact (yC _ _ _).trans (by kernel_rfl)
theorem Fu (p0:List D) (p1 p2:Int) (p3 p4 p5:List D):CM p0 p1 p2 p3 p4 p5 =
 br (decide (p2 < p1))
 (
 grd (decide (0 <= p2) && decide (p2 < ni p0.length)) (cT p0 p2.toNat fun a=>
 tk2 a fun b c d=>(ck6 124 [.str b] fun e=>(br (!e)
 (some ((.bool false),[]))
 (Iv 125 [.agg [.rs (5,0) p3,.rs (4,0) p4,.rs (3,0) p5],.str b] fun f=>(br (f != p2)
 (some ((.bool false),[]))
 (ck6 58 [iN c,iN (0),(iN (w6 (ni p4.length - 1)))] fun g=>(br (!g)
 (some ((.bool false),[]))
 (ck6 58 [iN d,iN (0),iN (4)] fun h=>(br (!h)
 (some ((.bool false),[]))
 (CM p0 p1 (w6 (p2 + 1)) p3 p4 p5)))))))))))
 (some ((.bool true),[])):=by
 exact (yC _ _ _).trans (by kernel_rfl)
theorem IU (p0 p1:Int) (p2:List D) (p3 p4:Int):EW p0 p1 p2 p3 p4 =
 br (decide (p1 < p0))
 (Vg 197 [.op [.rs (1,0) p2,iN p3,iN p4],iN p1] fun a b c d e f g h=>(((zP 158 [.op [.os (5,0) []],.agg [iN a,iN b,.str c,iN d,iN e]] fun _ i=>((Am p0 (w6 (p1 + 1)) f g h i))))))
 (some ((.agg [.os (5,0) []]),[.op [.rs (1,0) p2,iN p3,iN p4]])):=by
 exact (yC _ _ _).trans (by kernel_rfl)
theorem NK (a0_:Int):V 180 [.int .u8 a0_] =
 br (decide (a0_ >= 97))
 (
 br (decide (a0_ <= 122))
 (some ((.bool true),[]))
 (
 br (a0_ == 43)
 (some ((.bool true),[]))
 (
 br (a0_ == 45)
 (some ((.bool true),[]))
 (
 br (a0_ == 42)
 (some ((.bool true),[]))
 (
 br (a0_ == 60)
 (some ((.bool true),[]))
 (
 br (a0_ == 61)
 (some ((.bool true),[]))
 (
 br (a0_ == 63)
 (some ((.bool true),[]))
 (
 br (a0_ == 33)
 (some ((.bool true),[]))
 (some ((.bool (a0_ == 47)),[]))))))))))
 (
 br (a0_ == 43)
 (some ((.bool true),[]))
 (
 br (a0_ == 45)
 (some ((.bool true),[]))
 (
 br (a0_ == 42)
 (some ((.bool true),[]))
 (
 br (a0_ == 60)
 (some ((.bool true),[]))
 (
 br (a0_ == 61)
 (some ((.bool true),[]))
 (
 br (a0_ == 63)
 (some ((.bool true),[]))
 (
 br (a0_ == 33)
 (some ((.bool true),[]))
 (some ((.bool (a0_ == 47)),[]))))))))):=by
 exact (yD Tryz.func180 rfl _).trans (by kernel_rfl)
theorem Gt (p0:Int) (p1:List D):Dn p0 p1 =
 br (decide (p0 < ni p1.length))
 (
 grd (decide (0 <= p0) && decide (p0 < ni p1.length)) (cT p1 p0.toNat fun a=>
 tk1 a fun b c d e f=>(ck6 130 [.agg [iN b,iN c,.str d,iN e,iN f],iN p0] fun g=>(br (!g)
 (some ((.bool false),[]))
 (Dn (w6 (p0 + 1)) p1)))))
 (some ((.bool (decide (ni p1.length <= 3000))),[])):=by
 exact (yC _ _ _).trans (by kernel_rfl)
theorem Ie (p0:List D) (p1 p2:Int):DR p0 p1 p2 =
 br (decide (p2 < ni p0.length))
 (
 br (decide (p2 < 4000))
 (
 grd (decide (0 <= p2) && decide (p2 < ni p0.length)) (cT p0 p2.toNat fun a=>
 asI .u8 a fun b=>DR p0 (w6 (ni (BitVec.toNat (BitVec.ofInt (IntKind.bits IntKind.i64) (w6 (w6 (w6 (p1 * 131) + w6 b) + 7)) &&& BitVec.ofInt (IntKind.bits IntKind.i64) (1073741823))))) (w6 (p2 + 1))))
 (some ((.op [.rs (1,0) p0,iN (0),iN p1]),[])))
 (some ((.op [.rs (1,0) p0,iN (0),iN p1]),[])):=by
 exact (yC _ _ _).trans (by kernel_rfl)
theorem Jp (p0:List D) (p1 p2:Int) (p3 p4 p5:List D):Fh p0 p1 p2 p3 p4 p5 =
 br (decide (p2 < p1))
 (
 grd (decide (0 <= p2) && decide (p2 < ni p0.length)) (cT p0 p2.toNat fun a=>
 asI .i64 a fun b=>grd (decide (0 <= b) && decide (b < ni p3.length)) (cT p3 b.toNat fun c=>
 asI .i64 c fun d=>grd (decide (ni (List.length (p4++[iN d])) <= LIM)) (nam (p4++[iN d]) fun e=>
 Fh p0 p1 (w6 (p2 + 1)) p3 e p5))))
 (some ((.tup [.agg [.os (5,0) p5],.os (1,0) p4]),[])):=by
 exact (yC _ _ _).trans (by kernel_rfl)
theorem Gv (p0:Int) (p1:List D) (p2 p3:Int) (p4:List D):Ah p0 p1 p2 p3 p4 =
 br (decide (p0 < ni p4.length))
 (
 grd (decide (0 <= p0) && decide (p0 < ni p4.length)) (cT p4 p0.toNat fun a=>
 asAgg a fun b=>nam (List.set p4 p0.toNat (D.agg (List.take 0 b++[iN (1)]++List.drop 1 b))) fun c=>
 Ah (w6 (p0 + 1)) p1 p2 p3 c))
 (some ((.agg [.os (5,0) p4]),[.op [.rs (1,0) p1,iN p2,iN p3]])):=by
 exact (yC _ _ _).trans (by kernel_rfl)
theorem EZ (p0:Int) (p1:ByteArray):Ch p0 p1 =
 br (decide (p0 > 0))
 (grd (!decide (10 = 0)) (gy ([D.int IntKind.u8 (IntKind.wrap IntKind.u8 (w6 (48 + Int.tmod p0 (10))))]) fun a=>grd (decide (ni (ByteArray.size a + ByteArray.size p1) <= LIM)) (grd (!decide (10 = 0)) (Ch (w6 (Int.tdiv p0 (10))) (a++p1)))))
 (some ((.str p1),[])):=by
 exact (yC _ _ _).trans (by kernel_rfl)
theorem Gk (p0:ByteArray) (p1 p2:Int):BH p0 p1 p2 =
 br (decide (p2 < p1))
 (grd (decide (0 <= p2) && decide (p2 < ni (ByteArray.size p0))) (ck6 177 [.int .u8 (bt p0 p2)] fun a=>(br (!a)
 (some ((.bool false),[]))
 (BH p0 p1 (w6 (p2 + 1))))))
 (some ((.bool true),[])):=by
 exact (yC _ _ _).trans (by kernel_rfl)
theorem VF (a0_ a1_:Int):V 116 [iN a0_,iN a1_] =
 br (decide (a0_ < a1_))
 (some ((iN a0_),[]))
 (some ((iN a1_),[])):=by
 exact (yD Tryz.func116 rfl _).trans (by kernel_rfl)
theorem Lv (l p:List D):V 188 [.rs (1,0) l,.fn 136 [.bp [.rs (5,0) p]]] =
 Ax l p (ni l.length) (0):=by
 exact (yD Tryz.func188 rfl _).trans (by kernel_rfl)
end Go.Eng
/-! a call and its results,taken in one step -/
namespace Go.Eng
open Go.Proofs
theorem zq {ds:List D} {v2:Int} {v8 v11 v14:List D} {v17:Int} (h:V 237 ds = some (iN v2,[.op [.os (5,0) v8,.os (4,0) v11,.os (3,0) v14,iN v17]])) (K:Int->List D->List D->List D->Int->Option Ret):ck1 237 ds (fun v2 v8 v11 v14 v17=>(((K v2 v8 v11 v14 v17)))) = K v2 v8 v11 v14 v17:=(xh h _).trans rfl
theorem BW {ds v8 v11 v14:List D} {v17:Int} (h:V 244 ds = some (.tup [],[.op [.os (5,0) v8,.os (4,0) v11,.os (3,0) v14,iN v17]])) (K:List D->List D->List D->Int->Option Ret):ck2 244 ds (fun v8 v11 v14 v17=>((((K v8 v11 v14 v17))))) = K v8 v11 v14 v17:=(xh h _).trans rfl
theorem Kv {ds v8 v11 v14:List D} {v17:Int} (h:V 253 ds = some (.tup [],[.op [.os (5,0) v8,.os (4,0) v11,.os (3,0) v14,iN v17]])) (K:List D->List D->List D->Int->Option Ret):ck2 253 ds (fun v8 v11 v14 v17=>((((K v8 v11 v14 v17))))) = K v8 v11 v14 v17:=(xh h _).trans rfl
theorem GJ {ds v8 v11 v14:List D} {v17:Int} (h:V 236 ds = some (.tup [],[.op [.os (5,0) v8,.os (4,0) v11,.os (3,0) v14,iN v17]])) (K:List D->List D->List D->Int->Option Ret):ck2 236 ds (fun v8 v11 v14 v17=>((((K v8 v11 v14 v17))))) = K v8 v11 v14 v17:=(xh h _).trans rfl
theorem CG {ds v5:List D} {v8:Bool} (h:V 228 ds = some (.tup [.os (1,0) v5,.bool v8],[])) (K:List D->Bool->Option Ret):ck3 228 ds (fun v5 v8=>(((K v5 v8)))) = K v5 v8:=(xh h _).trans rfl
theorem Jd {ds v2 v8 v11 v14:List D} {v17:Int} (h:V 231 ds = some (.os (1,0) v2,[.op [.os (5,0) v8,.os (4,0) v11,.os (3,0) v14,iN v17]])) (K:List D->List D->List D->List D->Int->Option Ret):ck4 231 ds (fun v2 v8 v11 v14 v17=>(((K v2 v8 v11 v14 v17)))) = K v2 v8 v11 v14 v17:=(xh h _).trans rfl
theorem Qw {ds v8 v11 v14:List D} {v17:Int} (h:V 254 ds = some (.tup [],[.op [.os (5,0) v8,.os (4,0) v11,.os (3,0) v14,iN v17]])) (K:List D->List D->List D->Int->Option Ret):ck2 254 ds (fun v8 v11 v14 v17=>((((K v8 v11 v14 v17))))) = K v8 v11 v14 v17:=(xh h _).trans rfl
theorem ZG {ds v5:List D} {v8 v11 v14 v17 v20 v23 v26:Int} (h:V 18 ds = some (.agg [.os (5,0) v5,iN v8,iN v11,iN v14,iN v17,iN v20,iN v23,iN v26],[])) (K:List D->Int->Int->Int->Int->Int->Int->Int->Option Ret):ck5 18 ds (fun v5 v8 v11 v14 v17 v20 v23 v26=>(((K v5 v8 v11 v14 v17 v20 v23 v26)))) = K v5 v8 v11 v14 v17 v20 v23 v26:=(xh h _).trans rfl
theorem BV {ds:List D} {v2:Bool} (h:V 60 ds = some (.bool v2,[])) (K:Bool->Option Ret):ck6 60 ds (fun v2=>((K v2))) = K v2:=(xh h _).trans rfl
theorem Jb {ds:List D} {v2:Bool} (h:V 61 ds = some (.bool v2,[])) (K:Bool->Option Ret):ck6 61 ds (fun v2=>((K v2))) = K v2:=(xh h _).trans rfl
theorem Jr {ds:List D} {v2:Bool} (h:V 180 ds = some (.bool v2,[])) (K:Bool->Option Ret):ck6 180 ds (fun v2=>((K v2))) = K v2:=(xh h _).trans rfl
theorem zT {ds:List D} {v2:Bool} (h:V 62 ds = some (.bool v2,[])) (K:Bool->Option Ret):ck6 62 ds (fun v2=>((K v2))) = K v2:=(xh h _).trans rfl
theorem AF {ds:List D} {v2:Int} {v8:List D} {v11:Int} {v14:Bool} (h:V 71 ds = some (iN v2,[.op [.os (1,0) v8,iN v11,.bool v14]])) (K:Int->List D->Int->Bool->Option Ret):ck7 71 ds (fun v2 v8 v11 v14=>(((K v2 v8 v11 v14)))) = K v2 v8 v11 v14:=(xh h _).trans rfl
theorem CT {ds:List D} {v2:Int} {v8:List D} {v11:Int} {v14:Bool} (h:V 114 ds = some (iN v2,[.op [.os (1,0) v8,iN v11,.bool v14]])) (K:Int->List D->Int->Bool->Option Ret):ck7 114 ds (fun v2 v8 v11 v14=>(((K v2 v8 v11 v14)))) = K v2 v8 v11 v14:=(xh h _).trans rfl
theorem MR {ds:List D} {v2:Int} {v8:List D} {v11 v14:Int} (h:V 76 ds = some (iN v2,[.op [.rs (1,0) v8,iN v11,iN v14]])) (K:Int->List D->Int->Int->Option Ret):ck8 76 ds (fun v2 v8 v11 v14=>(((K v2 v8 v11 v14)))) = K v2 v8 v11 v14:=(xh h _).trans rfl
theorem zp {ds v5:List D} (h:V 147 ds = some (.agg [.os (5,0) v5],[])) (K:List D->Option Ret):ck9 147 ds (fun v5=>(((K v5)))) = K v5:=(xh h _).trans rfl
theorem CY {ds:List D} {v2:Int} {v8:List D} (h:V 210 ds = some (iN v2,[.op [.os (5,0) v8]])) (K:Int->List D->Option Ret):zP 210 ds (fun v2 v8=>(((K v2 v8)))) = K v2 v8:=(xh h _).trans rfl
theorem Av {ds:List D} {v2:Bool} (h:V 211 ds = some (.bool v2,[])) (K:Bool->Option Ret):ck6 211 ds (fun v2=>((K v2))) = K v2:=(xh h _).trans rfl
theorem Wx {ds:List D} {v2:Bool} (h:V 56 ds = some (.bool v2,[])) (K:Bool->Option Ret):ck6 56 ds (fun v2=>((K v2))) = K v2:=(xh h _).trans rfl
theorem zi {ds:List D} {v2:Bool} (h:V 58 ds = some (.bool v2,[])) (K:Bool->Option Ret):ck6 58 ds (fun v2=>((K v2))) = K v2:=(xh h _).trans rfl
theorem Wv {ds:List D} {v2:Bool} (h:V 124 ds = some (.bool v2,[])) (K:Bool->Option Ret):ck6 124 ds (fun v2=>((K v2))) = K v2:=(xh h _).trans rfl
theorem Oz {ds:List D} {v2:Bool} (h:V 128 ds = some (.bool v2,[])) (K:Bool->Option Ret):ck6 128 ds (fun v2=>((K v2))) = K v2:=(xh h _).trans rfl
theorem Aa {ds:List D} {v5:Int} {v8:Bool} {v14:List D} {v17 v20 v23 v26 v29 v32 v35:Int} (h:V 218 ds = some (.tup [iN v5,.bool v8],[.op [.os (5,0) v14,iN v17,iN v20,iN v23,iN v26,iN v29,iN v32,iN v35]])) (K:Int->Bool->List D->Int->Int->Int->Int->Int->Int->Int->Option Ret):Ve 218 ds (fun v5 v8 v14 v17 v20 v23 v26 v29 v32 v35=>((((K v5 v8 v14 v17 v20 v23 v26 v29 v32 v35))))) = K v5 v8 v14 v17 v20 v23 v26 v29 v32 v35:=(xh h _).trans rfl
theorem MW {ds:List D} {v2:Int} {v8:List D} {v11 v14 v17 v20 v23 v26 v29:Int} (h:V 233 ds = some (iN v2,[.op [.os (5,0) v8,iN v11,iN v14,iN v17,iN v20,iN v23,iN v26,iN v29]])) (K:Int->List D->Int->Int->Int->Int->Int->Int->Int->Option Ret):Lu 233 ds (fun v2 v8 v11 v14 v17 v20 v23 v26 v29=>(((K v2 v8 v11 v14 v17 v20 v23 v26 v29)))) = K v2 v8 v11 v14 v17 v20 v23 v26 v29:=(xh h _).trans rfl
theorem Ww {ds:List D} {v2:Bool} (h:V 55 ds = some (.bool v2,[])) (K:Bool->Option Ret):ck6 55 ds (fun v2=>((K v2))) = K v2:=(xh h _).trans rfl
theorem Fi {ds:List D} {v2:Int} (h:V 188 ds = some (iN v2,[])) (K:Int->Option Ret):Iv 188 ds (fun v2=>((K v2))) = K v2:=(xh h _).trans rfl
theorem RB {ds:List D} {v8 v11:Int} {v14:ByteArray} {v17 v20 v23:Int} (h:V 250 ds = some (.tup [.agg [iN v8,iN v11,.str v14,iN v17,iN v20],iN v23],[])) (K:Int->Int->ByteArray->Int->Int->Int->Option Ret):abg 250 ds (fun v8 v11 v14 v17 v20 v23=>((((K v8 v11 v14 v17 v20 v23))))) = K v8 v11 v14 v17 v20 v23:=(xh h _).trans rfl
theorem y1 {ds:List D} {v2:Int} {v8:List D} (h:V 158 ds = some (iN v2,[.op [.os (5,0) v8]])) (K:Int->List D->Option Ret):zP 158 ds (fun v2 v8=>(((K v2 v8)))) = K v2 v8:=(xh h _).trans rfl
theorem CZ {ds:List D} {v5 v8:Int} {v11:ByteArray} {v14 v17:Int} (h:V 251 ds = some (.agg [iN v5,iN v8,.str v11,iN v14,iN v17],[])) (K:Int->Int->ByteArray->Int->Int->Option Ret):PE 251 ds (fun v5 v8 v11 v14 v17=>(((K v5 v8 v11 v14 v17)))) = K v5 v8 v11 v14 v17:=(xh h _).trans rfl
theorem Qv {ds v2:List D} (h:V 252 ds = some (.os (1,0) v2,[])) (K:List D->Option Ret):zA 252 ds (fun v2=>((K v2))) = K v2:=(xh h _).trans rfl
theorem GH {ds:List D} {v2:Int} {v8:List D} (h:V 157 ds = some (iN v2,[.op [.os (5,0) v8]])) (K:Int->List D->Option Ret):zP 157 ds (fun v2 v8=>(((K v2 v8)))) = K v2 v8:=(xh h _).trans rfl
theorem Af {ds:List D} {v5:ByteArray} {v8:Bool} (h:V 20 ds = some (.tup [.str v5,.bool v8],[])) (K:ByteArray->Bool->Option Ret):PF 20 ds (fun v5 v8=>(((K v5 v8)))) = K v5 v8:=(xh h _).trans rfl
theorem JU {ds:List D} {v2:Bool} (h:V 15 ds = some (.bool v2,[])) (K:Bool->Option Ret):ck6 15 ds (fun v2=>((K v2))) = K v2:=(xh h _).trans rfl
theorem MY {ds v2:List D} (h:V 149 ds = some (.os (1,0) v2,[])) (K:List D->Option Ret):zA 149 ds (fun v2=>((K v2))) = K v2:=(xh h _).trans rfl
theorem OG {ds v2 v8:List D} (h:V 148 ds = some (.os (1,0) v2,[.op [.os (5,0) v8]])) (K:List D->List D->Option Ret):Xq 148 ds (fun v2 v8=>(((K v2 v8)))) = K v2 v8:=(xh h _).trans rfl
theorem MU {ds:List D} {v2:Bool} (h:V 226 ds = some (.bool v2,[])) (K:Bool->Option Ret):ck6 226 ds (fun v2=>((K v2))) = K v2:=(xh h _).trans rfl
theorem Gh {ds:List D} {v2:Int} (h:V 221 ds = some (iN v2,[])) (K:Int->Option Ret):Iv 221 ds (fun v2=>((K v2))) = K v2:=(xh h _).trans rfl
theorem UI {ds v2:List D} (h:V 239 ds = some (.os (1,0) v2,[])) (K:List D->Option Ret):zA 239 ds (fun v2=>((K v2))) = K v2:=(xh h _).trans rfl
theorem Qu {ds:List D} {v2:Int} (h:V 129 ds = some (iN v2,[])) (K:Int->Option Ret):Iv 129 ds (fun v2=>((K v2))) = K v2:=(xh h _).trans rfl
theorem Au {ds v8:List D} {v11 v14 v17 v20 v23 v26 v29:Int} {v32:Bool} (h:V 78 ds = some (.tup [.agg [.os (5,0) v8,iN v11,iN v14,iN v17,iN v20,iN v23,iN v26,iN v29],.bool v32],[])) (K:List D->Int->Int->Int->Int->Int->Int->Int->Bool->Option Ret):JB 78 ds (fun v8 v11 v14 v17 v20 v23 v26 v29 v32=>((((K v8 v11 v14 v17 v20 v23 v26 v29 v32))))) = K v8 v11 v14 v17 v20 v23 v26 v29 v32:=(xh h _).trans rfl
theorem FU {ds v8:List D} {v11 v14 v17 v20 v23 v26 v29:Int} {v32:Bool} (h:V 171 ds = some (.tup [.agg [.os (5,0) v8,iN v11,iN v14,iN v17,iN v20,iN v23,iN v26,iN v29],.bool v32],[])) (K:List D->Int->Int->Int->Int->Int->Int->Int->Bool->Option Ret):JB 171 ds (fun v8 v11 v14 v17 v20 v23 v26 v29 v32=>((((K v8 v11 v14 v17 v20 v23 v26 v29 v32))))) = K v8 v11 v14 v17 v20 v23 v26 v29 v32:=(xh h _).trans rfl
theorem BX {ds v5:List D} {v8 v11 v14 v17 v20 v23 v26:Int} (h:V 85 ds = some (.agg [.os (5,0) v5,iN v8,iN v11,iN v14,iN v17,iN v20,iN v23,iN v26],[])) (K:List D->Int->Int->Int->Int->Int->Int->Int->Option Ret):ck5 85 ds (fun v5 v8 v11 v14 v17 v20 v23 v26=>(((K v5 v8 v11 v14 v17 v20 v23 v26)))) = K v5 v8 v11 v14 v17 v20 v23 v26:=(xh h _).trans rfl
theorem OD {ds:List D} {v2:Int} {v8:List D} (h:V 96 ds = some (iN v2,[.op [.os (5,0) v8]])) (K:Int->List D->Option Ret):zP 96 ds (fun v2 v8=>(((K v2 v8)))) = K v2 v8:=(xh h _).trans rfl
theorem Aj {ds v8:List D} {v11 v14 v17 v20 v23 v26 v29:Int} (h:V 95 ds = some (.tup [],[.op [.os (5,0) v8,iN v11,iN v14,iN v17,iN v20,iN v23,iN v26,iN v29]])) (K:List D->Int->Int->Int->Int->Int->Int->Int->Option Ret):OZ 95 ds (fun v8 v11 v14 v17 v20 v23 v26 v29=>((((K v8 v11 v14 v17 v20 v23 v26 v29))))) = K v8 v11 v14 v17 v20 v23 v26 v29:=(xh h _).trans rfl
theorem Eh {ds v5:List D} {v8 v11 v14 v17 v20 v23 v26:Int} (h:V 97 ds = some (.agg [.os (5,0) v5,iN v8,iN v11,iN v14,iN v17,iN v20,iN v23,iN v26],[])) (K:List D->Int->Int->Int->Int->Int->Int->Int->Option Ret):ck5 97 ds (fun v5 v8 v11 v14 v17 v20 v23 v26=>(((K v5 v8 v11 v14 v17 v20 v23 v26)))) = K v5 v8 v11 v14 v17 v20 v23 v26:=(xh h _).trans rfl
theorem GI {ds:List D} {v8 v11:Int} {v14:ByteArray} {v17 v20:Int} {v23:Bool} (h:V 212 ds = some (.tup [.agg [iN v8,iN v11,.str v14,iN v17,iN v20],.bool v23],[])) (K:Int->Int->ByteArray->Int->Int->Bool->Option Ret):PG 212 ds (fun v8 v11 v14 v17 v20 v23=>((((K v8 v11 v14 v17 v20 v23))))) = K v8 v11 v14 v17 v20 v23:=(xh h _).trans rfl
theorem Ae {ds:List D} {v5:ByteArray} {v8:Bool} (h:V 19 ds = some (.tup [.str v5,.bool v8],[])) (K:ByteArray->Bool->Option Ret):PF 19 ds (fun v5 v8=>(((K v5 v8)))) = K v5 v8:=(xh h _).trans rfl
theorem GT {ds:List D} {v2:ByteArray} (h:V 202 ds = some (.str v2,[])) (K:ByteArray->Option Ret):Vf 202 ds (fun v2=>((K v2))) = K v2:=(xh h _).trans rfl
theorem Pe {ds v5 v11:List D} {v14:Int} {v17:Bool} (h:V 72 ds = some (.agg [.os (5,0) v5],[.op [.os (1,0) v11,iN v14,.bool v17]])) (K:List D->List D->Int->Bool->Option Ret):Zi 72 ds (fun v5 v11 v14 v17=>((((K v5 v11 v14 v17))))) = K v5 v11 v14 v17:=(xh h _).trans rfl
theorem CH {ds v8 v11 v14:List D} {v17:Int} (h:V 229 ds = some (.tup [],[.op [.os (5,0) v8,.os (4,0) v11,.os (3,0) v14,iN v17]])) (K:List D->List D->List D->Int->Option Ret):ck2 229 ds (fun v8 v11 v14 v17=>((((K v8 v11 v14 v17))))) = K v8 v11 v14 v17:=(xh h _).trans rfl
theorem OC {ds:List D} {v5:ByteArray} {v8:Bool} {v14 v17 v20:List D} {v23:Int} (h:V 230 ds = some (.tup [.str v5,.bool v8],[.op [.os (5,0) v14,.os (4,0) v17,.os (3,0) v20,iN v23]])) (K:ByteArray->Bool->List D->List D->List D->Int->Option Ret):aad 230 ds (fun v5 v8 v14 v17 v20 v23=>((((K v5 v8 v14 v17 v20 v23))))) = K v5 v8 v14 v17 v20 v23:=(xh h _).trans rfl
theorem aaG {ds:List D} {v2:Bool} (h:V 12 ds = some (.bool v2,[])) (K:Bool->Option Ret):ck6 12 ds (fun v2=>((K v2))) = K v2:=(xh h _).trans rfl
theorem Ox {ds:List D} {v2:Bool} (h:V 59 ds = some (.bool v2,[])) (K:Bool->Option Ret):ck6 59 ds (fun v2=>((K v2))) = K v2:=(xh h _).trans rfl
theorem WH {ds v5:List D} {v8 v11 v14 v17 v20 v23 v26:Int} (h:V 153 ds = some (.agg [.os (5,0) v5,iN v8,iN v11,iN v14,iN v17,iN v20,iN v23,iN v26],[])) (K:List D->Int->Int->Int->Int->Int->Int->Int->Option Ret):ck5 153 ds (fun v5 v8 v11 v14 v17 v20 v23 v26=>(((K v5 v8 v11 v14 v17 v20 v23 v26)))) = K v5 v8 v11 v14 v17 v20 v23 v26:=(xh h _).trans rfl
theorem XX {ds v8 v11 v14:List D} {v17:Int} (h:V 215 ds = some (.tup [],[.op [.os (5,0) v8,.os (4,0) v11,.os (3,0) v14,iN v17]])) (K:List D->List D->List D->Int->Option Ret):ck2 215 ds (fun v8 v11 v14 v17=>((((K v8 v11 v14 v17))))) = K v8 v11 v14 v17:=(xh h _).trans rfl
theorem Qt {ds:List D} {v2:Bool} (h:V 136 ds = some (.bool v2,[])) (K:Bool->Option Ret):ck6 136 ds (fun v2=>((K v2))) = K v2:=(xh h _).trans rfl
theorem EO {ds:List D} {v2:Bool} (h:V 238 ds = some (.bool v2,[])) (K:Bool->Option Ret):ck6 238 ds (fun v2=>((K v2))) = K v2:=(xh h _).trans rfl
theorem Qx {ds:List D} {v5 v8:Int} (h:V 248 ds = some (.tup [iN v5,iN v8],[])) (K:Int->Int->Option Ret):Zj 248 ds (fun v5 v8=>(((K v5 v8)))) = K v5 v8:=(xh h _).trans rfl
theorem WC {ds v8 v11 v14:List D} {v17:Int} (h:V 249 ds = some (.tup [],[.op [.os (5,0) v8,.os (4,0) v11,.os (3,0) v14,iN v17]])) (K:List D->List D->List D->Int->Option Ret):ck2 249 ds (fun v8 v11 v14 v17=>((((K v8 v11 v14 v17))))) = K v8 v11 v14 v17:=(xh h _).trans rfl
theorem WG {ds:List D} {v2:Int} {v8:List D} {v11 v14 v17 v20 v23 v26 v29:Int} (h:V 240 ds = some (iN v2,[.op [.os (5,0) v8,iN v11,iN v14,iN v17,iN v20,iN v23,iN v26,iN v29]])) (K:Int->List D->Int->Int->Int->Int->Int->Int->Int->Option Ret):Lu 240 ds (fun v2 v8 v11 v14 v17 v20 v23 v26 v29=>(((K v2 v8 v11 v14 v17 v20 v23 v26 v29)))) = K v2 v8 v11 v14 v17 v20 v23 v26 v29:=(xh h _).trans rfl
theorem Ck {ds:List D} {v5:Int} {v8:List D} {v11:Bool} (h:V 234 ds = some (.tup [iN v5,.os (1,0) v8,.bool v11],[])) (K:Int->List D->Bool->Option Ret):aae 234 ds (fun v5 v8 v11=>(((K v5 v8 v11)))) = K v5 v8 v11:=(xh h _).trans rfl
theorem ZH {ds v5:List D} {v8 v11 v14 v17 v20 v23 v26:Int} (h:V 89 ds = some (.agg [.os (5,0) v5,iN v8,iN v11,iN v14,iN v17,iN v20,iN v23,iN v26],[])) (K:List D->Int->Int->Int->Int->Int->Int->Int->Option Ret):ck5 89 ds (fun v5 v8 v11 v14 v17 v20 v23 v26=>(((K v5 v8 v11 v14 v17 v20 v23 v26)))) = K v5 v8 v11 v14 v17 v20 v23 v26:=(xh h _).trans rfl
theorem XU {ds v2:List D} (h:V 189 ds = some (.os (1,0) v2,[])) (K:List D->Option Ret):zA 189 ds (fun v2=>((K v2))) = K v2:=(xh h _).trans rfl
theorem DL {ds:List D} {v2:Bool} (h:V 135 ds = some (.bool v2,[])) (K:Bool->Option Ret):ck6 135 ds (fun v2=>((K v2))) = K v2:=(xh h _).trans rfl
theorem Wz {ds v5:List D} {v8 v11 v14 v17 v20 v23 v26:Int} (h:V 32 ds = some (.agg [.os (5,0) v5,iN v8,iN v11,iN v14,iN v17,iN v20,iN v23,iN v26],[])) (K:List D->Int->Int->Int->Int->Int->Int->Int->Option Ret):ck5 32 ds (fun v5 v8 v11 v14 v17 v20 v23 v26=>(((K v5 v8 v11 v14 v17 v20 v23 v26)))) = K v5 v8 v11 v14 v17 v20 v23 v26:=(xh h _).trans rfl
theorem WJ {ds v5 v11:List D} {v14:Int} {v17:Bool} (h:V 115 ds = some (.agg [.os (5,0) v5],[.op [.os (1,0) v11,iN v14,.bool v17]])) (K:List D->List D->Int->Bool->Option Ret):Zi 115 ds (fun v5 v11 v14 v17=>((((K v5 v11 v14 v17))))) = K v5 v11 v14 v17:=(xh h _).trans rfl
theorem Oc {ds:List D} {v2:Int} {v8:List D} {v11 v14 v17 v20 v23 v26 v29:Int} (h:V 196 ds = some (iN v2,[.op [.os (5,0) v8,iN v11,iN v14,iN v17,iN v20,iN v23,iN v26,iN v29]])) (K:Int->List D->Int->Int->Int->Int->Int->Int->Int->Option Ret):Lu 196 ds (fun v2 v8 v11 v14 v17 v20 v23 v26 v29=>(((K v2 v8 v11 v14 v17 v20 v23 v26 v29)))) = K v2 v8 v11 v14 v17 v20 v23 v26 v29:=(xh h _).trans rfl
theorem Sn {ds v8 v11:List D} {v14 v17:Int} (h:V 191 ds = some (.tup [.agg [.os (5,0) v8],.os (1,0) v11,iN v14,iN v17],[])) (K:List D->List D->Int->Int->Option Ret):aaf 191 ds (fun v8 v11 v14 v17=>((((K v8 v11 v14 v17))))) = K v8 v11 v14 v17:=(xh h _).trans rfl
theorem MQ {ds v8 v11 v14:List D} {v17 v20:Int} (h:V 193 ds = some (.tup [.agg [.os (5,0) v8,.os (4,0) v11,.os (3,0) v14],iN v17,iN v20],[])) (K:List D->List D->List D->Int->Int->Option Ret):aag 193 ds (fun v8 v11 v14 v17 v20=>((((K v8 v11 v14 v17 v20))))) = K v8 v11 v14 v17 v20:=(xh h _).trans rfl
theorem Wy {ds:List D} {v2:Bool} (h:V 126 ds = some (.bool v2,[])) (K:Bool->Option Ret):ck6 126 ds (fun v2=>((K v2))) = K v2:=(xh h _).trans rfl
theorem EU {ds:List D} {v2:Bool} (h:V 203 ds = some (.bool v2,[])) (K:Bool->Option Ret):ck6 203 ds (fun v2=>((K v2))) = K v2:=(xh h _).trans rfl
theorem Qr {ds v2 v8:List D} (h:V 137 ds = some (.os (1,0) v2,[.op [.os (5,0) v8]])) (K:List D->List D->Option Ret):Xq 137 ds (fun v2 v8=>(((K v2 v8)))) = K v2 v8:=(xh h _).trans rfl
theorem Je {ds:List D} {v5:Int} {v8:Bool} (h:V 216 ds = some (.tup [iN v5,.bool v8],[])) (K:Int->Bool->Option Ret):Xr 216 ds (fun v5 v8=>(((K v5 v8)))) = K v5 v8:=(xh h _).trans rfl
theorem KZ {ds:List D} {v2:Int} {v8:List D} {v11 v14 v17 v20 v23 v26 v29:Int} (h:V 217 ds = some (iN v2,[.op [.os (5,0) v8,iN v11,iN v14,iN v17,iN v20,iN v23,iN v26,iN v29]])) (K:Int->List D->Int->Int->Int->Int->Int->Int->Int->Option Ret):Lu 217 ds (fun v2 v8 v11 v14 v17 v20 v23 v26 v29=>(((K v2 v8 v11 v14 v17 v20 v23 v26 v29)))) = K v2 v8 v11 v14 v17 v20 v23 v26 v29:=(xh h _).trans rfl
theorem WE {ds:List D} {v2:Int} {v8:List D} {v11 v14 v17 v20 v23 v26 v29:Int} (h:V 219 ds = some (iN v2,[.op [.os (5,0) v8,iN v11,iN v14,iN v17,iN v20,iN v23,iN v26,iN v29]])) (K:Int->List D->Int->Int->Int->Int->Int->Int->Int->Option Ret):Lu 219 ds (fun v2 v8 v11 v14 v17 v20 v23 v26 v29=>(((K v2 v8 v11 v14 v17 v20 v23 v26 v29)))) = K v2 v8 v11 v14 v17 v20 v23 v26 v29:=(xh h _).trans rfl
theorem WD {ds:List D} {v2:Int} {v8:List D} {v11 v14 v17 v20 v23 v26 v29:Int} (h:V 220 ds = some (iN v2,[.op [.os (5,0) v8,iN v11,iN v14,iN v17,iN v20,iN v23,iN v26,iN v29]])) (K:Int->List D->Int->Int->Int->Int->Int->Int->Int->Option Ret):Lu 220 ds (fun v2 v8 v11 v14 v17 v20 v23 v26 v29=>(((K v2 v8 v11 v14 v17 v20 v23 v26 v29)))) = K v2 v8 v11 v14 v17 v20 v23 v26 v29:=(xh h _).trans rfl
theorem DK {ds v8:List D} {v11 v14 v17 v20 v23 v26 v29:Int} {v32:Bool} (h:V 21 ds = some (.tup [.agg [.os (5,0) v8,iN v11,iN v14,iN v17,iN v20,iN v23,iN v26,iN v29],.bool v32],[])) (K:List D->Int->Int->Int->Int->Int->Int->Int->Bool->Option Ret):JB 21 ds (fun v8 v11 v14 v17 v20 v23 v26 v29 v32=>((((K v8 v11 v14 v17 v20 v23 v26 v29 v32))))) = K v8 v11 v14 v17 v20 v23 v26 v29 v32:=(xh h _).trans rfl
theorem RA {ds:List D} {v2:Int} (h:V 245 ds = some (iN v2,[])) (K:Int->Option Ret):Iv 245 ds (fun v2=>((K v2))) = K v2:=(xh h _).trans rfl
theorem Sp {ds:List D} {v5 v8:Int} {v14:List D} (h:V 246 ds = some (.tup [iN v5,iN v8],[.op [.os (5,0) v14]])) (K:Int->Int->List D->Option Ret):abh 246 ds (fun v5 v8 v14=>((((K v5 v8 v14))))) = K v5 v8 v14:=(xh h _).trans rfl
theorem WA {ds:List D} {v2:Int} (h:V 232 ds = some (iN v2,[])) (K:Int->Option Ret):Iv 232 ds (fun v2=>((K v2))) = K v2:=(xh h _).trans rfl
theorem Ef {ds:List D} {v2:Int} {v8:List D} {v11 v14:Int} (h:V 143 ds = some (iN v2,[.op [.rs (1,0) v8,iN v11,iN v14]])) (K:Int->List D->Int->Int->Option Ret):ck8 143 ds (fun v2 v8 v11 v14=>(((K v2 v8 v11 v14)))) = K v2 v8 v11 v14:=(xh h _).trans rfl
theorem XW {ds:List D} {v5:Int} {v8:Bool} (h:V 227 ds = some (.tup [iN v5,.bool v8],[])) (K:Int->Bool->Option Ret):Xr 227 ds (fun v5 v8=>(((K v5 v8)))) = K v5 v8:=(xh h _).trans rfl
theorem IG {ds v8:List D} {v11 v14 v17 v20 v23 v26 v29:Int} {v32:Bool} (h:V 45 ds = some (.tup [.agg [.os (5,0) v8,iN v11,iN v14,iN v17,iN v20,iN v23,iN v26,iN v29],.bool v32],[])) (K:List D->Int->Int->Int->Int->Int->Int->Int->Bool->Option Ret):JB 45 ds (fun v8 v11 v14 v17 v20 v23 v26 v29 v32=>((((K v8 v11 v14 v17 v20 v23 v26 v29 v32))))) = K v8 v11 v14 v17 v20 v23 v26 v29 v32:=(xh h _).trans rfl
theorem WB {ds:List D} {v2:Bool} (h:V 130 ds = some (.bool v2,[])) (K:Bool->Option Ret):ck6 130 ds (fun v2=>((K v2))) = K v2:=(xh h _).trans rfl
theorem Pd {ds:List D} {v2:Bool} (h:V 177 ds = some (.bool v2,[])) (K:Bool->Option Ret):ck6 177 ds (fun v2=>((K v2))) = K v2:=(xh h _).trans rfl
end Go.Eng
/-! nodes and pools: when they are right,on both sides -/
namespace Go.Eng
noncomputable section
open Go.Proofs Go.Proofs.Tryz

theorem zd (b c : Bool) (l : List D) : br b (some (D.bool c,l)) (some (D.bool false,l)) = some (D.bool (b && c),l) := by cases b <;> rfl
theorem aac (b c : Bool) (l : List D) : br b (some (D.bool true,l)) (some (D.bool c,l)) = some (D.bool (b || c),l) := by cases b <;> rfl
theorem Km (b c : Bool) (l : List D) : br b (some (D.bool false,l)) (some (D.bool c,l)) = some (D.bool (!b && c),l) := by cases b <;> rfl

structure Nd where
 kind : Int
 n : Int
 s : ByteArray
 a : Int
 b : Int
abbrev eN (x : Nd) : D := .agg [iN x.kind,iN x.n,.str x.s,iN x.a,iN x.b]
section
variable {R : Type}
theorem JR (x : Nd) (K : Int -> Int -> ByteArray -> Int -> Int -> Option R) : tk1 (eN x) (fun n4 n7 s10 n13 n16 => (K n4 n7 s10 n13 n16)) = K x.kind x.n x.s x.a x.b := rfl
theorem ada (x : Nd) (K : Int -> Option R) : asAgg (eN x) (fun l => cT l 0 fun y => asI .i64 y fun n => K n) = K x.kind := rfl
theorem adb (x : Nd) (K : Int -> Option R) : asAgg (eN x) (fun l => cT l 1 fun y => asI .i64 y fun n => K n) = K x.n := rfl
theorem adc (x : Nd) (K : ByteArray -> Option R) : asAgg (eN x) (fun l => cT l 2 fun y => asS y fun n => K n) = K x.s := rfl
theorem ade (x : Nd) (K : Int -> Option R) : asAgg (eN x) (fun l => cT l 3 fun y => asI .i64 y fun n => K n) = K x.a := rfl
theorem adf (x : Nd) (K : Int -> Option R) : asAgg (eN x) (fun l => cT l 4 fun y => asI .i64 y fun n => K n) = K x.b := rfl
end

theorem zk (n lo hi : Int) : V 58 [iN n,iN lo,iN hi] = some (.bool (wi n lo hi),[]) := (Tt n lo hi).trans xG
theorem Al (n lo hi : Int) : V 62 [iN n,iN lo,iN hi] = some (.bool (wi n lo hi),[]) := (XG n lo hi).trans xG
theorem U6 (a b : Int) : V 116 [iN a,iN b] = some (iN (mnI a b),[]) := by
 rw [VF]
 unfold mnI
 by_cases h : a < b
 ·rw [xK (decide_eq_true h),if_neg (by omega)]
 ·rw [xb (decide_eq_false h)]
  by_cases h2 : b < a
  ·rw [if_pos h2]
  ·rw [if_neg h2,show b = a by omega]

def nmB (c : Int) : Bool := (decide (c >= 97) && decide (c <= 122)) || [43,45,42,60,61,63,33,47].any fun x => c == x
theorem Qg {l : List Int} (hl : l.length < 4611686018427387904) (c : Int) : ∀ (k i : Nat),i + k = l.length -> zQ (l.map (D.int .u8)) c (ni (l.map (D.int .u8)).length) (i : Int) = some (iN (dQ (fun x => c == x) l i),[])
 | 0,i,hi => by
  rw [Bj,xb (by rw [lnM]; exact yr (by omega)),w8 (by omega)]
 | k + 1,i,hi => by
  obtain ⟨x,hx⟩ := xx (l := l) (i := i) (by omega)
  have ih := Qg hl c k (i + 1) (by omega)
  rw [Bj,xK (by rw [lnM]; exact yz (by omega)),yu (by rw [lnM]; exact yx (by omega)),Int.toNat_natCast,xW hx,ye]
  cases h : c == x with
  | true => rw [yk,w9 hx h]
  | false => rw [xJ,yM (by omega),ih,wJ hx h]
theorem aaL {l : List Int} {c : Int} : decide (ya (fun x => c == x) l >= 0) = l.any fun x => c == x := by
 unfold ya
 cases h : l.findIdx? fun x => c == x with
 | none =>
  have := List.findIdx?_eq_none_iff.1 h
  symm
  simpa [List.any_eq_false] using this
 | some k =>
  have h2 : (l.any fun x => c == x) = true := by
   rw [List.findIdx?_eq_some_iff_getElem] at h
   obtain ⟨hk,h3,_⟩ := h
   exact List.any_eq_true.2 ⟨l[k],List.getElem_mem hk,h3⟩
  rw [h2]
  simp
theorem Yj {l : List Int} (hl : l.length < 4611686018427387904) (c : Int) : V 203 [.rs (1,0) (l.map (D.int .u8)),.int .u8 c] = some (.bool (l.any fun x => c == x),[]) := by
 have h : V 221 [.rs (1,0) (l.map (D.int .u8)),.int .u8 c] = some (iN (ya (fun x => c == x) l),[]) := by
  rw [Iz,<- wK]
  exact Qg hl c l.length 0 (Nat.zero_add _)
 rw [FK,Gh h,aaL]
theorem U5 (c : Int) : V 177 [.int .u8 c] = some (.bool (nmB c),[]) := by
 have h := Yj (l := [43,45,42,60,61,63,33,47]) (by simp) c
 simp only [List.map_cons,List.map_nil] at h
 rw [NB,yu (by decide),EU h]
 unfold nmB
 cases decide (c >= 97) <;> cases decide (c <= 122) <;> rfl
theorem Nj (c : Int) : V 180 [.int .u8 c] = some (.bool (nmB c),[]) := by
 rw [NK]
 simp only [aac,nmB,List.any_cons,List.any_nil,Bool.or_false]
 cases decide (c >= 97) <;> cases decide (c <= 122) <;> rfl

def UF (s : ByteArray) : Nat -> Nat -> Bool
 | _,0 => true
 | i,k + 1 => nmB (bt s i) && UF s (i + 1) k
def Jy (s : ByteArray) : Bool := wi s.size 1 12 && UF s 0 s.size
theorem JN {s : ByteArray} (hl : s.size < 4611686018427387904) : ∀ (k i : Nat),i + k = s.size -> BH s (ni s.size) (i : Int) = some (.bool (UF s i k),[])
 | 0,i,hi => by rw [Gk,xb (yr (by omega))]; rfl
 | k + 1,i,hi => by
  rw [Gk,xK (yz (by omega)),yu (yx (by omega)),Pd (U5 _),yM (by omega),JN hl k (i + 1) (by omega),Km,Bool.not_not]
  rfl
theorem J8 {s : ByteArray} (hl : s.size < 4611686018427387904) : ∀ (k i : Nat),i + k = s.size -> BJ s (i : Int) = some (.bool (UF s i k && wi s.size 1 12),[])
 | 0,i,hi => by rw [Gr,xb (yr (by omega)),zT (Al _ _ _)]; rfl
 | k + 1,i,hi => by
  rw [Gr,xK (yz (by omega)),yu (yx (by omega)),Jr (Nj _),yM (by omega),J8 hl k (i + 1) (by omega),Km,Bool.not_not,<- Bool.and_assoc]
  rfl
theorem GX {s : ByteArray} (hl : s.size < 4611686018427387904) : V 124 [.str s] = some (.bool (Jy s),[]) := by
 have h : BH s (ni s.size) 0 = _ := JN hl s.size 0 (Nat.zero_add _)
 rw [Tj,zi (zk _ _ _),h,Km,Bool.not_not]
 rfl
theorem D0 {s : ByteArray} (hl : s.size < 4611686018427387904) : V 128 [.str s] = some (.bool (Jy s),[]) := by
 have h : BJ s 0 = _ := J8 hl s.size 0 (Nat.zero_add _)
 rw [Tz,h,Bool.and_comm]
 rfl

def nz (s : ByteArray) : Bool := kc s ⟨#[]⟩
def okN (x : Nd) (h : Int) : Bool :=
 if x.kind = 1 then wi x.n 0 0 && (nz x.s && (x.a == 0 && x.b == 0))
 else if x.kind = 2 then wi x.n 0 1 && (nz x.s && (x.a == 0 && x.b == 0))
 else if x.kind = 3 then wi x.n (-1000000000) 1000000000 && (nz x.s && (x.a == 0 && x.b == 0))
 else if x.kind = 4 then wi x.n 0 0 && (Jy x.s && (x.a == 0 && x.b == 0))
 else if x.kind = 5 then wi x.n 0 0 && (nz x.s && (wi x.a 0 (h - 1) && wi x.b 0 (h - 1)))
 else if x.kind = 6 then wi x.n 0 1000000000 && (nz x.s && (wi x.a 0 (h - 1) && x.b == 0))
 else if x.kind = 7 then wi x.n 0 0 && (nz x.s && (wi x.a 0 (h - 1) && x.b == 0))
 else if x.kind = 8 then wi x.n 0 99 && (nz x.s && (x.a == 0 && x.b == 0))
 else if x.kind = 9 then wi x.n 0 1000000000 && (nz x.s && (x.a == 0 && x.b == 0))
 else false
theorem abF (n : Int) : wi n 0 0 = (n == 0) := by
 unfold wi
 by_cases h : n = 0
 ·subst h; rfl
 ·have : (n == 0) = false := by simp [h]
  rw [this]
  simp; omega

theorem RH {x : Nd} (hs : x.s.size < 4611686018427387904) {h : Int} (h0 : -4611686018427387904 < h) (h1 : h < 4611686018427387904) : V 126 [eN x,iN h] = some (.bool (okN x h),[]) := by
 rw [Tp,w64 (n := h - 1) (by omega) (by omega)]
 unfold okN
 by_cases e1 : x.kind = 1
 ·rw [xK (by simp [e1]),if_pos e1,zi (zk _ _ _)]; simp only [zd]; rfl
 rw [xb (by simp [e1]),if_neg e1]
 by_cases e2 : x.kind = 2
 ·rw [xK (by simp [e2]),if_pos e2,zi (zk _ _ _)]; simp only [zd]; rfl
 rw [xb (by simp [e2]),if_neg e2]
 by_cases e3 : x.kind = 3
 ·rw [xK (by simp [e3]),if_pos e3,zi (zk _ _ _)]; simp only [zd]; rfl
 rw [xb (by simp [e3]),if_neg e3]
 by_cases e4 : x.kind = 4
 ·rw [xK (by simp [e4]),if_pos e4,Wv (GX hs),zi (zk _ _ _)]; simp only [zd]
 rw [xb (by simp [e4]),if_neg e4]
 by_cases e5 : x.kind = 5
 ·rw [xK (by simp [e5]),if_pos e5,zi (zk _ _ _),zi (zk _ _ _),zi (zk _ _ _)]; simp only [zd]; rfl
 rw [xb (by simp [e5]),if_neg e5]
 by_cases e6 : x.kind = 6
 ·rw [xK (by simp [e6]),if_pos e6,zi (zk _ _ _),zi (zk _ _ _)]; simp only [zd]; rfl
 rw [xb (by simp [e6]),if_neg e6]
 by_cases e7 : x.kind = 7
 ·rw [xK (by simp [e7]),if_pos e7,zi (zk _ _ _),zi (zk _ _ _)]; simp only [zd]; rfl
 rw [xb (by simp [e7]),if_neg e7]
 by_cases e8 : x.kind = 8
 ·rw [xK (by simp [e8]),if_pos e8,zi (zk _ _ _)]; simp only [zd]; rfl
 rw [xb (by simp [e8]),if_neg e8]
 by_cases e9 : x.kind = 9
 ·rw [xK (by simp [e9]),if_pos e9,zi (zk _ _ _)]; simp only [zd]; rfl
 rw [xb (by simp [e9]),if_neg e9]

theorem aa1 {x : Nd} (hs : x.s.size < 4611686018427387904) {h : Int} (h0 : -4611686018427387904 < h) (h1 : h < 4611686018427387904) : V 130 [eN x,iN h] = some (.bool (okN x h),[]) := by
 rw [TP,w64 (n := h - 1) (by omega) (by omega),zT (Al _ _ _),zT (Al _ _ _)]
 unfold okN
 have hss : kc x.s x.s = true := by rw [Bv]; simp
 by_cases e1 : x.kind = 1
 ·rw [xK (by simp [e1]),if_pos e1,e1,abF]; simp [nz]
 rw [xb (by simp [e1]),if_neg e1]
 by_cases e2 : x.kind = 2
 ·rw [xK (by simp [e2]),if_pos e2,e2,zT (Al _ _ _)]; simp only [zd]; simp [nz]
 rw [xb (by simp [e2]),if_neg e2]
 by_cases e3 : x.kind = 3
 ·rw [xK (by simp [e3]),if_pos e3,e3,zT (Al _ _ _)]; simp only [zd]; simp [nz]
 rw [xb (by simp [e3]),if_neg e3]
 by_cases e4 : x.kind = 4
 ·rw [xK (by simp [e4]),if_pos e4,e4,Oz (D0 hs),abF,hss]; simp only [zd]
  cases Jy x.s <;> cases x.n == 0 <;> simp
 rw [xb (by simp [e4]),if_neg e4]
 by_cases e5 : x.kind = 5
 ·rw [xK (by simp [e5]),if_pos e5,abF]; simp only [zd]
  show some (D.bool (_ && (_ && (_ && nz x.s))),_) = _
  cases wi x.a 0 (h - 1) <;> cases wi x.b 0 (h - 1) <;> cases x.n == 0 <;> cases nz x.s <;> rfl
 rw [xb (by simp [e5]),if_neg e5]
 by_cases e6 : x.kind = 6
 ·rw [xK (by simp [e6]),if_pos e6,zT (Al _ _ _)]; simp only [zd]
  show some (D.bool (_ && (_ && (_ && nz x.s))),_) = _
  cases wi x.a 0 (h - 1) <;> cases wi x.n 0 1000000000 <;> cases x.b == 0 <;> cases nz x.s <;> rfl
 rw [xb (by simp [e6]),if_neg e6]
 by_cases e7 : x.kind = 7
 ·rw [xK (by simp [e7]),if_pos e7,abF]; simp only [zd]
  show some (D.bool (_ && (_ && (_ && nz x.s))),_) = _
  cases wi x.a 0 (h - 1) <;> cases x.n == 0 <;> cases x.b == 0 <;> cases nz x.s <;> rfl
 rw [xb (by simp [e7]),if_neg e7]
 by_cases e8 : x.kind = 8
 ·rw [xK (by simp [e8]),if_pos e8,e8,zT (Al _ _ _)]; simp only [zd]; simp [nz]
 rw [xb (by simp [e8]),if_neg e8]
 by_cases e9 : x.kind = 9
 ·rw [xK (by simp [e9]),if_pos e9,e9,zT (Al _ _ _)]; simp only [zd]; simp [nz]
 rw [xb (by simp [e9]),if_neg e9]

abbrev eP (p : List Nd) : D := .agg [.rs (5,0) (p.map eN)]
abbrev oP (p : List Nd) : D := .agg [.os (5,0) (p.map eN)]
abbrev rP (p : List Nd) : D := .op [.os (5,0) (p.map eN)]
def zZ (p : List Nd) : Prop := ∀ x ∈ p,x.s.size < 4611686018427387904
def GU (p : List Nd) : Nat -> Nat -> Bool
 | _,0 => true
 | i,k + 1 => (match p[i]? with | some x => okN x i | none => true) && GU p (i + 1) k
def yV (p : List Nd) : Bool := GU p 0 p.length && decide ((p.length : Int) <= 3000)
theorem JP {p : List Nd} (hf : zZ p) (hl : p.length < 4611686018427387904) : ∀ (k i : Nat),i + k = p.length -> Dd (p.map eN) (ni (p.map eN).length) (i : Int) (p.map eN) = some (.bool (GU p i k && decide ((p.length : Int) <= 3000)),[])
 | 0,i,hi => by
  rw [Gl,xb (by rw [lnM]; exact yr (by omega)),lnM]; rfl
 | k + 1,i,hi => by
  obtain ⟨x,hx⟩ := xx (l := p) (i := i) (by omega)
  rw [Gl,xK (by rw [lnM]; exact yz (by omega)),yu (by rw [lnM]; exact yx (by omega)),Int.toNat_natCast,xW hx,JR,Wy (RH (hf x (List.mem_of_getElem? hx)) (by omega) (by omega)),yM (by omega),JP hf hl k (i + 1) (by omega),Km,Bool.not_not,<- Bool.and_assoc]
  simp only [GU,hx]
theorem Kc {p : List Nd} (hf : zZ p) (hl : p.length < 4611686018427387904) : ∀ (k i : Nat),i + k = p.length -> Dn (i : Int) (p.map eN) = some (.bool (GU p i k && decide ((p.length : Int) <= 3000)),[])
 | 0,i,hi => by
  rw [Gt,xb (by rw [lnM]; exact yr (by omega)),lnM]; rfl
 | k + 1,i,hi => by
  obtain ⟨x,hx⟩ := xx (l := p) (i := i) (by omega)
  rw [Gt,xK (by rw [lnM]; exact yz (by omega)),yu (by rw [lnM]; exact yx (by omega)),Int.toNat_natCast,xW hx,JR,WB (aa1 (hf x (List.mem_of_getElem? hx)) (by omega) (by omega)),yM (by omega),Kc hf hl k (i + 1) (by omega),Km,Bool.not_not,<- Bool.and_assoc]
  simp only [GU,hx]
theorem GY {p : List Nd} (hf : zZ p) (hl : p.length < 4611686018427387904) : V 55 [eP p] = some (.bool (yV p),[]) := by
 rw [Tk]; exact JP hf hl p.length 0 (Nat.zero_add _)
theorem zK {p : List Nd} (hf : zZ p) (hl : p.length < 4611686018427387904) : V 60 [eP p] = some (.bool (yV p),[]) := by
 rw [TC]; exact Kc hf hl p.length 0 (Nat.zero_add _)
end
end Go.Eng
