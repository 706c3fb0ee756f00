/- the program and the reference on plain data, part 2 -/
import Derived.Test.YtkndfhaehnfnmaaGreatPart1
import Derived.Test.YtkndfhaehnfnmaaGreatEngC
/-! the functions as the interpreter has them -/
namespace Go.Eng
open Go.Proofs Go.Proofs.Tryz
set_option maxRecDepth 100000
theorem D8 (p0 p1 p2:Int) (p3:Bool) (p4:List D):Aa p0 p1 p2 p3 p4 =
 br (decide (p1 < p0))
 (
 br p3
 (
 jb V 114 [.op [.os (1,0) p4,iN p2,.bool p3]] fun a b=>
 asI .i64 a fun c=>unc b fun d e=>za d fun f g h=>(unn e (br (c == 2)
 (
 br (c == 2)
 (
 jb V 114 [.op [.os (1,0) f,iN g,.bool h]] fun i j=>
 asI .i64 i fun k=>unc j fun l m=>za l fun n o p=>(unn m (grd (decide (ni 1 <= LIM)) (yP p0 (w6 (p1 + 1)) o p n ([D.agg [iN c,iN k,D.str { data:=#[] },iN (0),iN (0)]])))))
 (
 br (c == 3)
 (
 jb V 114 [.op [.os (1,0) f,iN g,.bool h]] fun i j=>
 asI .i64 i fun k=>unc j fun l m=>za l fun n o p=>(unn m (grd (decide (ni 1 <= LIM)) (yP p0 (w6 (p1 + 1)) o p n ([D.agg [iN c,iN (w6 (k - 1000000000)),D.str { data:=#[] },iN (0),iN (0)]])))))
 (
 br (c == 4)
 (
 jb V 174 [.rs (1,0) f,iN g] fun i j=>
 PQ i fun k l m=>(unn j (br h
 (grd (decide (ni 1 <= LIM)) (yP p0 (w6 (p1 + 1)) l m f ([D.agg [iN c,iN (0),D.str k,iN (0),iN (0)]])))
 (grd (decide (ni 1 <= LIM)) (yP p0 (w6 (p1 + 1)) l false f ([D.agg [iN c,iN (0),D.str k,iN (0),iN (0)]]))))))
 (
 br (c == 5)
 (
 jb V 114 [.op [.os (1,0) f,iN g,.bool h]] fun i j=>
 asI .i64 i fun k=>unc j fun l m=>za l fun n o p=>(unn m (jb V 114 [.op [.os (1,0) n,iN o,.bool p]] fun q r=>
 asI .i64 q fun s=>unc r fun t u=>za t fun v w x=>(unn u (grd (decide (ni 1 <= LIM)) (yP p0 (w6 (p1 + 1)) w x v ([D.agg [iN c,iN (0),D.str { data:=#[] },iN k,iN s]])))))))
 (
 br (c == 6)
 (
 jb V 114 [.op [.os (1,0) f,iN g,.bool h]] fun i j=>
 asI .i64 i fun k=>unc j fun l m=>za l fun n o p=>(unn m (jb V 114 [.op [.os (1,0) n,iN o,.bool p]] fun q r=>
 asI .i64 q fun s=>unc r fun t u=>za t fun v w x=>(unn u (grd (decide (ni 1 <= LIM)) (yP p0 (w6 (p1 + 1)) w x v ([D.agg [iN c,iN k,D.str { data:=#[] },iN s,iN (0)]])))))))
 (
 br (c == 7)
 (
 jb V 114 [.op [.os (1,0) f,iN g,.bool h]] fun i j=>
 asI .i64 i fun k=>unc j fun l m=>za l fun n o p=>(unn m (grd (decide (ni 1 <= LIM)) (yP p0 (w6 (p1 + 1)) o p n ([D.agg [iN c,iN (0),D.str { data:=#[] },iN k,iN (0)]])))))
 (grd (decide (ni 1 <= LIM)) (yP p0 (w6 (p1 + 1)) g h f ([D.agg [iN c,iN (0),D.str { data:=#[] },iN (0),iN (0)]])))))))))
 (
 br (c == 8)
 (
 br (c == 8)
 (
 jb V 114 [.op [.os (1,0) f,iN g,.bool h]] fun i j=>
 asI .i64 i fun k=>unc j fun l m=>za l fun n o p=>(unn m (grd (decide (ni 1 <= LIM)) (yP p0 (w6 (p1 + 1)) o p n ([D.agg [iN c,iN k,D.str { data:=#[] },iN (0),iN (0)]])))))
 (
 br (c == 3)
 (
 jb V 114 [.op [.os (1,0) f,iN g,.bool h]] fun i j=>
 asI .i64 i fun k=>unc j fun l m=>za l fun n o p=>(unn m (grd (decide (ni 1 <= LIM)) (yP p0 (w6 (p1 + 1)) o p n ([D.agg [iN c,iN (w6 (k - 1000000000)),D.str { data:=#[] },iN (0),iN (0)]])))))
 (
 br (c == 4)
 (
 jb V 174 [.rs (1,0) f,iN g] fun i j=>
 PQ i fun k l m=>(unn j (br h
 (grd (decide (ni 1 <= LIM)) (yP p0 (w6 (p1 + 1)) l m f ([D.agg [iN c,iN (0),D.str k,iN (0),iN (0)]])))
 (grd (decide (ni 1 <= LIM)) (yP p0 (w6 (p1 + 1)) l false f ([D.agg [iN c,iN (0),D.str k,iN (0),iN (0)]]))))))
 (
 br (c == 5)
 (
 jb V 114 [.op [.os (1,0) f,iN g,.bool h]] fun i j=>
 asI .i64 i fun k=>unc j fun l m=>za l fun n o p=>(unn m (jb V 114 [.op [.os (1,0) n,iN o,.bool p]] fun q r=>
 asI .i64 q fun s=>unc r fun t u=>za t fun v w x=>(unn u (grd (decide (ni 1 <= LIM)) (yP p0 (w6 (p1 + 1)) w x v ([D.agg [iN c,iN (0),D.str { data:=#[] },iN k,iN s]])))))))
 (
 br (c == 6)
 (
 jb V 114 [.op [.os (1,0) f,iN g,.bool h]] fun i j=>
 asI .i64 i fun k=>unc j fun l m=>za l fun n o p=>(unn m (jb V 114 [.op [.os (1,0) n,iN o,.bool p]] fun q r=>
 asI .i64 q fun s=>unc r fun t u=>za t fun v w x=>(unn u (grd (decide (ni 1 <= LIM)) (yP p0 (w6 (p1 + 1)) w x v ([D.agg [iN c,iN k,D.str { data:=#[] },iN s,iN (0)]])))))))
 (
 br (c == 7)
 (
 jb V 114 [.op [.os (1,0) f,iN g,.bool h]] fun i j=>
 asI .i64 i fun k=>unc j fun l m=>za l fun n o p=>(unn m (grd (decide (ni 1 <= LIM)) (yP p0 (w6 (p1 + 1)) o p n ([D.agg [iN c,iN (0),D.str { data:=#[] },iN k,iN (0)]])))))
 (grd (decide (ni 1 <= LIM)) (yP p0 (w6 (p1 + 1)) g h f ([D.agg [iN c,iN (0),D.str { data:=#[] },iN (0),iN (0)]])))))))))
 (
 br (c == 9)
 (
 jb V 114 [.op [.os (1,0) f,iN g,.bool h]] fun i j=>
 asI .i64 i fun k=>unc j fun l m=>za l fun n o p=>(unn m (grd (decide (ni 1 <= LIM)) (yP p0 (w6 (p1 + 1)) o p n ([D.agg [iN c,iN k,D.str { data:=#[] },iN (0),iN (0)]])))))
 (
 br (c == 3)
 (
 jb V 114 [.op [.os (1,0) f,iN g,.bool h]] fun i j=>
 asI .i64 i fun k=>unc j fun l m=>za l fun n o p=>(unn m (grd (decide (ni 1 <= LIM)) (yP p0 (w6 (p1 + 1)) o p n ([D.agg [iN c,iN (w6 (k - 1000000000)),D.str { data:=#[] },iN (0),iN (0)]])))))
 (
 br (c == 4)
 (
 jb V 174 [.rs (1,0) f,iN g] fun i j=>
 PQ i fun k l m=>(unn j (br h
 (grd (decide (ni 1 <= LIM)) (yP p0 (w6 (p1 + 1)) l m f ([D.agg [iN c,iN (0),D.str k,iN (0),iN (0)]])))
 (grd (decide (ni 1 <= LIM)) (yP p0 (w6 (p1 + 1)) l false f ([D.agg [iN c,iN (0),D.str k,iN (0),iN (0)]]))))))
 (
 br (c == 5)
 (
 jb V 114 [.op [.os (1,0) f,iN g,.bool h]] fun i j=>
 asI .i64 i fun k=>unc j fun l m=>za l fun n o p=>(unn m (jb V 114 [.op [.os (1,0) n,iN o,.bool p]] fun q r=>
 asI .i64 q fun s=>unc r fun t u=>za t fun v w x=>(unn u (grd (decide (ni 1 <= LIM)) (yP p0 (w6 (p1 + 1)) w x v ([D.agg [iN c,iN (0),D.str { data:=#[] },iN k,iN s]])))))))
 (
 br (c == 6)
 (
 jb V 114 [.op [.os (1,0) f,iN g,.bool h]] fun i j=>
 asI .i64 i fun k=>unc j fun l m=>za l fun n o p=>(unn m (jb V 114 [.op [.os (1,0) n,iN o,.bool p]] fun q r=>
 asI .i64 q fun s=>unc r fun t u=>za t fun v w x=>(unn u (grd (decide (ni 1 <= LIM)) (yP p0 (w6 (p1 + 1)) w x v ([D.agg [iN c,iN k,D.str { data:=#[] },iN s,iN (0)]])))))))
 (
 br (c == 7)
 (
 jb V 114 [.op [.os (1,0) f,iN g,.bool h]] fun i j=>
 asI .i64 i fun k=>unc j fun l m=>za l fun n o p=>(unn m (grd (decide (ni 1 <= LIM)) (yP p0 (w6 (p1 + 1)) o p n ([D.agg [iN c,iN (0),D.str { data:=#[] },iN k,iN (0)]])))))
 (grd (decide (ni 1 <= LIM)) (yP p0 (w6 (p1 + 1)) g h f ([D.agg [iN c,iN (0),D.str { data:=#[] },iN (0),iN (0)]])))))))))))))
 (
 br p3
 (
 br (p2 == ni p4.length)
 (
 jb V 60 [.agg [.rs (5,0) []]] fun a b=>
 asB a fun c=>unn b (some ((.agg [.os (5,0) []]),[.op [.os (1,0) p4,iN p2,.bool c]])))
 (some ((.agg [.os (5,0) []]),[.op [.os (1,0) p4,iN p2,.bool false]])))
 (some ((.agg [.os (5,0) []]),[.op [.os (1,0) p4,iN p2,.bool false]]))))
 (
 br p3
 (
 br (p2 == ni p4.length)
 (
 jb V 60 [.agg [.rs (5,0) []]] fun a b=>
 asB a fun c=>unn b (some ((.agg [.os (5,0) []]),[.op [.os (1,0) p4,iN p2,.bool c]])))
 (some ((.agg [.os (5,0) []]),[.op [.os (1,0) p4,iN p2,.bool false]])))
 (some ((.agg [.os (5,0) []]),[.op [.os (1,0) p4,iN p2,.bool false]]))):=by
 exact (yC _ _ _).trans (by kernel_rfl)
theorem CE (p0:List D) (p1 p2:Int) (p3:List D):yR p0 p1 p2 p3 =
 br (decide (p2 < p1))
 (
 grd (decide (0 <= p2) && decide (p2 < ni p0.length)) (cT p0 p2.toNat fun a=>
 tk1 a fun b c d e f=>(jb V 67 [iN b] fun g h=>
 jl (1,0) g fun i=>unn h (grd (decide (ni (List.length (p3++i)) <= LIM)) (nam (p3++i) fun j=>
 br (b == 2)
 (
 br (b == 2)
 (
 jb V 67 [iN c] fun k l=>
 jl (1,0) k fun m=>unn l (grd (decide (ni (List.length (j++m)) <= LIM)) (nam (j++m) fun n=>
 yR p0 p1 (w6 (p2 + 1)) n)))
 (
 br (b == 3)
 (
 jb V 67 [(iN (w6 (c + 1000000000)))] fun k l=>
 jl (1,0) k fun m=>unn l (grd (decide (ni (List.length (j++m)) <= LIM)) (nam (j++m) fun n=>
 yR p0 p1 (w6 (p2 + 1)) n)))
 (
 br (b == 4)
 (
 jb V 138 [.str d] fun k l=>
 jl (1,0) k fun m=>unn l (grd (decide (ni (List.length (j++m)) <= LIM)) (nam (j++m) fun n=>
 yR p0 p1 (w6 (p2 + 1)) n)))
 (
 br (b == 5)
 (
 jb V 67 [iN e] fun k l=>
 jl (1,0) k fun m=>unn l (grd (decide (ni (List.length (j++m)) <= LIM)) (nam (j++m) fun n=>
 jb V 67 [iN f] fun o p=>
 jl (1,0) o fun q=>unn p (grd (decide (ni (List.length (n++q)) <= LIM)) (nam (n++q) fun r=>
 yR p0 p1 (w6 (p2 + 1)) r)))))
 (
 br (b == 6)
 (
 jb V 67 [iN c] fun k l=>
 jl (1,0) k fun m=>unn l (grd (decide (ni (List.length (j++m)) <= LIM)) (nam (j++m) fun n=>
 jb V 67 [iN e] fun o p=>
 jl (1,0) o fun q=>unn p (grd (decide (ni (List.length (n++q)) <= LIM)) (nam (n++q) fun r=>
 yR p0 p1 (w6 (p2 + 1)) r)))))
 (
 br (b == 7)
 (
 jb V 67 [iN e] fun k l=>
 jl (1,0) k fun m=>unn l (grd (decide (ni (List.length (j++m)) <= LIM)) (nam (j++m) fun n=>
 yR p0 p1 (w6 (p2 + 1)) n)))
 (yR p0 p1 (w6 (p2 + 1)) j)))))))
 (
 br (b == 8)
 (
 br (b == 8)
 (
 jb V 67 [iN c] fun k l=>
 jl (1,0) k fun m=>unn l (grd (decide (ni (List.length (j++m)) <= LIM)) (nam (j++m) fun n=>
 yR p0 p1 (w6 (p2 + 1)) n)))
 (
 br (b == 3)
 (
 jb V 67 [(iN (w6 (c + 1000000000)))] fun k l=>
 jl (1,0) k fun m=>unn l (grd (decide (ni (List.length (j++m)) <= LIM)) (nam (j++m) fun n=>
 yR p0 p1 (w6 (p2 + 1)) n)))
 (
 br (b == 4)
 (
 jb V 138 [.str d] fun k l=>
 jl (1,0) k fun m=>unn l (grd (decide (ni (List.length (j++m)) <= LIM)) (nam (j++m) fun n=>
 yR p0 p1 (w6 (p2 + 1)) n)))
 (
 br (b == 5)
 (
 jb V 67 [iN e] fun k l=>
 jl (1,0) k fun m=>unn l (grd (decide (ni (List.length (j++m)) <= LIM)) (nam (j++m) fun n=>
 jb V 67 [iN f] fun o p=>
 jl (1,0) o fun q=>unn p (grd (decide (ni (List.length (n++q)) <= LIM)) (nam (n++q) fun r=>
 yR p0 p1 (w6 (p2 + 1)) r)))))
 (
 br (b == 6)
 (
 jb V 67 [iN c] fun k l=>
 jl (1,0) k fun m=>unn l (grd (decide (ni (List.length (j++m)) <= LIM)) (nam (j++m) fun n=>
 jb V 67 [iN e] fun o p=>
 jl (1,0) o fun q=>unn p (grd (decide (ni (List.length (n++q)) <= LIM)) (nam (n++q) fun r=>
 yR p0 p1 (w6 (p2 + 1)) r)))))
 (
 br (b == 7)
 (
 jb V 67 [iN e] fun k l=>
 jl (1,0) k fun m=>unn l (grd (decide (ni (List.length (j++m)) <= LIM)) (nam (j++m) fun n=>
 yR p0 p1 (w6 (p2 + 1)) n)))
 (yR p0 p1 (w6 (p2 + 1)) j)))))))
 (
 br (b == 9)
 (
 jb V 67 [iN c] fun k l=>
 jl (1,0) k fun m=>unn l (grd (decide (ni (List.length (j++m)) <= LIM)) (nam (j++m) fun n=>
 yR p0 p1 (w6 (p2 + 1)) n)))
 (
 br (b == 3)
 (
 jb V 67 [(iN (w6 (c + 1000000000)))] fun k l=>
 jl (1,0) k fun m=>unn l (grd (decide (ni (List.length (j++m)) <= LIM)) (nam (j++m) fun n=>
 yR p0 p1 (w6 (p2 + 1)) n)))
 (
 br (b == 4)
 (
 jb V 138 [.str d] fun k l=>
 jl (1,0) k fun m=>unn l (grd (decide (ni (List.length (j++m)) <= LIM)) (nam (j++m) fun n=>
 yR p0 p1 (w6 (p2 + 1)) n)))
 (
 br (b == 5)
 (
 jb V 67 [iN e] fun k l=>
 jl (1,0) k fun m=>unn l (grd (decide (ni (List.length (j++m)) <= LIM)) (nam (j++m) fun n=>
 jb V 67 [iN f] fun o p=>
 jl (1,0) o fun q=>unn p (grd (decide (ni (List.length (n++q)) <= LIM)) (nam (n++q) fun r=>
 yR p0 p1 (w6 (p2 + 1)) r)))))
 (
 br (b == 6)
 (
 jb V 67 [iN c] fun k l=>
 jl (1,0) k fun m=>unn l (grd (decide (ni (List.length (j++m)) <= LIM)) (nam (j++m) fun n=>
 jb V 67 [iN e] fun o p=>
 jl (1,0) o fun q=>unn p (grd (decide (ni (List.length (n++q)) <= LIM)) (nam (n++q) fun r=>
 yR p0 p1 (w6 (p2 + 1)) r)))))
 (
 br (b == 7)
 (
 jb V 67 [iN e] fun k l=>
 jl (1,0) k fun m=>unn l (grd (decide (ni (List.length (j++m)) <= LIM)) (nam (j++m) fun n=>
 yR p0 p1 (w6 (p2 + 1)) n)))
 (yR p0 p1 (w6 (p2 + 1)) j)))))))))))))
 (some ((.os (1,0) p3),[])):=by
 exact (yC _ _ _).trans (by kernel_rfl)
theorem Qr (p l d:List D) (h x:Int):V 215 [.op [.os (5,0) p,.os (4,0) l,.os (3,0) d,iN h],iN x] =
 grd (decide (0 <= x) && decide (x < ni p.length)) (cT p x.toNat fun a=>
 asAgg a fun b=>cT b 0 fun c=>
 asI .i64 c fun e=>br (e == 5)
 (
 jb V 228 [.agg [.rs (5,0) p],iN x] fun f g=>
 tk3 f fun i j=>(unn g (br (!j)
 (
 jb V 229 [.op [.os (5,0) p,.os (4,0) l,.os (3,0) d,iN h],.str ({ data:=#[109,97,105,110] }),.rs (1,0) [],.rs (1,0) [iN x]] fun k m=>
 iV k fun n=>unn n (unc m fun o q=>tk2 o fun r s t u=>(unn q (some ((.tup []),[.op [.os (5,0) r,.os (4,0) s,.os (3,0) t,iN u]])))))
 (
 grd (decide (0 <= 0) && decide (0 < ni i.length)) (cT i 0 fun k=>
 asI .i64 k fun m=>grd (decide (0 <= m) && decide (m < ni p.length)) (cT p m.toNat fun n=>
 asAgg n fun o=>cT o 0 fun q=>
 asI .i64 q fun r=>br (r != 4)
 (
 jb V 229 [.op [.os (5,0) p,.os (4,0) l,.os (3,0) d,iN h],.str ({ data:=#[109,97,105,110] }),.rs (1,0) [],.rs (1,0) [iN x]] fun s t=>
 iV s fun u=>unn u (unc t fun v w=>tk2 v fun y z A B=>(unn w (some ((.tup []),[.op [.os (5,0) y,.os (4,0) z,.os (3,0) A,iN B]])))))
 (
 grd (decide (0 <= 0) && decide (0 < ni i.length)) (cT i 0 fun s=>
 asI .i64 s fun t=>grd (decide (0 <= t) && decide (t < ni p.length)) (cT p t.toNat fun u=>
 asAgg u fun v=>cT v 2 fun w=>
 asS w fun y=>br (!kc y { data:=#[100,101,102,105,110,101] })
 (
 jb V 229 [.op [.os (5,0) p,.os (4,0) l,.os (3,0) d,iN h],.str ({ data:=#[109,97,105,110] }),.rs (1,0) [],.rs (1,0) [iN x]] fun z A=>
 iV z fun B=>unn B (unc A fun C E=>tk2 C fun F G H I=>(unn E (some ((.tup []),[.op [.os (5,0) F,.os (4,0) G,.os (3,0) H,iN I]])))))
 (
 br (decide (ni i.length < 3))
 (some ((.tup []),[.op [.os (5,0) p,.os (4,0) l,.os (3,0) d,iN (1)]]))
 (
 grd (decide (0 <= 1) && decide (1 < ni i.length)) (cT i 1 fun z=>
 asI .i64 z fun A=>grd (decide (0 <= A) && decide (A < ni p.length)) (cT p A.toNat fun B=>
 asAgg B fun C=>cT C 0 fun E=>
 asI .i64 E fun F=>br (F != 5)
 (some ((.tup []),[.op [.os (5,0) p,.os (4,0) l,.os (3,0) d,iN (1)]]))
 (
 grd (decide (0 <= 1) && decide (1 < ni i.length)) (cT i 1 fun G=>
 asI .i64 G fun H=>jb V 228 [.agg [.rs (5,0) p],iN H] fun I J=>
 tk3 I fun K L=>(unn J (br (!L)
 (some ((.tup []),[.op [.os (5,0) p,.os (4,0) l,.os (3,0) d,iN (1)]]))
 (
 grd (decide (0 <= 0) && decide (0 < ni K.length)) (cT K 0 fun M=>
 asI .i64 M fun N=>jb V 230 [.op [.os (5,0) p,.os (4,0) l,.os (3,0) d,iN h],iN N] fun O P=>
 tk6 O fun Q R=>(unc P fun S T=>tk2 S fun U W X Y=>(unn T (br (!R)
 (some ((.tup []),[.op [.os (5,0) U,.os (4,0) W,.os (3,0) X,iN (1)]]))
 (
 grd (cW K.length (some (1)) none) (jb V 231 [.op [.os (5,0) U,.os (4,0) W,.os (3,0) X,iN Y],(.rs (1,0) (part K (some (Int.toNat (1),List.length K - Int.toNat (1)))))] fun Z a0=>
 jl (1,0) Z fun a1=>unc a0 fun a2 a3=>tk2 a2 fun a4 a5 a6 a7=>(unn a3 (grd (cW i.length (some (2)) none) (jb V 229 [.op [.os (5,0) a4,.os (4,0) a5,.os (3,0) a6,iN a7],.str Q,.rs (1,0) a1,(.rs (1,0) (part i (some (Int.toNat (2),List.length i - Int.toNat (2)))))] fun a8 a9=>
 iV a8 fun b0=>unn b0 (unc a9 fun b1 b2=>tk2 b1 fun b3 b4 b5 b6=>(unn b2 (some ((.tup []),[.op [.os (5,0) b3,.os (4,0) b4,.os (3,0) b5,iN b6]])))))))))))))))))))))))))))))))
 (
 jb V 229 [.op [.os (5,0) p,.os (4,0) l,.os (3,0) d,iN h],.str ({ data:=#[109,97,105,110] }),.rs (1,0) [],.rs (1,0) [iN x]] fun f g=>
 iV f fun i=>unn i (unc g fun j k=>tk2 j fun m n o q=>(unn k (some ((.tup []),[.op [.os (5,0) m,.os (4,0) n,.os (3,0) o,iN q]])))))):=by
 exact (yD Tryz.func215 rfl _).trans (by kernel_rfl)
theorem KR (a0_:List D):V 5 [.rs (1,0) a0_] =
 jb V 12 [.rs (1,0) a0_] fun a b=>
 asB a fun c=>unn b (br c
 (some ((.bool true),[]))
 (
 jb V 23 [.rs (1,0) a0_] fun d e=>
 iV d fun f=>unc f fun g h=>asAgg g fun i=>unc i fun j k=>mc (5,0) j fun l=>unc k fun m n=>mc (4,0) m fun o=>unc n fun p q=>mc (3,0) p fun r=>unn q (unc h fun s t=>asS s fun u=>unc t fun v w=>asI .i64 v fun x=>unn w (unn e (jb V 24 [.agg [.rs (5,0) l,.rs (4,0) o,.rs (3,0) r],.str u,iN x] fun y z=>
 iV y fun A=>unc A fun B C=>asAgg B fun E=>unc E fun F G=>asI .i64 F fun H=>unc G fun I J=>jl (5,0) I fun K=>unc J fun L M=>asI .i64 L fun N=>unc M fun O P=>asI .i64 O fun Q=>unc P fun R S=>asI .i64 R fun T=>unc S fun U W=>asI .i64 U fun X=>unc W fun Y Z=>asI .i64 Y fun a0=>unc Z fun a1 a2=>asI .i64 a1 fun a3=>unc a2 fun a4 a5=>asI .i64 a4 fun a6=>unc a5 fun a7 a8=>jl (1,0) a7 fun a9=>unc a8 fun b0 b1=>jl (1,0) b0 fun b3=>unn b1 (unc C fun b4 b5=>asB b4 fun b6=>unn b5 (unn z (jb V 25 [.agg [.rs (5,0) l,.rs (4,0) o,.rs (3,0) r],.str u,iN x] fun b7 b8=>
 iV b7 fun b9=>unc b9 fun c0 c1=>asAgg c0 fun c2=>unc c2 fun c3 c4=>asI .i64 c3 fun _=>unc c4 fun c5 c6=>jl (5,0) c5 fun _=>unc c6 fun c7 c8=>asI .i64 c7 fun _=>unc c8 fun c9 d0=>asI .i64 c9 fun _=>unc d0 fun d1 d2=>asI .i64 d1 fun _=>unc d2 fun d3 d4=>asI .i64 d3 fun _=>unc d4 fun d5 d6=>asI .i64 d5 fun _=>unc d6 fun d7 d8=>asI .i64 d7 fun _=>unc d8 fun d9 e0=>asI .i64 d9 fun _=>unc e0 fun e1 e2=>jl (1,0) e1 fun _=>unc e2 fun e3 e4=>jl (1,0) e3 fun _=>unn e4 (unc c1 fun e5 e6=>asB e5 fun e7=>unn e6 (unn b8 (br (!b6 == e7)
 (some ((.bool false),[]))
 (
 br (!b6)
 (
 br (H == 0)
 (some ((.bool true),[]))
 (
 br b6
 (
 br (H == x)
 (
 br (w6 (ni a9.length + ni b3.length) == 0)
 (
 jb V 26 [.agg [.rs (5,0) l,.rs (4,0) o,.rs (3,0) r],.agg [iN H,.rs (5,0) K,iN N,iN Q,iN T,iN X,iN a0,iN a3,iN a6,.rs (1,0) a9,.rs (1,0) b3]] fun e8 e9=>
 asB e8 fun f0=>unn e9 (br f0
 (some ((.bool (a0 == 0)),[]))
 (some ((.bool false),[]))))
 (some ((.bool false),[])))
 (some ((.bool false),[])))
 (some ((.bool false),[]))))
 (
 br b6
 (
 br (H == x)
 (
 br (w6 (ni a9.length + ni b3.length) == 0)
 (
 jb V 26 [.agg [.rs (5,0) l,.rs (4,0) o,.rs (3,0) r],.agg [iN H,.rs (5,0) K,iN N,iN Q,iN T,iN X,iN a0,iN a3,iN a6,.rs (1,0) a9,.rs (1,0) b3]] fun e8 e9=>
 asB e8 fun f0=>unn e9 (br f0
 (some ((.bool (a0 == 0)),[]))
 (some ((.bool false),[]))))
 (some ((.bool false),[])))
 (some ((.bool false),[])))
 (some ((.bool false),[]))))))))))))))):=by
 exact (yD Tryz.func5 rfl _).trans (by kernel_rfl)
theorem J5 (a0_0:List D) (a0_1 a0_2:Int):V 201 [.op [.rs (1,0) a0_0,iN a0_1,iN a0_2]] =
 jb V 76 [.op [.rs (1,0) a0_0,iN a0_1,iN a0_2],iN (8)] fun a b=>
 asI .i64 a fun c=>unc b fun d e=>nC d fun f=>unc f fun g h=>kq (1,0) g fun i=>unc h fun j k=>asI .i64 j fun l=>unc k fun m n=>asI .i64 m fun o=>unn n (unn e (br (c == 0)
 (some ((.agg [iN (1),iN (0),.str ({ data:=#[] }),iN (0),iN (0)]),[.op [.rs (1,0) i,iN l,iN o]]))
 (
 br (c == 1)
 (
 jb V 76 [.op [.rs (1,0) i,iN l,iN o],iN (2)] fun p q=>
 asI .i64 p fun r=>unc q fun s t=>nC s fun u=>unc u fun v w=>kq (1,0) v fun x=>unc w fun y z=>asI .i64 y fun A=>unc z fun B C=>asI .i64 B fun E=>unn C (unn t (some ((.agg [iN (2),iN r,.str ({ data:=#[] }),iN (0),iN (0)]),[.op [.rs (1,0) x,iN A,iN E]]))))
 (
 br (c == 2)
 (
 jb V 75 [.op [.rs (1,0) i,iN l,iN o],(.rs (1,0) [.str ({ data:=#[97] }),.str ({ data:=#[98,99] }),.str ({ data:=#[120] }),.str ({ data:=#[102] }),.str ({ data:=#[43] }),.str ({ data:=#[108,105,115,116] })])] fun p q=>
 asS p fun r=>unc q fun s t=>nC s fun u=>unc u fun v w=>kq (1,0) v fun x=>unc w fun y z=>asI .i64 y fun A=>unc z fun B C=>asI .i64 B fun E=>unn C (unn t (some ((.agg [iN (4),iN (0),.str r,iN (0),iN (0)]),[.op [.rs (1,0) x,iN A,iN E]]))))
 (
 br (c == 3)
 (
 jb V 76 [.op [.rs (1,0) i,iN l,iN o],iN (5)] fun p q=>
 asI .i64 p fun r=>unc q fun s t=>nC s fun u=>unc u fun v w=>kq (1,0) v fun x=>unc w fun y z=>asI .i64 y fun A=>unc z fun B C=>asI .i64 B fun E=>unn C (unn t (some ((.agg [iN (9),iN r,.str ({ data:=#[] }),iN (0),iN (0)]),[.op [.rs (1,0) x,iN A,iN E]]))))
 (
 br (c == 4)
 (
 jb V 76 [.op [.rs (1,0) i,iN l,iN o],iN (5)] fun p q=>
 asI .i64 p fun r=>unc q fun s t=>nC s fun u=>unc u fun v w=>kq (1,0) v fun x=>unc w fun y z=>asI .i64 y fun A=>unc z fun B C=>asI .i64 B fun E=>unn C (unn t (some ((.agg [iN (8),iN r,.str ({ data:=#[] }),iN (0),iN (0)]),[.op [.rs (1,0) x,iN A,iN E]]))))
 (
 jb V 76 [.op [.rs (1,0) i,iN l,iN o],iN (12)] fun p q=>
 asI .i64 p fun r=>unc q fun s t=>nC s fun u=>unc u fun v w=>kq (1,0) v fun x=>unc w fun y z=>asI .i64 y fun A=>unc z fun B C=>asI .i64 B fun E=>unn C (unn t (some ((.agg [iN (3),(iN (w6 (r - 3))),.str ({ data:=#[] }),iN (0),iN (0)]),[.op [.rs (1,0) x,iN A,iN E]])))))))))):=by
 exact (yD Tryz.func201 rfl _).trans (by kernel_rfl)
theorem KT (a0_0 a0_1 a0_2 a1_0:List D) (a1_1 a1_2 a1_3 a1_4 a1_5 a1_6 a1_7:Int):V 15 [.agg [.rs (5,0) a0_0,.rs (4,0) a0_1,.rs (3,0) a0_2],.agg [.rs (5,0) a1_0,iN a1_1,iN a1_2,iN a1_3,iN a1_4,iN a1_5,iN a1_6,iN a1_7]] =
 jb V 59 [.agg [.rs (5,0) a0_0,.rs (4,0) a0_1,.rs (3,0) a0_2]] fun a b=>
 asB a fun c=>unn b (br (!c)
 (some ((.bool false),[]))
 (
 jb V 60 [.agg [.rs (5,0) a1_0]] fun d e=>
 asB d fun f=>unn e (br (!f)
 (some ((.bool false),[]))
 (
 jb V 61 [.agg [.rs (5,0) a1_0],iN a1_2] fun g h=>
 asB g fun i=>unn h (br (!i)
 (some ((.bool false),[]))
 (
 jb V 61 [.agg [.rs (5,0) a1_0],iN a1_3] fun j k=>
 asB j fun l=>unn k (br (!l)
 (some ((.bool false),[]))
 (
 jb V 61 [.agg [.rs (5,0) a1_0],iN a1_4] fun m n=>
 asB m fun o=>unn n (br (!o)
 (some ((.bool false),[]))
 (
 jb V 62 [iN a1_1,iN (0),(iN (w6 (ni a0_1.length - 1)))] fun p q=>
 asB p fun r=>unn q (br (a1_5 == 0)
 (
 br r
 (
 br (a1_6 == 0)
 (some ((.bool (a1_7 == 0)),[]))
 (some ((.bool false),[])))
 (some ((.bool false),[])))
 (
 br (a1_5 == 1)
 (
 br r
 (
 jb V 62 [iN a1_6,iN (13),iN (19)] fun s t=>
 asB s fun u=>unn t (br u
 (
 br (a1_6 != 18)
 (
 jb V 61 [.agg [.rs (5,0) a1_0],iN a1_7] fun v w=>
 asB v fun x=>unn w (some ((.bool x),[])))
 (some ((.bool false),[])))
 (some ((.bool false),[]))))
 (some ((.bool false),[])))
 (
 br (a1_5 == 2)
 (
 br (a1_1 == 0)
 (
 br (a1_6 == 0)
 (
 jb V 61 [.agg [.rs (5,0) a1_0],iN a1_7] fun s t=>
 asB s fun u=>unn t (some ((.bool u),[])))
 (some ((.bool false),[])))
 (some ((.bool false),[])))
 (
 br (a1_5 == 3)
 (
 br (a1_1 == 0)
 (
 jb V 62 [iN a1_6,iN (1),iN (7)] fun s t=>
 asB s fun u=>unn t (br u
 (some ((.bool (a1_7 == 0)),[]))
 (some ((.bool false),[]))))
 (some ((.bool false),[])))
 (some ((.bool false),[])))))))))))))))):=by
 exact (yD Tryz.func15 rfl _).trans (by kernel_rfl)
theorem Jp (a0_:List D):V 23 [.rs (1,0) a0_] =
 jb V 51 [.rs (1,0) a0_] fun a b=>
 nC a fun c=>unc c fun d e=>kq (1,0) d fun f=>unc e fun g h=>asI .i64 g fun i=>unc h fun j k=>asI .i64 j fun l=>unn k (unn b (jb V 74 [.op [.rs (1,0) f,iN i,iN l]] fun m n=>
 asAgg m fun o=>unc o fun p q=>jl (5,0) p fun r=>unc q fun s t=>jl (4,0) s fun u=>unc t fun v w=>jl (3,0) v fun x=>unn w (unc n fun y z=>nC y fun A=>unc A fun B C=>kq (1,0) B fun E=>unc C fun F G=>asI .i64 F fun H=>unc G fun I J=>asI .i64 I fun K=>unn J (unn z (jb V 75 [.op [.rs (1,0) E,iN H,iN K],(.rs (1,0) [.str ({ data:=#[109,97,105,110] }),.str ({ data:=#[109,97,105,110] }),.str ({ data:=#[102] }),.str ({ data:=#[122,122] })])] fun L M=>
 asS L fun N=>unc M fun O P=>nC O fun Q=>unc Q fun R S=>kq (1,0) R fun T=>unc S fun U W=>asI .i64 U fun X=>unc W fun Y Z=>asI .i64 Y fun a0=>unn Z (unn P (jb V 76 [.op [.rs (1,0) T,iN X,iN a0],iN (5)] fun a1 a2=>
 asI .i64 a1 fun a3=>unc a2 fun a4 a5=>nC a4 fun a6=>unc a6 fun a7 a8=>kq (1,0) a7 fun _=>unc a8 fun a9 b0=>asI .i64 a9 fun _=>unc b0 fun b1 b2=>asI .i64 b1 fun _=>unn b2 (unn a5 (some ((.tup [.agg [.os (5,0) r,.os (4,0) u,.os (3,0) x],.str N,iN a3]),[])))))))))):=by
 exact (yD Tryz.func23 rfl _).trans (by kernel_rfl)
theorem GY (p0:List D) (p1 p2:Int) (p3:List D):Ck p0 p1 p2 p3 =
 br (decide (p1 < ni p0.length))
 (
 grd (decide (0 <= p1) && decide (p1 < ni p0.length)) (cT p0 p1.toNat fun a=>
 asI .i64 a fun b=>jb V 215 [.op [.os (5,0) p3,.os (4,0) [],.os (3,0) [],iN p2],iN b] fun c d=>
 iV c fun e=>unn e (unc d fun f g=>tk2 f fun h i j k=>(unn g (br (k == 3)
 (some ((.tup [.agg [.os (5,0) [],.os (4,0) [],.os (3,0) []],iN (3),iN (0)]),[]))
 (
 br (k != 0)
 (some ((.tup [.agg [.os (5,0) [],.os (4,0) [],.os (3,0) []],iN k,iN p1]),[]))
 (Ap p0 (w6 (p1 + 1)) k h i j)))))))
 (
 jb V 59 [.agg [.rs (5,0) p3,.rs (4,0) [],.rs (3,0) []]] fun a b=>
 asB a fun c=>unn b (br (!c)
 (some ((.tup [.agg [.os (5,0) [],.os (4,0) [],.os (3,0) []],iN (3),iN (0)]),[]))
 (some ((.tup [.agg [.os (5,0) p3,.os (4,0) [],.os (3,0) []],iN (0),(iN (ni p0.length))]),[])))):=by
 exact (yC _ _ _).trans (by kernel_rfl)
theorem KN (a0_0:List D) (a1_:Int):V 195 [.agg [.rs (5,0) a0_0],iN a1_] =
 jb V 55 [.agg [.rs (5,0) a0_0]] fun a b=>
 asB a fun c=>unn b (br (!c)
 (some ((.tup [.str ({ data:=#[] }),.bool false]),[]))
 (
 jb V 56 [.agg [.rs (5,0) a0_0],iN a1_] fun d e=>
 asB d fun f=>unn e (br (!f)
 (some ((.tup [.str ({ data:=#[] }),.bool false]),[]))
 (
 jb V 66 [.agg [.rs (5,0) a0_0],.rs (1,0) [iN a1_]] fun g h=>
 iV g fun i=>unc i fun j k=>asAgg j fun l=>unc l fun m n=>jl (5,0) m fun o=>unn n (unc k fun p q=>jl (1,0) p fun _=>unn q (unn h (jb V 68 [.agg [.rs (5,0) o]] fun r s=>
 jl (1,0) r fun t=>unn s (gy t fun u=>some ((.tup [.str u,.bool true]),[]))))))))):=by
 exact (yD Tryz.func195 rfl _).trans (by kernel_rfl)
theorem MW (a0_:List D) (a1_:Int):V 174 [.rs (1,0) a0_,iN a1_] =
 jb V 173 [.rs (1,0) a0_,iN a1_] fun a b=>
 TU a fun c d e=>(unn b (br (!e)
 (some ((.tup [.str ({ data:=#[] }),iN (0),.bool false]),[]))
 (
 br (decide (c > w6 (ni a0_.length - d)))
 (some ((.tup [.str ({ data:=#[] }),iN (0),.bool false]),[]))
 (grd (cW a0_.length (some d) (some (w6 (d + c)))) (gy (wu (wt a0_ (w6 (d + c))) d) fun f=>some ((.tup [.str f,(iN (w6 (d + c))),.bool true]),[])))))):=by
 exact (yD Tryz.func174 rfl _).trans (by kernel_rfl)
theorem Dk (p0:List D) (p1:Int) (p2:List D):Bj p0 p1 p2 =
 br (decide (p1 < ni p0.length))
 (
 grd (decide (0 <= p1) && decide (p1 < ni p0.length)) (cT p0 p1.toNat fun a=>
 asI .i64 a fun b=>jb V 61 [.agg [.rs (5,0) p2],iN b] fun c d=>
 asB c fun e=>unn d (br (!e)
 (some ((.tup [.agg [.os (5,0) [],.os (4,0) [],.os (3,0) []],iN (3),iN (0)]),[]))
 (Bj p0 (w6 (p1 + 1)) p2))))
 (
 jb V 147 [.agg [.rs (5,0) p2]] fun a b=>
 asAgg a fun c=>unc c fun d e=>jl (5,0) d fun f=>unn e (unn b (Ck p0 (0) (0) f))):=by
 exact (yC _ _ _).trans (by kernel_rfl)
theorem O6 (a0_0:List D) (a0_1 a0_2 a1_:Int):V 155 [.op [.rs (1,0) a0_0,iN a0_1,iN a0_2],iN a1_] =
 jb V 76 [.op [.rs (1,0) a0_0,iN a0_1,iN a0_2],iN a1_] fun a b=>
 asI .i64 a fun c=>unc b fun d e=>nC d fun f=>unc f fun g h=>kq (1,0) g fun i=>unc h fun j k=>asI .i64 j fun l=>unc k fun m n=>asI .i64 m fun o=>unn n (unn e (some ((.bool (c == 0)),[.op [.rs (1,0) i,iN l,iN o]]))):=by
 exact (yD Tryz.func155 rfl _).trans (by kernel_rfl)
theorem CX (p0 p1:Int) (p2 p3 p4 p5:List D):zA p0 p1 p2 p3 p4 p5 =
 br (decide (p0 < ni p2.length))
 (
 br (p1 == 0)
 (z9 p0 (0) p1 p2 p3 p4 p5)
 (some ((.os (1,0) p2),[.op [.os (5,0) p3,.os (4,0) p4,.os (3,0) p5,iN p1]])))
 (some ((.os (1,0) p2),[.op [.os (5,0) p3,.os (4,0) p4,.os (3,0) p5,iN p1]])):=by
 exact (yC _ _ _).trans (by kernel_rfl)
theorem Qj (a0_0 a1_:List D):V 189 [.agg [.rs (5,0) a0_0],.rs (1,0) a1_] =
 grd (decide (0 <= ni a0_0.length) && decide (ni a0_0.length <= LIM)) (AW a1_ (ni a1_.length) (0) a0_0 (List.replicate (Int.toNat (ni a0_0.length)) (D.bool false))):=by
 exact (yD Tryz.func189 rfl _).trans (by kernel_rfl)
theorem Pc (p l d:List D) (h:Int) (x e:List D):V 236 [.op [.os (5,0) p,.os (4,0) l,.os (3,0) d,iN h],.rs (1,0) x,.rs (1,1) e] =
 AF x e (0) h p l d:=by
 exact (yD Tryz.func236 rfl _).trans (by kernel_rfl)
theorem Qk (a0_0 a0_1 a0_2:List D) (a1_:ByteArray):V 129 [.agg [.rs (5,0) a0_0,.rs (4,0) a0_1,.rs (3,0) a0_2],.str a1_] =
 Cn a1_ (0) a0_0 a0_1 a0_2:=by
 exact (yD Tryz.func129 rfl _).trans (by kernel_rfl)
theorem JY (l:List D) (s:ByteArray):V 178 [.rs (3,0) l,.fn 179 [.bp [.str s]]] =
 Am l s (ni l.length) (0):=by
 exact (yD Tryz.func178 rfl _).trans (by kernel_rfl)
theorem IZ (l:List D):V 145 [.rs (1,0) l,.fn 83 []] =
 zX l (ni l.length) (0):=by
 exact (yD Tryz.func145 rfl _).trans (by kernel_rfl)
theorem Qt (a0_:List D) (a1_:ByteArray):V 248 [.rs (1,1) a0_,.str a1_] =
 AY a0_ a1_ (0):=by
 exact (yD Tryz.func248 rfl _).trans (by kernel_rfl)

end Go.Eng
/-! the functions as the interpreter has them -/
namespace Go.Eng
open Go.Proofs Go.Proofs.Tryz
set_option maxRecDepth 100000
theorem Pf (p l d:List D) (h x:Int) (e:List D):V 244 [.op [.os (5,0) p,.os (4,0) l,.os (3,0) d,iN h],iN x,.rs (1,1) e] =
 br (h != 0)
 (some ((.tup []),[.op [.os (5,0) p,.os (4,0) l,.os (3,0) d,iN h]]))
 (
 grd (decide (0 <= x) && decide (x < ni p.length)) (cT p x.toNat fun a=>
 tk1 a fun b _ c _ _=>(br (b == 1)
 (
 br (b == 1)
 (
 jb V 237 [.op [.os (5,0) p,.os (4,0) l,.os (3,0) d,iN h],(.agg [iN (1),iN x,iN (0),.str ({ data:=#[] })])] fun f g=>
 asI .i64 f fun _=>unc g fun i j=>tk2 i fun k m n o=>(unn j (some ((.tup []),[.op [.os (5,0) k,.os (4,0) m,.os (3,0) n,iN o]]))))
 (
 br (b == 4)
 (
 jb V 238 [.str c] fun f g=>
 asB f fun i=>unn g (br i
 (some ((.tup []),[.op [.os (5,0) p,.os (4,0) l,.os (3,0) d,iN (1)]]))
 (
 jb V 248 [.rs (1,1) e,.str c] fun j k=>
 tk9 j fun m n=>(unn k (br (decide (m >= 0))
 (
 jb V 237 [.op [.os (5,0) p,.os (4,0) l,.os (3,0) d,iN h],(.agg [iN (2),iN m,iN n,.str ({ data:=#[] })])] fun o q=>
 asI .i64 o fun _=>unc q fun r s=>tk2 r fun t u v w=>(unn s (some ((.tup []),[.op [.os (5,0) t,.os (4,0) u,.os (3,0) v,iN w]]))))
 (
 jb V 237 [.op [.os (5,0) p,.os (4,0) l,.os (3,0) d,iN h],(.agg [iN (3),iN (0),iN (0),.str c])] fun o q=>
 asI .i64 o fun _=>unc q fun r s=>tk2 r fun t u v w=>(unn s (some ((.tup []),[.op [.os (5,0) t,.os (4,0) u,.os (3,0) v,iN w]])))))))))
 (
 br (b != 5)
 (some ((.tup []),[.op [.os (5,0) p,.os (4,0) l,.os (3,0) d,iN (1)]]))
 (
 jb V 228 [.agg [.rs (5,0) p],iN x] fun f g=>
 tk3 f fun i j=>(unn g (br (!j)
 (some ((.tup []),[.op [.os (5,0) p,.os (4,0) l,.os (3,0) d,iN (1)]]))
 (
 grd (decide (0 <= 0) && decide (0 < ni i.length)) (cT i 0 fun k=>
 asI .i64 k fun m=>grd (decide (0 <= m) && decide (m < ni p.length)) (cT p m.toNat fun n=>
 tk1 n fun o _ q _ _=>(br (o == 4)
 (
 jb V 238 [.str q] fun r s=>
 asB r fun t=>unn s (br t
 (
 jb V 249 [.op [.os (5,0) p,.os (4,0) l,.os (3,0) d,iN h],.str q,.rs (1,0) i,.rs (1,1) e] fun u v=>
 iV u fun w=>unn w (unc v fun y z=>tk2 y fun A B C E=>(unn z (some ((.tup []),[.op [.os (5,0) A,.os (4,0) B,.os (3,0) C,iN E]])))))
 (
 br (decide (ni i.length > 5))
 (some ((.tup []),[.op [.os (5,0) p,.os (4,0) l,.os (3,0) d,iN (1)]]))
 (zk e (0) h i p l d))))
 (
 br (decide (ni i.length > 5))
 (some ((.tup []),[.op [.os (5,0) p,.os (4,0) l,.os (3,0) d,iN (1)]]))
 (zk e (0) h i p l d))))))))))))
 (
 br (b == 2)
 (
 br (b == 2)
 (
 jb V 237 [.op [.os (5,0) p,.os (4,0) l,.os (3,0) d,iN h],(.agg [iN (1),iN x,iN (0),.str ({ data:=#[] })])] fun f g=>
 asI .i64 f fun _=>unc g fun i j=>tk2 i fun k m n o=>(unn j (some ((.tup []),[.op [.os (5,0) k,.os (4,0) m,.os (3,0) n,iN o]]))))
 (
 br (b == 4)
 (
 jb V 238 [.str c] fun f g=>
 asB f fun i=>unn g (br i
 (some ((.tup []),[.op [.os (5,0) p,.os (4,0) l,.os (3,0) d,iN (1)]]))
 (
 jb V 248 [.rs (1,1) e,.str c] fun j k=>
 tk9 j fun m n=>(unn k (br (decide (m >= 0))
 (
 jb V 237 [.op [.os (5,0) p,.os (4,0) l,.os (3,0) d,iN h],(.agg [iN (2),iN m,iN n,.str ({ data:=#[] })])] fun o q=>
 asI .i64 o fun _=>unc q fun r s=>tk2 r fun t u v w=>(unn s (some ((.tup []),[.op [.os (5,0) t,.os (4,0) u,.os (3,0) v,iN w]]))))
 (
 jb V 237 [.op [.os (5,0) p,.os (4,0) l,.os (3,0) d,iN h],(.agg [iN (3),iN (0),iN (0),.str c])] fun o q=>
 asI .i64 o fun _=>unc q fun r s=>tk2 r fun t u v w=>(unn s (some ((.tup []),[.op [.os (5,0) t,.os (4,0) u,.os (3,0) v,iN w]])))))))))
 (
 br (b != 5)
 (some ((.tup []),[.op [.os (5,0) p,.os (4,0) l,.os (3,0) d,iN (1)]]))
 (
 jb V 228 [.agg [.rs (5,0) p],iN x] fun f g=>
 tk3 f fun i j=>(unn g (br (!j)
 (some ((.tup []),[.op [.os (5,0) p,.os (4,0) l,.os (3,0) d,iN (1)]]))
 (
 grd (decide (0 <= 0) && decide (0 < ni i.length)) (cT i 0 fun k=>
 asI .i64 k fun m=>grd (decide (0 <= m) && decide (m < ni p.length)) (cT p m.toNat fun n=>
 tk1 n fun o _ q _ _=>(br (o == 4)
 (
 jb V 238 [.str q] fun r s=>
 asB r fun t=>unn s (br t
 (
 jb V 249 [.op [.os (5,0) p,.os (4,0) l,.os (3,0) d,iN h],.str q,.rs (1,0) i,.rs (1,1) e] fun u v=>
 iV u fun w=>unn w (unc v fun y z=>tk2 y fun A B C E=>(unn z (some ((.tup []),[.op [.os (5,0) A,.os (4,0) B,.os (3,0) C,iN E]])))))
 (
 br (decide (ni i.length > 5))
 (some ((.tup []),[.op [.os (5,0) p,.os (4,0) l,.os (3,0) d,iN (1)]]))
 (zk e (0) h i p l d))))
 (
 br (decide (ni i.length > 5))
 (some ((.tup []),[.op [.os (5,0) p,.os (4,0) l,.os (3,0) d,iN (1)]]))
 (zk e (0) h i p l d))))))))))))
 (
 br (b == 3)
 (
 jb V 237 [.op [.os (5,0) p,.os (4,0) l,.os (3,0) d,iN h],(.agg [iN (1),iN x,iN (0),.str ({ data:=#[] })])] fun f g=>
 asI .i64 f fun _=>unc g fun i j=>tk2 i fun k m n o=>(unn j (some ((.tup []),[.op [.os (5,0) k,.os (4,0) m,.os (3,0) n,iN o]]))))
 (
 br (b == 4)
 (
 jb V 238 [.str c] fun f g=>
 asB f fun i=>unn g (br i
 (some ((.tup []),[.op [.os (5,0) p,.os (4,0) l,.os (3,0) d,iN (1)]]))
 (
 jb V 248 [.rs (1,1) e,.str c] fun j k=>
 tk9 j fun m n=>(unn k (br (decide (m >= 0))
 (
 jb V 237 [.op [.os (5,0) p,.os (4,0) l,.os (3,0) d,iN h],(.agg [iN (2),iN m,iN n,.str ({ data:=#[] })])] fun o q=>
 asI .i64 o fun _=>unc q fun r s=>tk2 r fun t u v w=>(unn s (some ((.tup []),[.op [.os (5,0) t,.os (4,0) u,.os (3,0) v,iN w]]))))
 (
 jb V 237 [.op [.os (5,0) p,.os (4,0) l,.os (3,0) d,iN h],(.agg [iN (3),iN (0),iN (0),.str c])] fun o q=>
 asI .i64 o fun _=>unc q fun r s=>tk2 r fun t u v w=>(unn s (some ((.tup []),[.op [.os (5,0) t,.os (4,0) u,.os (3,0) v,iN w]])))))))))
 (
 br (b != 5)
 (some ((.tup []),[.op [.os (5,0) p,.os (4,0) l,.os (3,0) d,iN (1)]]))
 (
 jb V 228 [.agg [.rs (5,0) p],iN x] fun f g=>
 tk3 f fun i j=>(unn g (br (!j)
 (some ((.tup []),[.op [.os (5,0) p,.os (4,0) l,.os (3,0) d,iN (1)]]))
 (
 grd (decide (0 <= 0) && decide (0 < ni i.length)) (cT i 0 fun k=>
 asI .i64 k fun m=>grd (decide (0 <= m) && decide (m < ni p.length)) (cT p m.toNat fun n=>
 tk1 n fun o _ q _ _=>(br (o == 4)
 (
 jb V 238 [.str q] fun r s=>
 asB r fun t=>unn s (br t
 (
 jb V 249 [.op [.os (5,0) p,.os (4,0) l,.os (3,0) d,iN h],.str q,.rs (1,0) i,.rs (1,1) e] fun u v=>
 iV u fun w=>unn w (unc v fun y z=>tk2 y fun A B C E=>(unn z (some ((.tup []),[.op [.os (5,0) A,.os (4,0) B,.os (3,0) C,iN E]])))))
 (
 br (decide (ni i.length > 5))
 (some ((.tup []),[.op [.os (5,0) p,.os (4,0) l,.os (3,0) d,iN (1)]]))
 (zk e (0) h i p l d))))
 (
 br (decide (ni i.length > 5))
 (some ((.tup []),[.op [.os (5,0) p,.os (4,0) l,.os (3,0) d,iN (1)]]))
 (zk e (0) h i p l d)))))))))))))))):=by
 exact (yD Tryz.func244 rfl _).trans (by kernel_rfl)
theorem Ia (p0:ByteArray) (p1 p2:List D) (p3 p4:Int) (p5 p6 p7:List D):z8 p0 p1 p2 p3 p4 p5 p6 p7 =
 br (decide (p3 < ni p7.length))
 (
 br (p4 == 0)
 (
 grd (decide (0 <= p3) && decide (p3 < ni p7.length)) (cT p7 p3.toNat fun a=>
 asAgg a fun b=>cT b 0 fun c=>
 asS c fun d=>br (kc d p0)
 (z8 p0 p1 p2 (w6 (p3 + 1)) (2) p5 p6 p7)
 (z8 p0 p1 p2 (w6 (p3 + 1)) p4 p5 p6 p7)))
 (
 grd (decide (ni (List.length (p7++[D.agg [D.str p0,iN (ni p6.length),iN (ni p1.length)]])) <= LIM)) (nam (p7++[D.agg [D.str p0,iN (ni p6.length),iN (ni p1.length)]]) fun a=>
 jb V 236 [.op [.os (5,0) p5,.os (4,0) p6,.os (3,0) a,iN p4],.rs (1,0) p2,(.rs (1,1) [.rs (1,0) p1])] fun b c=>
 iV b fun d=>unn d (unc c fun e f=>tk2 e fun g h i j=>(unn f (jb V 237 [.op [.os (5,0) g,.os (4,0) h,.os (3,0) i,iN j],(.agg [iN (8),iN (0),iN (0),.str ({ data:=#[] })])] fun k l=>
 asI .i64 k fun _=>unc l fun m n=>tk2 m fun o p q r=>(unn n (some ((.tup []),[.op [.os (5,0) o,.os (4,0) p,.os (3,0) q,iN r]])))))))))
 (
 grd (decide (ni (List.length (p7++[D.agg [D.str p0,iN (ni p6.length),iN (ni p1.length)]])) <= LIM)) (nam (p7++[D.agg [D.str p0,iN (ni p6.length),iN (ni p1.length)]]) fun a=>
 jb V 236 [.op [.os (5,0) p5,.os (4,0) p6,.os (3,0) a,iN p4],.rs (1,0) p2,(.rs (1,1) [.rs (1,0) p1])] fun b c=>
 iV b fun d=>unn d (unc c fun e f=>tk2 e fun g h i j=>(unn f (jb V 237 [.op [.os (5,0) g,.os (4,0) h,.os (3,0) i,iN j],(.agg [iN (8),iN (0),iN (0),.str ({ data:=#[] })])] fun k l=>
 asI .i64 k fun _=>unc l fun m n=>tk2 m fun o p q r=>(unn n (some ((.tup []),[.op [.os (5,0) o,.os (4,0) p,.os (3,0) q,iN r]])))))))):=by
 exact (yC _ _ _).trans (by kernel_rfl)
theorem JZ (a0_0 a0_1 a0_2:List D) (a1_:ByteArray):V 77 [.agg [.rs (5,0) a0_0,.rs (4,0) a0_1,.rs (3,0) a0_2],.str a1_] =
 jb V 125 [.agg [.rs (5,0) a0_0,.rs (4,0) a0_1,.rs (3,0) a0_2],.str a1_] fun a b=>
 asI .i64 a fun c=>unn b (jb V 54 [.agg [.rs (5,0) a0_0,.rs (4,0) a0_1,.rs (3,0) a0_2]] fun d e=>
 asB d fun f=>unn e (br (!f)
 (some ((.tup [.agg [.os (5,0) [],iN (0),iN (0),iN (0),iN (0),iN (0),iN (0),iN (0)],.bool false]),[]))
 (
 br (decide (c < 0))
 (some ((.tup [.agg [.os (5,0) [],iN (0),iN (0),iN (0),iN (0),iN (0),iN (0),iN (0)],.bool false]),[]))
 (
 grd (decide (0 <= c) && decide (c < ni a0_2.length)) (cT a0_2 c.toNat fun g=>
 asAgg g fun h=>cT h 2 fun i=>
 asI .i64 i fun j=>br (j != 0)
 (some ((.tup [.agg [.os (5,0) [],iN (0),iN (0),iN (0),iN (0),iN (0),iN (0),iN (0)],.bool false]),[]))
 (
 grd (decide (0 <= c) && decide (c < ni a0_2.length)) (cT a0_2 c.toNat fun k=>
 asAgg k fun l=>cT l 1 fun m=>
 asI .i64 m fun n=>some ((.tup [(.agg [(.os (5,0) [.agg [iN (1),iN (0),.str ({ data:=#[] }),iN (0),iN (0)],(.agg [iN (5),iN (0),.str ({ data:=#[] }),iN (0),iN (0)])]),iN n,iN (0),iN (1),iN (0),iN (0),iN (0),iN (0)]),.bool true]),[])))))))):=by
 exact (yD Tryz.func77 rfl _).trans (by kernel_rfl)
theorem Fe (p0 p1 p2:Int) (p3:Bool) (p4:List D):AC p0 p1 p2 p3 p4 =
 br (decide (p1 < p0))
 (
 br p3
 (
 br (decide (p1 <= 3000))
 (
 jb V 141 [.op [.os (1,0) p4,iN p2,.bool p3]] fun a b=>
 tk1 a fun c d e f g=>(unc b fun h i=>za h fun j k l=>(unn i (grd (decide (ni 1 <= LIM)) (zt p0 (w6 (p1 + 1)) k l j ([D.agg [iN c,iN d,D.str e,iN f,iN g]]))))))
 (some ((.agg [.os (5,0) []]),[.op [.os (1,0) p4,iN p2,.bool p3]])))
 (some ((.agg [.os (5,0) []]),[.op [.os (1,0) p4,iN p2,.bool p3]])))
 (some ((.agg [.os (5,0) []]),[.op [.os (1,0) p4,iN p2,.bool p3]])):=by
 exact (yC _ _ _).trans (by kernel_rfl)
theorem OX (a0_0 a0_1 a0_2:List D) (a1_0:Int) (a1_1:List D) (a1_2 a1_3 a1_4 a1_5 a1_6 a1_7 a1_8:Int) (a1_9 a1_10:List D):V 79 [.agg [.rs (5,0) a0_0,.rs (4,0) a0_1,.rs (3,0) a0_2],.agg [iN a1_0,.rs (5,0) a1_1,iN a1_2,iN a1_3,iN a1_4,iN a1_5,iN a1_6,iN a1_7,iN a1_8,.rs (1,0) a1_9,.rs (1,0) a1_10]] =
 jb V 62 [iN a1_0,iN (1),iN (1000000000)] fun a b=>
 asB a fun c=>unn b (br (!c)
 (some ((.bool false),[]))
 (
 jb V 15 [.agg [.rs (5,0) a0_0,.rs (4,0) a0_1,.rs (3,0) a0_2],(.agg [.rs (5,0) a1_1,iN a1_2,iN a1_3,iN a1_4,iN a1_5,iN a1_6,iN a1_7,iN a1_8])] fun d e=>
 asB d fun f=>unn e (br (!f)
 (some ((.bool false),[]))
 (
 br (decide (ni a1_9.length > 20))
 (some ((.bool false),[]))
 (
 br (decide (ni a1_10.length > 40))
 (some ((.bool false),[]))
 (BW (0) a1_0 a1_1 a1_2 a1_3 a1_4 a1_5 a1_6 a1_7 a1_8 a1_9 a1_10)))))):=by
 exact (yD Tryz.func79 rfl _).trans (by kernel_rfl)
theorem Qp (a0_:ByteArray):V 227 [.str a0_] =
 br (decide (ni (ByteArray.size a0_) > 1))
 (
 grd (decide (0 <= 0) && decide (0 < ni (ByteArray.size a0_))) (br (bt a0_ (0) == 45)
 (
 grd (cW (ByteArray.size a0_) (some (1)) none) (br (decide (ni (ByteArray.size (ByteArray.extract a0_ (Int.toNat (1)) (ByteArray.size a0_))) > 10))
 (some ((.tup [iN (0),.bool false]),[]))
 (
 br (ni (ByteArray.size (ByteArray.extract a0_ (Int.toNat (1)) (ByteArray.size a0_))) == 0)
 (some ((.tup [iN (0),.bool false]),[]))
 (zN a0_ (ByteArray.extract a0_ (Int.toNat (1)) (ByteArray.size a0_)) (0) (0)))))
 (
 br (decide (ni (ByteArray.size a0_) > 10))
 (some ((.tup [iN (0),.bool false]),[]))
 (
 br (ni (ByteArray.size a0_) == 0)
 (some ((.tup [iN (0),.bool false]),[]))
 (zN a0_ a0_ (0) (0))))))
 (
 br (decide (ni (ByteArray.size a0_) > 10))
 (some ((.tup [iN (0),.bool false]),[]))
 (
 br (ni (ByteArray.size a0_) == 0)
 (some ((.tup [iN (0),.bool false]),[]))
 (zN a0_ a0_ (0) (0)))):=by
 exact (yD Tryz.func227 rfl _).trans (by kernel_rfl)
theorem Kc (a0_:ByteArray):V 238 [.str a0_] =
 br (kc a0_ { data:=#[113,117,111,116,101] })
 (some ((.bool true),[]))
 (
 br (kc a0_ { data:=#[105,102] })
 (some ((.bool true),[]))
 (
 br (kc a0_ { data:=#[102,110] })
 (some ((.bool true),[]))
 (
 br (kc a0_ { data:=#[100,111] })
 (some ((.bool true),[]))
 (
 br (kc a0_ { data:=#[108,101,116] })
 (some ((.bool true),[]))
 (some ((.bool (kc a0_ { data:=#[100,101,102,105,110,101] })),[])))))):=by
 exact (yD Tryz.func238 rfl _).trans (by kernel_rfl)
theorem O9 (p l:List D):V 210 [.op [.os (5,0) p],.rs (1,0) l] =
 jb V 158 [.op [.os (5,0) p],(.agg [iN (1),iN (0),.str ({ data:=#[] }),iN (0),iN (0)])] fun a b=>
 asI .i64 a fun c=>unc b fun d e=>nC d fun f=>unc f fun g h=>jl (5,0) g fun i=>unn h (unn e (BZ l c (w6 (ni l.length - 1)) i)):=by
 exact (yD Tryz.func210 rfl _).trans (by kernel_rfl)
theorem Jm (p q l:List D):V 137 [.op [.os (5,0) p],.agg [.rs (5,0) q],.rs (1,0) l] =
 grd (decide (0 <= ni q.length) && decide (ni q.length <= LIM)) (jb V 189 [.agg [.rs (5,0) q],.rs (1,0) l] fun a b=>
 jl (1,0) a fun c=>unn b (y3 q (ni q.length) (0) (List.replicate (Int.toNat (ni q.length)) (iN (0))) c p)):=by
 exact (yD Tryz.func137 rfl _).trans (by kernel_rfl)
theorem KQ (a0_0:List D):V 68 [.agg [.rs (5,0) a0_0]] =
 jb V 67 [(iN (ni a0_0.length))] fun a b=>
 jl (1,0) a fun c=>unn b (yR a0_0 (ni a0_0.length) (0) c):=by
 exact (yD Tryz.func68 rfl _).trans (by kernel_rfl)
theorem Gi (l:List D):V 80 [.rs (1,0) l,.fn 83 []] =
 jb V 145 [.rs (1,0) l,(.fn 83 [])] fun a b=>
 asI .i64 a fun c=>unn b (some ((.bool (decide (c >= 0))),[])):=by
 exact (yD Tryz.func80 rfl _).trans (by kernel_rfl)
theorem Lz (a0_:ByteArray):V 81 [.str a0_] =
 jb V 82 [.str a0_] fun a b=>
 asB a fun c=>unn b (some ((.bool (!c)),[])):=by
 exact (yD Tryz.func81 rfl _).trans (by kernel_rfl)
end Go.Eng
/-! the functions as the interpreter has them -/
namespace Go.Eng
open Go.Proofs Go.Proofs.Tryz
set_option maxRecDepth 100000
theorem J9 (a0_0:List D) (a0_1 a0_2 a1_:Int):V 214 [.op [.rs (1,0) a0_0,iN a0_1,iN a0_2],iN a1_] =
 br (decide (a1_ <= 0))
 (
 jb V 75 [.op [.rs (1,0) a0_0,iN a0_1,iN a0_2],(.rs (1,0) [.str ({ data:=#[49] }),.str ({ data:=#[120] }),.str ({ data:=#[121] }),.str ({ data:=#[45,50] }),.str ({ data:=#[35,116] }),.str ({ data:=#[40,41] }),.str ({ data:=#[102] }),.str ({ data:=#[40,113,117,111,116,101,32,97,41] }),.str ({ data:=#[48] })])] fun a b=>
 asS a fun c=>unc b fun d e=>nC d fun f=>unc f fun g h=>kq (1,0) g fun i=>unc h fun j k=>asI .i64 j fun l=>unc k fun m n=>asI .i64 m fun o=>unn n (unn e (some ((.str c),[.op [.rs (1,0) i,iN l,iN o]]))))
 (
 jb V 214 [.op [.rs (1,0) a0_0,iN a0_1,iN a0_2],(iN (w6 (a1_ - 1)))] fun a b=>
 asS a fun c=>unc b fun d e=>nC d fun f=>unc f fun g h=>kq (1,0) g fun i=>unc h fun j k=>asI .i64 j fun l=>unc k fun m n=>asI .i64 m fun o=>unn n (unn e (jb V 214 [.op [.rs (1,0) i,iN l,iN o],(iN (w6 (a1_ - 1)))] fun p q=>
 asS p fun r=>unc q fun s t=>nC s fun u=>unc u fun v w=>kq (1,0) v fun x=>unc w fun y z=>asI .i64 y fun A=>unc z fun B C=>asI .i64 B fun E=>unn C (unn t (jb V 76 [.op [.rs (1,0) x,iN A,iN E],iN (9)] fun F G=>
 asI .i64 F fun H=>unc G fun I J=>nC I fun K=>unc K fun L M=>kq (1,0) L fun N=>unc M fun O P=>asI .i64 O fun Q=>unc P fun R S=>asI .i64 R fun T=>unn S (unn J (br (H == 0)
 (
 grd (decide (ni (ByteArray.size { data:=#[40,105,102,32] } + ByteArray.size c) <= LIM)) (grd (decide (ni (ByteArray.size ({ data:=#[40,105,102,32] }++c) + ByteArray.size { data:=#[32] }) <= LIM)) (grd (decide (ni (ByteArray.size ({ data:=#[40,105,102,32] }++c++{ data:=#[32] }) + ByteArray.size r) <= LIM)) (grd (decide (ni (ByteArray.size ({ data:=#[40,105,102,32] }++c++{ data:=#[32] }++r) + ByteArray.size { data:=#[32] }) <= LIM)) (jb V 214 [.op [.rs (1,0) N,iN Q,iN T],(iN (w6 (a1_ - 2)))] fun U W=>
 asS U fun X=>unc W fun Y Z=>nC Y fun a0=>unc a0 fun a1 a2=>kq (1,0) a1 fun a3=>unc a2 fun a4 a5=>asI .i64 a4 fun a6=>unc a5 fun a7 a8=>asI .i64 a7 fun a9=>unn a8 (unn Z (grd (decide (ni (ByteArray.size ({ data:=#[40,105,102,32] }++c++{ data:=#[32] }++r++{ data:=#[32] }) + ByteArray.size X) <= LIM)) (grd (decide (ni (ByteArray.size ({ data:=#[40,105,102,32] }++c++{ data:=#[32] }++r++{ data:=#[32] }++X) + ByteArray.size { data:=#[41] }) <= LIM)) (some ((.str ({ data:=#[40,105,102,32] }++c++{ data:=#[32] }++r++{ data:=#[32] }++X++{ data:=#[41] })),[.op [.rs (1,0) a3,iN a6,iN a9]]))))))))))
 (
 br (H == 1)
 (grd (decide (ni (ByteArray.size { data:=#[40,102,110,32,40,120,32,121,41,32] } + ByteArray.size c) <= LIM)) (grd (decide (ni (ByteArray.size ({ data:=#[40,102,110,32,40,120,32,121,41,32] }++c) + ByteArray.size { data:=#[41] }) <= LIM)) (some ((.str ({ data:=#[40,102,110,32,40,120,32,121,41,32] }++c++{ data:=#[41] })),[.op [.rs (1,0) N,iN Q,iN T]]))))
 (
 br (H == 2)
 (grd (decide (ni (ByteArray.size { data:=#[40,108,101,116,32,120,32] } + ByteArray.size c) <= LIM)) (grd (decide (ni (ByteArray.size ({ data:=#[40,108,101,116,32,120,32] }++c) + ByteArray.size { data:=#[32] }) <= LIM)) (grd (decide (ni (ByteArray.size ({ data:=#[40,108,101,116,32,120,32] }++c++{ data:=#[32] }) + ByteArray.size r) <= LIM)) (grd (decide (ni (ByteArray.size ({ data:=#[40,108,101,116,32,120,32] }++c++{ data:=#[32] }++r) + ByteArray.size { data:=#[41] }) <= LIM)) (some ((.str ({ data:=#[40,108,101,116,32,120,32] }++c++{ data:=#[32] }++r++{ data:=#[41] })),[.op [.rs (1,0) N,iN Q,iN T]]))))))
 (
 br (H == 3)
 (grd (decide (ni (ByteArray.size { data:=#[40,100,111,32] } + ByteArray.size c) <= LIM)) (grd (decide (ni (ByteArray.size ({ data:=#[40,100,111,32] }++c) + ByteArray.size { data:=#[32] }) <= LIM)) (grd (decide (ni (ByteArray.size ({ data:=#[40,100,111,32] }++c++{ data:=#[32] }) + ByteArray.size r) <= LIM)) (grd (decide (ni (ByteArray.size ({ data:=#[40,100,111,32] }++c++{ data:=#[32] }++r) + ByteArray.size { data:=#[41] }) <= LIM)) (some ((.str ({ data:=#[40,100,111,32] }++c++{ data:=#[32] }++r++{ data:=#[41] })),[.op [.rs (1,0) N,iN Q,iN T]]))))))
 (
 br (H == 4)
 (grd (decide (ni (ByteArray.size { data:=#[40,112,114,105,110,116,32] } + ByteArray.size c) <= LIM)) (grd (decide (ni (ByteArray.size ({ data:=#[40,112,114,105,110,116,32] }++c) + ByteArray.size { data:=#[41] }) <= LIM)) (some ((.str ({ data:=#[40,112,114,105,110,116,32] }++c++{ data:=#[41] })),[.op [.rs (1,0) N,iN Q,iN T]]))))
 (
 br (H == 5)
 (grd (decide (ni (ByteArray.size { data:=#[40,40,102,110,32,40,121,41,32] } + ByteArray.size c) <= LIM)) (grd (decide (ni (ByteArray.size ({ data:=#[40,40,102,110,32,40,121,41,32] }++c) + ByteArray.size { data:=#[41,32] }) <= LIM)) (grd (decide (ni (ByteArray.size ({ data:=#[40,40,102,110,32,40,121,41,32] }++c++{ data:=#[41,32] }) + ByteArray.size r) <= LIM)) (grd (decide (ni (ByteArray.size ({ data:=#[40,40,102,110,32,40,121,41,32] }++c++{ data:=#[41,32] }++r) + ByteArray.size { data:=#[41] }) <= LIM)) (some ((.str ({ data:=#[40,40,102,110,32,40,121,41,32] }++c++{ data:=#[41,32] }++r++{ data:=#[41] })),[.op [.rs (1,0) N,iN Q,iN T]]))))))
 (
 br (H == 6)
 (
 jb V 75 [.op [.rs (1,0) N,iN Q,iN T],(.rs (1,0) [.str ({ data:=#[43] }),.str ({ data:=#[45] }),.str ({ data:=#[42] }),.str ({ data:=#[60] }),.str ({ data:=#[61] }),.str ({ data:=#[99,111,110,115] }),.str ({ data:=#[101,113,63] })])] fun U W=>
 asS U fun X=>unc W fun Y Z=>nC Y fun a0=>unc a0 fun a1 a2=>kq (1,0) a1 fun a3=>unc a2 fun a4 a5=>asI .i64 a4 fun a6=>unc a5 fun a7 a8=>asI .i64 a7 fun a9=>unn a8 (unn Z (grd (decide (ni (ByteArray.size { data:=#[40] } + ByteArray.size X) <= LIM)) (grd (decide (ni (ByteArray.size ({ data:=#[40] }++X) + ByteArray.size { data:=#[32] }) <= LIM)) (grd (decide (ni (ByteArray.size ({ data:=#[40] }++X++{ data:=#[32] }) + ByteArray.size c) <= LIM)) (grd (decide (ni (ByteArray.size ({ data:=#[40] }++X++{ data:=#[32] }++c) + ByteArray.size { data:=#[32] }) <= LIM)) (grd (decide (ni (ByteArray.size ({ data:=#[40] }++X++{ data:=#[32] }++c++{ data:=#[32] }) + ByteArray.size r) <= LIM)) (grd (decide (ni (ByteArray.size ({ data:=#[40] }++X++{ data:=#[32] }++c++{ data:=#[32] }++r) + ByteArray.size { data:=#[41] }) <= LIM)) (some ((.str ({ data:=#[40] }++X++{ data:=#[32] }++c++{ data:=#[32] }++r++{ data:=#[41] })),[.op [.rs (1,0) a3,iN a6,iN a9]]))))))))))
 (
 br (H == 7)
 (
 jb V 75 [.op [.rs (1,0) N,iN Q,iN T],(.rs (1,0) [.str ({ data:=#[99,97,114] }),.str ({ data:=#[99,100,114] }),.str ({ data:=#[110,117,108,108,63] }),.str ({ data:=#[112,97,105,114,63] }),.str ({ data:=#[110,111,116] }),.str ({ data:=#[99,97,108,108,99,99] })])] fun U W=>
 asS U fun X=>unc W fun Y Z=>nC Y fun a0=>unc a0 fun a1 a2=>kq (1,0) a1 fun a3=>unc a2 fun a4 a5=>asI .i64 a4 fun a6=>unc a5 fun a7 a8=>asI .i64 a7 fun a9=>unn a8 (unn Z (grd (decide (ni (ByteArray.size { data:=#[40] } + ByteArray.size X) <= LIM)) (grd (decide (ni (ByteArray.size ({ data:=#[40] }++X) + ByteArray.size { data:=#[32] }) <= LIM)) (grd (decide (ni (ByteArray.size ({ data:=#[40] }++X++{ data:=#[32] }) + ByteArray.size c) <= LIM)) (grd (decide (ni (ByteArray.size ({ data:=#[40] }++X++{ data:=#[32] }++c) + ByteArray.size { data:=#[41] }) <= LIM)) (some ((.str ({ data:=#[40] }++X++{ data:=#[32] }++c++{ data:=#[41] })),[.op [.rs (1,0) a3,iN a6,iN a9]]))))))))
 (some ((.str c),[.op [.rs (1,0) N,iN Q,iN T]])))))))))))))))):=by
 exact (yD Tryz.func214 rfl _).trans (by kernel_rfl)
theorem IV (p0:ByteArray) (p1:Nat) (p2 p3 p4:Int) (p5 p6 p7 p8:List D):zG p0 p1 p2 p3 p4 p5 p6 p7 p8 =
 br (decide (p2 < ni (ByteArray.size p0)))
 (
 grd (decide (0 <= p2) && decide (p2 < ni (ByteArray.size p0))) (jb V 211 [.int .u8 (bt p0 p2)] fun a b=>
 asB a fun c=>unn b (br c
 (zG p0 p1 (w6 (p2 + 1)) p3 p4 p5 p6 p7 p8)
 (
 grd (cW (ByteArray.size p0) (some p4) (some p2)) (jb V 212 [(.str (ByteArray.extract p0 p4.toNat p2.toNat))] fun d e=>
 iV d fun f=>unc f fun g h=>tk1 g fun i j k l m=>(unc h fun n o=>asB n fun p=>unn o (unn e (br (!p)
 (
 jb V 147 [.agg [.rs (5,0) p5]] fun q r=>
 asAgg q fun s=>unc s fun t u=>jl (5,0) t fun v=>unn u (unn r (some ((.tup [.agg [.os (5,0) v],.os (1,0) p6,iN (3),iN p4]),[]))))
 (
 grd (decide (0 <= p3) && decide (p3 < ni p1) && decide (0 + p1 <= List.length p7)) (cT p7 (0 + Int.toNat p3) fun q=>
 asAgg q fun r=>cT r 1 fun s=>
 jl (1,0) s fun t=>asAgg q fun u=>jb V 158 [.op [.os (5,0) p8],.agg [iN i,iN j,.str k,iN l,iN m]] fun v w=>
 asI .i64 v fun x=>unc w fun y z=>nC y fun A=>unc A fun B C=>jl (5,0) B fun E=>unn C (unn z (grd (decide (ni (List.length (t++[iN x])) <= LIM)) (nam (t++[iN x]) fun F=>
 grd (decide (0 <= p3) && decide (p3 < ni p1) && decide (0 + p1 <= List.length (List.set p7 (0 + Int.toNat p3) (D.agg (List.take 1 u++[D.dead]++List.drop 2 u))))) (cT (List.set p7 (0 + Int.toNat p3) (D.agg (List.take 1 u++[D.dead]++List.drop 2 u))) (0 + Int.toNat p3) fun G=>
 asAgg G fun H=>nam (List.set (List.set p7 (0 + Int.toNat p3) (D.agg (List.take 1 u++[D.dead]++List.drop 2 u))) (0 + Int.toNat p3)
 (D.agg
 (List.take 1 H ++
 [D.os
 (TypeInfo.size (Tables.types (Program.toTables Tryz.prog))[3],
 match qU Tryz.prog (3) with
 | true=>0
 | false=>1)
 F] ++
 List.drop 2 H))) fun I=>
 y1 p0 p1 p2 p5 p6 I E))))))))))))))
 (
 grd (cW (ByteArray.size p0) (some p4) (some p2)) (jb V 212 [(.str (ByteArray.extract p0 p4.toNat p2.toNat))] fun a b=>
 iV a fun c=>unc c fun d e=>tk1 d fun f g h i j=>(unc e fun k l=>asB k fun m=>unn l (unn b (br (!m)
 (
 jb V 147 [.agg [.rs (5,0) p5]] fun n o=>
 asAgg n fun p=>unc p fun q r=>jl (5,0) q fun s=>unn r (unn o (some ((.tup [.agg [.os (5,0) s],.os (1,0) p6,iN (3),iN p4]),[]))))
 (
 grd (decide (0 <= p3) && decide (p3 < ni p1) && decide (0 + p1 <= List.length p7)) (cT p7 (0 + Int.toNat p3) fun n=>
 asAgg n fun o=>cT o 1 fun p=>
 jl (1,0) p fun q=>asAgg n fun r=>jb V 158 [.op [.os (5,0) p8],.agg [iN f,iN g,.str h,iN i,iN j]] fun s t=>
 asI .i64 s fun u=>unc t fun v w=>nC v fun x=>unc x fun y z=>jl (5,0) y fun A=>unn z (unn w (grd (decide (ni (List.length (q++[iN u])) <= LIM)) (nam (q++[iN u]) fun B=>
 grd (decide (0 <= p3) && decide (p3 < ni p1) && decide (0 + p1 <= List.length (List.set p7 (0 + Int.toNat p3) (D.agg (List.take 1 r++[D.dead]++List.drop 2 r))))) (cT (List.set p7 (0 + Int.toNat p3) (D.agg (List.take 1 r++[D.dead]++List.drop 2 r))) (0 + Int.toNat p3) fun C=>
 asAgg C fun E=>nam (List.set (List.set p7 (0 + Int.toNat p3) (D.agg (List.take 1 r++[D.dead]++List.drop 2 r))) (0 + Int.toNat p3)
 (D.agg
 (List.take 1 E ++
 [D.os
 (TypeInfo.size (Tables.types (Program.toTables Tryz.prog))[3],
 match qU Tryz.prog (3) with
 | true=>0
 | false=>1)
 B] ++
 List.drop 2 E))) fun F=>
 y1 p0 p1 p2 p5 p6 F A))))))))))):=by
 exact (yC _ _ _).trans (by kernel_rfl)
theorem DN (p0:List D) (p1 p2 p3:Int):BG p0 p1 p2 p3 =
 br (decide (p3 < 9))
 (
 br (decide (w6 (p1 + p3) < ni p0.length))
 (
 grd (decide (0 <= w6 (p1 + p3)) && decide (w6 (p1 + p3) < ni p0.length)) (cT p0 (Int.toNat (w6 (p1 + p3))) fun a=>
 asI .u8 a fun b=>grd (!decide (128 = 0)) (grd (!decide (w6 (7 * p3) < 0)) (br (decide (b < 128))
 (
 br (b == 0)
 (
 br (decide (p3 > 0))
 (some ((.tup [iN (0),iN (0),.bool false]),[]))
 (some ((.tup [(iN (w6 (ni (BitVec.toNat (BitVec.ofInt (IntKind.bits IntKind.i64) p2 ||| BitVec.ofInt (IntKind.bits IntKind.i64) (w6 (w6 (Int.tmod b (128)) * 2 ^ min (Int.toNat (w6 (7 * p3))) (IntKind.bits IntKind.i64)))))))),(iN (w6 (w6 (p1 + p3) + 1))),.bool true]),[])))
 (some ((.tup [(iN (w6 (ni (BitVec.toNat (BitVec.ofInt (IntKind.bits IntKind.i64) p2 ||| BitVec.ofInt (IntKind.bits IntKind.i64) (w6 (w6 (Int.tmod b (128)) * 2 ^ min (Int.toNat (w6 (7 * p3))) (IntKind.bits IntKind.i64)))))))),(iN (w6 (w6 (p1 + p3) + 1))),.bool true]),[])))
 (BG p0 p1 (w6 (ni (BitVec.toNat (BitVec.ofInt (IntKind.bits IntKind.i64) p2 ||| BitVec.ofInt (IntKind.bits IntKind.i64) (w6 (w6 (Int.tmod b (128)) * 2 ^ min (Int.toNat (w6 (7 * p3))) (IntKind.bits IntKind.i64))))))) (w6 (p3 + 1)))))))
 (some ((.tup [iN (0),iN (0),.bool false]),[])))
 (some ((.tup [iN (0),iN (0),.bool false]),[])):=by
 exact (yC _ _ _).trans (by kernel_rfl)
theorem DU (p0:List D) (p1 p2 p3 p4:Int):BU p0 p1 p2 p3 p4 =
 br (decide (p4 < 9))
 (
 br (decide (w6 (p1 + p4) < ni p0.length))
 (
 grd (decide (0 <= w6 (p1 + p4)) && decide (w6 (p1 + p4) < ni p0.length)) (cT p0 (Int.toNat (w6 (p1 + p4))) fun a=>
 asI .u8 a fun b=>grd (!decide (128 = 0)) (br (decide (w6 b < 128))
 (
 br (w6 b == 0)
 (
 br (decide (p4 > 0))
 (some ((.tup [iN (0),iN (0),.bool false]),[]))
 (some ((.tup [(iN (w6 (p2 + w6 (Int.tmod (w6 b) (128) * p3)))),(iN (w6 (w6 (p1 + p4) + 1))),.bool true]),[])))
 (some ((.tup [(iN (w6 (p2 + w6 (Int.tmod (w6 b) (128) * p3)))),(iN (w6 (w6 (p1 + p4) + 1))),.bool true]),[])))
 (BU p0 p1 (w6 (p2 + w6 (Int.tmod (w6 b) (128) * p3))) (w6 (p3 * 128)) (w6 (p4 + 1))))))
 (some ((.tup [iN (0),iN (0),.bool false]),[])))
 (some ((.tup [iN (0),iN (0),.bool false]),[])):=by
 exact (yC _ _ _).trans (by kernel_rfl)
theorem KV (a0_:ByteArray):V 144 [.str a0_] =
 jb V 115 [.op [.os (1,0) (gU a0_),iN (0),.bool true]] fun a b=>
 asAgg a fun c=>unc c fun d e=>jl (5,0) d fun f=>unn e (unc b fun g h=>za g fun _ _ i=>(unn h (br (!i)
 (some ((.tup [.agg [.os (5,0) []],iN (0),.bool false]),[]))
 (
 br (ni f.length == 0)
 (some ((.tup [.agg [.os (5,0) []],iN (0),.bool false]),[]))
 (
 jb V 194 [.agg [.rs (5,0) f],(iN (w6 (ni f.length - 1)))] fun j k=>
 tk6 j fun l _=>(unn k (br (!kc l a0_)
 (some ((.tup [.agg [.os (5,0) []],iN (0),.bool false]),[]))
 (some ((.tup [.agg [.os (5,0) f],(iN (w6 (ni f.length - 1))),.bool true]),[]))))))))):=by
 exact (yD Tryz.func144 rfl _).trans (by kernel_rfl)
theorem KU (a0_0:List D) (a1_:Int):V 194 [.agg [.rs (5,0) a0_0],iN a1_] =
 jb V 60 [.agg [.rs (5,0) a0_0]] fun a b=>
 asB a fun c=>unn b (br (!c)
 (some ((.tup [.str ({ data:=#[] }),.bool false]),[]))
 (
 jb V 61 [.agg [.rs (5,0) a0_0],iN a1_] fun d e=>
 asB d fun f=>unn e (br (!f)
 (some ((.tup [.str ({ data:=#[] }),.bool false]),[]))
 (
 jb V 86 [.agg [.rs (5,0) a0_0],.rs (1,0) [iN a1_]] fun g h=>
 iV g fun i=>unc i fun j k=>asAgg j fun l=>unc l fun m n=>jl (5,0) m fun o=>unn n (unc k fun p q=>jl (1,0) p fun _=>unn q (unn h (jb V 70 [.agg [.rs (5,0) o]] fun r s=>
 jl (1,0) r fun t=>unn s (gy t fun u=>some ((.tup [.str u,.bool true]),[]))))))))):=by
 exact (yD Tryz.func194 rfl _).trans (by kernel_rfl)
theorem Ph (p l d:List D) (h x:Int):V 230 [.op [.os (5,0) p,.os (4,0) l,.os (3,0) d,iN h],iN x] =
 grd (decide (0 <= x) && decide (x < ni p.length)) (cT p x.toNat fun a=>
 tk1 a fun b _ c _ _=>(br (b == 4)
 (
 jb V 238 [.str c] fun e f=>
 asB e fun g=>unn f (some ((.tup [.str c,.bool (!g)]),[.op [.os (5,0) p,.os (4,0) l,.os (3,0) d,iN h]])))
 (some ((.tup [.str c,.bool false]),[.op [.os (5,0) p,.os (4,0) l,.os (3,0) d,iN h]])))):=by
 exact (yD Tryz.func230 rfl _).trans (by kernel_rfl)
theorem D7 (p0:List D) (p1:Int) (p2 p3 p4:List D):Ce p0 p1 p2 p3 p4 =
 br (decide (p1 < ni p0.length))
 (
 grd (decide (0 <= p1) && decide (p1 < ni p0.length)) (cT p0 p1.toNat fun a=>
 asI .i64 a fun b=>grd (decide (0 <= b) && decide (b < ni p2.length)) (cT p2 b.toNat fun c=>
 asI .i64 c fun d=>grd (decide (ni (List.length (p3++[iN d])) <= LIM)) (nam (p3++[iN d]) fun e=>
 Ce p0 (w6 (p1 + 1)) p2 e p4))))
 (some ((.tup [.agg [.os (5,0) p4],.os (1,0) p3]),[])):=by
 exact (yC _ _ _).trans (by kernel_rfl)
theorem Qu (b:List D) (i:Int) (k:Bool):V 114 [.op [.os (1,0) b,iN i,.bool k]] =
 jb V 173 [.rs (1,0) b,iN i] fun a c=>
 TU a fun d e f=>(unn c (br (!f)
 (some ((iN (0)),[.op [.os (1,0) b,iN i,.bool false]]))
 (
 br (!k)
 (some ((iN (0)),[.op [.os (1,0) b,iN i,.bool false]]))
 (some ((iN d),[.op [.os (1,0) b,iN e,.bool k]]))))):=by
 exact (yD Tryz.func114 rfl _).trans (by kernel_rfl)
theorem Gl (a0_:Int):V 202 [iN a0_] =
 br (decide (a0_ < 0))
 (
 jb V 202 [(iN (w6 (0 - a0_)))] fun a b=>
 asS a fun c=>unn b (grd (decide (ni (ByteArray.size { data:=#[45] } + ByteArray.size c) <= LIM)) (some ((.str ({ data:=#[45] }++c)),[]))))
 (
 br (a0_ == 0)
 (some ((.str ({ data:=#[48] })),[]))
 (AM a0_ ({ data:=#[] }))):=by
 exact (yD Tryz.func202 rfl _).trans (by kernel_rfl)
theorem OQ (a0_:List D) (a1_:Int):V 173 [.rs (1,0) a0_,iN a1_] =
 br (decide (a1_ < 0))
 (some ((.tup [iN (0),iN (0),.bool false]),[]))
 (
 br (decide (a1_ >= ni a0_.length))
 (some ((.tup [iN (0),iN (0),.bool false]),[]))
 (BU a0_ a1_ (0) (1) (0))):=by
 exact (yD Tryz.func173 rfl _).trans (by kernel_rfl)
theorem MQ (a0_0 a0_1 a0_2:List D) (a1_:Int):V 57 [.agg [.rs (5,0) a0_0,.rs (4,0) a0_1,.rs (3,0) a0_2],iN a1_] =
 jb V 58 [iN a1_,iN (0),(iN (w6 (ni a0_1.length - 1)))] fun a b=>
 asB a fun c=>unn b (some ((.bool c),[])):=by
 exact (yD Tryz.func57 rfl _).trans (by kernel_rfl)
theorem Ng (a0_0 a1_:List D):V 149 [.agg [.rs (5,0) a0_0],.rs (1,0) a1_] =
 grd (decide (0 <= ni a0_0.length) && decide (ni a0_0.length <= LIM)) (Av a1_ (0) a0_0 (List.replicate (Int.toNat (ni a0_0.length)) (D.bool false))):=by
 exact (yD Tryz.func149 rfl _).trans (by kernel_rfl)
theorem Qo (a0_0:List D) (a1_:Int):V 61 [.agg [.rs (5,0) a0_0],iN a1_] =
 jb V 62 [iN a1_,iN (0),(iN (w6 (ni a0_0.length - 1)))] fun a b=>
 asB a fun c=>unn b (some ((.bool c),[])):=by
 exact (yD Tryz.func61 rfl _).trans (by kernel_rfl)
theorem Gh (l:List D):V 80 [.rs (1,0) l,.fn 81 []] =
 jb V 145 [.rs (1,0) l,(.fn 81 [])] fun a b=>
 asI .i64 a fun c=>unn b (some ((.bool (decide (c >= 0))),[])):=by
 exact (yD Tryz.func80 rfl _).trans (by kernel_rfl)
theorem Qm (a0_:List D):V 51 [.rs (1,0) a0_] =
 Cq a0_ (w6 (17000 + ni a0_.length)) (0):=by
 exact (yD Tryz.func51 rfl _).trans (by kernel_rfl)
theorem LF (a0_0:List D) (a1_:Int):V 228 [.agg [.rs (5,0) a0_0],iN a1_] =
 AL a1_ a0_0 []:=by
 exact (yD Tryz.func228 rfl _).trans (by kernel_rfl)
theorem OT (a0_:ByteArray):V 128 [.str a0_] =
 AE a0_ (0):=by
 exact (yD Tryz.func128 rfl _).trans (by kernel_rfl)

end Go.Eng
/-! the functions as the interpreter has them -/
namespace Go.Eng
open Go.Proofs Go.Proofs.Tryz
set_option maxRecDepth 100000
theorem O8 (a0_0:List D) (a0_1 a0_2:Int):V 90 [.op [.rs (1,0) a0_0,iN a0_1,iN a0_2]] =
 jb V 154 [.op [.rs (1,0) a0_0,iN a0_1,iN a0_2]] fun a b=>
 asAgg a fun c=>unc c fun d e=>jl (5,0) d fun f=>unn e (unc b fun g h=>nC g fun i=>unc i fun j k=>kq (1,0) j fun l=>unc k fun m n=>asI .i64 m fun o=>unc n fun p q=>asI .i64 p fun r=>unn q (unn h (br (decide (ni f.length > 0))
 (
 jb V 155 [.op [.rs (1,0) l,iN o,iN r],iN (12)] fun s t=>
 asB s fun u=>unc t fun v w=>nC v fun x=>unc x fun y z=>kq (1,0) y fun A=>unc z fun B C=>asI .i64 B fun E=>unc C fun F G=>asI .i64 F fun H=>unn G (unn w (br u
 (
 jb V 76 [.op [.rs (1,0) A,iN E,iN H],(iN (ni f.length))] fun I J=>
 asI .i64 I fun K=>unc J fun L M=>nC L fun N=>unc N fun O P=>kq (1,0) O fun Q=>unc P fun R S=>asI .i64 R fun T=>unc S fun U W=>asI .i64 U fun X=>unn W (unn M (grd (decide (0 <= K) && decide (K < ni f.length)) (cT f K.toNat fun Y=>
 asAgg Y fun Z=>unc Z fun a0 a1=>asI .i64 a0 fun a2=>unc a1 fun a3 a4=>asI .i64 a3 fun a5=>unc a4 fun a6 a7=>asS a6 fun a8=>unc a7 fun a9 b0=>asI .i64 a9 fun b1=>unc b0 fun b2 b3=>asI .i64 b2 fun b4=>unn b3 (jb V 156 [.op [.rs (1,0) Q,iN T,iN X],.agg [iN a2,iN a5,.str a8,iN b1,iN b4]] fun b5 b6=>
 asAgg b5 fun b7=>unc b7 fun b8 b9=>asI .i64 b8 fun c0=>unc b9 fun c1 c2=>asI .i64 c1 fun c3=>unc c2 fun c4 c5=>asS c4 fun c6=>unc c5 fun c7 c8=>asI .i64 c7 fun c9=>unc c8 fun d0 d1=>asI .i64 d0 fun d2=>unn d1 (unc b6 fun d3 d4=>nC d3 fun d5=>unc d5 fun d6 d7=>kq (1,0) d6 fun d8=>unc d7 fun d9 e0=>asI .i64 d9 fun e1=>unc e0 fun e2 e3=>asI .i64 e2 fun e4=>unn e3 (unn d4 (grd (decide (0 <= K) && decide (K < ni f.length)) (cT f K.toNat fun _=>
 nam (List.set f K.toNat (D.agg [iN c0,iN c3,D.str c6,iN c9,iN d2])) fun e5=>
 jb V 155 [.op [.rs (1,0) d8,iN e1,iN e4],iN (60)] fun e6 e7=>
 asB e6 fun e8=>unc e7 fun e9 f0=>nC e9 fun f1=>unc f1 fun f2 f3=>kq (1,0) f2 fun f4=>unc f3 fun f5 f6=>asI .i64 f5 fun f7=>unc f6 fun f8 f9=>asI .i64 f8 fun g0=>unn f9 (unn f0 (br e8
 (
 jb V 76 [.op [.rs (1,0) f4,iN f7,iN g0],iN (2)] fun g1 g2=>
 asI .i64 g1 fun g3=>unc g2 fun g4 g5=>nC g4 fun g6=>unc g6 fun g7 g8=>kq (1,0) g7 fun g9=>unc g8 fun h0 h1=>asI .i64 h0 fun h2=>unc h1 fun h3 h4=>asI .i64 h3 fun h5=>unn h4 (unn g5 (grd (decide (0 <= w6 (3000 + g3)) && decide (w6 (3000 + g3) <= LIM)) (zO (0) g9 h2 h5 (List.replicate (Int.toNat (w6 (3000 + g3))) (D.agg [iN (0),iN (0),D.str { data:=#[] },iN (0),iN (0)]))))))
 (some ((.agg [.os (5,0) e5]),[.op [.rs (1,0) f4,iN f7,iN g0]])))))))))))))
 (
 jb V 155 [.op [.rs (1,0) A,iN E,iN H],iN (60)] fun I J=>
 asB I fun K=>unc J fun L M=>nC L fun N=>unc N fun O P=>kq (1,0) O fun Q=>unc P fun R S=>asI .i64 R fun T=>unc S fun U W=>asI .i64 U fun X=>unn W (unn M (br K
 (
 jb V 76 [.op [.rs (1,0) Q,iN T,iN X],iN (2)] fun Y Z=>
 asI .i64 Y fun a0=>unc Z fun a1 a2=>nC a1 fun a3=>unc a3 fun a4 a5=>kq (1,0) a4 fun a6=>unc a5 fun a7 a8=>asI .i64 a7 fun a9=>unc a8 fun b0 b1=>asI .i64 b0 fun b2=>unn b1 (unn a2 (grd (decide (0 <= w6 (3000 + a0)) && decide (w6 (3000 + a0) <= LIM)) (zO (0) a6 a9 b2 (List.replicate (Int.toNat (w6 (3000 + a0))) (D.agg [iN (0),iN (0),D.str { data:=#[] },iN (0),iN (0)]))))))
 (some ((.agg [.os (5,0) f]),[.op [.rs (1,0) Q,iN T,iN X]]))))))))
 (
 jb V 155 [.op [.rs (1,0) l,iN o,iN r],iN (60)] fun s t=>
 asB s fun u=>unc t fun v w=>nC v fun x=>unc x fun y z=>kq (1,0) y fun A=>unc z fun B C=>asI .i64 B fun E=>unc C fun F G=>asI .i64 F fun H=>unn G (unn w (br u
 (
 jb V 76 [.op [.rs (1,0) A,iN E,iN H],iN (2)] fun I J=>
 asI .i64 I fun K=>unc J fun L M=>nC L fun N=>unc N fun O P=>kq (1,0) O fun Q=>unc P fun R S=>asI .i64 R fun T=>unc S fun U W=>asI .i64 U fun X=>unn W (unn M (grd (decide (0 <= w6 (3000 + K)) && decide (w6 (3000 + K) <= LIM)) (zO (0) Q T X (List.replicate (Int.toNat (w6 (3000 + K))) (D.agg [iN (0),iN (0),D.str { data:=#[] },iN (0),iN (0)]))))))
 (some ((.agg [.os (5,0) f]),[.op [.rs (1,0) A,iN E,iN H]])))))))):=by
 exact (yD Tryz.func90 rfl _).trans (by kernel_rfl)
theorem B9 (p0:Int) (p1:List D) (p2 p3:Int):zK p0 p1 p2 p3 =
 br (decide (p0 < 4))
 (
 jb V 192 [.op [.rs (1,0) p1,iN p2,iN p3]] fun a b=>
 asS a fun c=>unc b fun d e=>nC d fun f=>unc f fun g h=>kq (1,0) g fun i=>unc h fun j k=>asI .i64 j fun l=>unc k fun m n=>asI .i64 m fun o=>unn n (unn e (jb V 191 [.agg [.rs (5,0) []],.str c] fun p q=>
 iV p fun r=>unc r fun s t=>asAgg s fun u=>unc u fun v w=>jl (5,0) v fun x=>unn w (unc t fun y z=>jl (1,0) y fun A=>unc z fun B C=>asI .i64 B fun E=>unc C fun F G=>asI .i64 F fun _=>unn G (unn q (jb V 193 [.agg [.rs (5,0) x],.rs (1,0) A] fun H I=>
 iV H fun J=>unc J fun K L=>asAgg K fun M=>unc M fun N O=>jl (5,0) N fun P=>unc O fun Q R=>jl (4,0) Q fun S=>unc R fun T U=>jl (3,0) T fun W=>unn U (unc L fun X Y=>asI .i64 X fun Z=>unc Y fun a0 a1=>asI .i64 a0 fun _=>unn a1 (unn I (br (E == 0)
 (
 br (Z == 0)
 (some ((.agg [.os (5,0) P,.os (4,0) S,.os (3,0) W]),[.op [.rs (1,0) i,iN l,iN o]]))
 (zK (w6 (p0 + 1)) i l o))
 (zK (w6 (p0 + 1)) i l o))))))))))
 (
 jb V 191 [.agg [.rs (5,0) []],.str ({ data:=#[40,112,114,105,110,116,32,49,41] })] fun a b=>
 iV a fun c=>unc c fun d e=>asAgg d fun f=>unc f fun g h=>jl (5,0) g fun i=>unn h (unc e fun j k=>jl (1,0) j fun l=>unc k fun m n=>asI .i64 m fun _=>unc n fun o p=>asI .i64 o fun _=>unn p (unn b (jb V 193 [.agg [.rs (5,0) i],.rs (1,0) l] fun q r=>
 iV q fun s=>unc s fun t u=>asAgg t fun v=>unc v fun w x=>jl (5,0) w fun y=>unc x fun z A=>jl (4,0) z fun B=>unc A fun C E=>jl (3,0) C fun F=>unn E (unc u fun G H=>asI .i64 G fun _=>unc H fun I J=>asI .i64 I fun _=>unn J (unn r (some ((.agg [.os (5,0) y,.os (4,0) B,.os (3,0) F]),[.op [.rs (1,0) p1,iN p2,iN p3]])))))))):=by
 exact (yC _ _ _).trans (by kernel_rfl)
theorem O5 (a0_0:List D) (a0_1 a0_2:Int):V 143 [.op [.rs (1,0) a0_0,iN a0_1,iN a0_2]] =
 grd (!decide (33 < 0)) (grd (!decide (45 < 0)) (br (decide (a0_1 < ni a0_0.length))
 (
 grd (decide (0 <= a0_1) && decide (a0_1 < ni a0_0.length)) (cT a0_0 a0_1.toNat fun a=>
 asI .u8 a fun b=>some ((iN (w6 (ni (BitVec.toNat (BitVec.ofInt (IntKind.bits IntKind.i64) (w6 (w6 (ni (BitVec.toNat (BitVec.ofInt (IntKind.bits IntKind.i64) (w6 (ni (BitVec.toNat (BitVec.ofInt (IntKind.bits IntKind.i64) (Int.fdiv (w6 (w6 (a0_2 * 6364136223846793005) + 1442695040888963407)) (2 ^ min (Int.toNat (33)) (IntKind.bits IntKind.i64))) ^^^ BitVec.ofInt (IntKind.bits IntKind.i64) (Int.fdiv (w6 (w6 (a0_2 * 6364136223846793005) + 1442695040888963407)) (2 ^ min (Int.toNat (45)) (IntKind.bits IntKind.i64))))))) &&& BitVec.ofInt (IntKind.bits IntKind.i64) (255)))) + w6 b)) &&& BitVec.ofInt (IntKind.bits IntKind.i64) (255)))))),[(.op [.rs (1,0) a0_0,(iN (w6 (a0_1 + 1))),(iN (w6 (w6 (a0_2 * 6364136223846793005) + 1442695040888963407)))])])))
 (some ((iN (w6 (ni (BitVec.toNat (BitVec.ofInt (IntKind.bits IntKind.i64) (w6 (ni (BitVec.toNat (BitVec.ofInt (IntKind.bits IntKind.i64) (Int.fdiv (w6 (w6 (a0_2 * 6364136223846793005) + 1442695040888963407)) (2 ^ min (Int.toNat (33)) (IntKind.bits IntKind.i64))) ^^^ BitVec.ofInt (IntKind.bits IntKind.i64) (Int.fdiv (w6 (w6 (a0_2 * 6364136223846793005) + 1442695040888963407)) (2 ^ min (Int.toNat (45)) (IntKind.bits IntKind.i64))))))) &&& BitVec.ofInt (IntKind.bits IntKind.i64) (255)))))),[(.op [.rs (1,0) a0_0,iN a0_1,(iN (w6 (w6 (a0_2 * 6364136223846793005) + 1442695040888963407)))])])))):=by
 exact (yD Tryz.func143 rfl _).trans (by kernel_rfl)
theorem MY (a0_0 a0_1 a0_2:List D) (a1_:ByteArray) (a2_:Int):V 25 [.agg [.rs (5,0) a0_0,.rs (4,0) a0_1,.rs (3,0) a0_2],.str a1_,iN a2_] =
 jb V 78 [.agg [.rs (5,0) a0_0,.rs (4,0) a0_1,.rs (3,0) a0_2],.str a1_] fun a b=>
 iV a fun c=>unc c fun d e=>tk5 d fun f g h i j k l m=>(unc e fun n o=>asB n fun p=>unn o (unn b (br (!p)
 (some ((.tup [.agg [iN (0),.os (5,0) [],iN (0),iN (0),iN (0),iN (0),iN (0),iN (0),iN (0),.os (1,0) [],.os (1,0) []],.bool false]),[]))
 (
 jb V 79 [.agg [.rs (5,0) a0_0,.rs (4,0) a0_1,.rs (3,0) a0_2],.agg [iN a2_,.rs (5,0) f,iN g,iN h,iN i,iN j,iN k,iN l,iN m,.rs (1,0) [],.rs (1,0) []]] fun q r=>
 asB q fun s=>unn r (br (!s)
 (some ((.tup [.agg [iN (0),.os (5,0) [],iN (0),iN (0),iN (0),iN (0),iN (0),iN (0),iN (0),.os (1,0) [],.os (1,0) []],.bool false]),[]))
 (some ((.tup [.agg [iN a2_,.os (5,0) f,iN g,iN h,iN i,iN j,iN k,iN l,iN m,.os (1,0) [],.os (1,0) []],.bool true]),[]))))))):=by
 exact (yD Tryz.func25 rfl _).trans (by kernel_rfl)
theorem AQ (p0 p1 p2:Int) (p3:Bool) (p4 p5:List D):zt p0 p1 p2 p3 p4 p5 =
 br (decide (p1 < p0))
 (
 br p3
 (
 br (decide (p1 <= 3000))
 (
 jb V 141 [.op [.os (1,0) p4,iN p2,.bool p3]] fun a b=>
 tk1 a fun c d e f g=>(unc b fun h i=>za h fun j k l=>(unn i (grd (decide (ni (List.length (p5++[D.agg [iN c,iN d,D.str e,iN f,iN g]])) <= LIM)) (nam (p5++[D.agg [iN c,iN d,D.str e,iN f,iN g]]) fun m=>
 zt p0 (w6 (p1 + 1)) k l j m)))))
 (some ((.agg [.os (5,0) p5]),[.op [.os (1,0) p4,iN p2,.bool p3]])))
 (some ((.agg [.os (5,0) p5]),[.op [.os (1,0) p4,iN p2,.bool p3]])))
 (some ((.agg [.os (5,0) p5]),[.op [.os (1,0) p4,iN p2,.bool p3]])):=by
 exact (yC _ _ _).trans (by kernel_rfl)
theorem DT (p0:Int) (p1 p2 p3:List D):BQ p0 p1 p2 p3 =
 br (decide (p0 < ni p3.length))
 (
 grd (decide (0 <= p0) && decide (p0 < ni p3.length)) (cT p3 p0.toNat fun a=>
 UY a fun b c d=>(jb V 128 [.str b] fun e f=>
 asB e fun g=>unn f (br (!g)
 (some ((.bool false),[]))
 (
 jb V 129 [.agg [.rs (5,0) p1,.rs (4,0) p2,.rs (3,0) p3],.str b] fun h i=>
 asI .i64 h fun j=>unn i (br (j != p0)
 (some ((.bool false),[]))
 (
 jb V 62 [iN c,iN (0),(iN (w6 (ni p2.length - 1)))] fun k l=>
 asB k fun m=>unn l (br (!m)
 (some ((.bool false),[]))
 (
 jb V 62 [iN d,iN (0),iN (4)] fun n o=>
 asB n fun p=>unn o (br (!p)
 (some ((.bool false),[]))
 (BQ (w6 (p0 + 1)) p1 p2 p3)))))))))))
 (some ((.bool true),[])):=by
 exact (yC _ _ _).trans (by kernel_rfl)
theorem AX (p0 p1:Int) (p2:List D) (p3 p4:Int) (p5:List D):zP p0 p1 p2 p3 p4 p5 =
 br (decide (p1 < p0))
 (
 jb V 197 [.op [.rs (1,0) p2,iN p3,iN p4],iN p1] fun a b=>
 asAgg a fun c=>unc c fun d e=>asI .i64 d fun f=>unc e fun g h=>asI .i64 g fun i=>unc h fun j k=>asS j fun l=>unc k fun m n=>asI .i64 m fun o=>unc n fun p q=>asI .i64 p fun r=>unn q (unc b fun s t=>nC s fun u=>unc u fun v w=>kq (1,0) v fun x=>unc w fun y z=>asI .i64 y fun A=>unc z fun B C=>asI .i64 B fun E=>unn C (unn t (jb V 158 [.op [.os (5,0) p5],.agg [iN f,iN i,.str l,iN o,iN r]] fun F G=>
 asI .i64 F fun _=>unc G fun H I=>nC H fun J=>unc J fun K L=>jl (5,0) K fun M=>unn L (unn I (zP p0 (w6 (p1 + 1)) x A E M))))))
 (some ((.agg [.os (5,0) p5]),[.op [.rs (1,0) p2,iN p3,iN p4]])):=by
 exact (yC _ _ _).trans (by kernel_rfl)
theorem Rz (a0_0:List D) (a1_:ByteArray):V 191 [.agg [.rs (5,0) a0_0],.str a1_] =
 jb V 60 [.agg [.rs (5,0) a0_0]] fun a b=>
 asB a fun c=>unn b (br (!c)
 (some ((.tup [.agg [.os (5,0) []],.os (1,0) [],iN (6),iN (0)]),[]))
 (
 br (decide (ni (ByteArray.size a1_) > 400))
 (
 jb V 147 [.agg [.rs (5,0) a0_0]] fun d e=>
 asAgg d fun f=>unc f fun g h=>jl (5,0) g fun i=>unn h (unn e (some ((.tup [.agg [.os (5,0) i],.os (1,0) [],iN (1),iN (0)]),[]))))
 (
 jb V 147 [.agg [.rs (5,0) a0_0]] fun d e=>
 asAgg d fun f=>unc f fun g h=>jl (5,0) g fun i=>unn h (unn e (y4 a1_ (0) a0_0 [] ([D.agg
 [iN (0),
 D.os
 (TypeInfo.size (Tables.types (Program.toTables Tryz.prog))[3],
 match qU Tryz.prog (3) with
 | true=>0
 | false=>1)
 []]]) i))))):=by
 exact (yD Tryz.func191 rfl _).trans (by kernel_rfl)
theorem DQ (p0:List D) (p1 p2:Int) (p3:List D):BH p0 p1 p2 p3 =
 br (decide (p2 < p1))
 (
 grd (decide (0 <= p2) && decide (p2 < ni p0.length)) (cT p0 p2.toNat fun a=>
 tk1 a fun b c d e f=>(jb V 126 [.agg [iN b,iN c,.str d,iN e,iN f],iN p2] fun g h=>
 asB g fun i=>unn h (br (!i)
 (some ((.bool false),[]))
 (BH p0 p1 (w6 (p2 + 1)) p3)))))
 (some ((.bool (decide (ni p3.length <= 3000))),[])):=by
 exact (yC _ _ _).trans (by kernel_rfl)
theorem J0 (a0_:Int):V 177 [.int .u8 a0_] =
 br (decide (a0_ >= 97))
 (
 br (decide (a0_ <= 122))
 (some ((.bool true),[]))
 (
 grd (decide (0 < 8)) (jb V 203 [.rs (1,0) [.int .u8 (43),.int .u8 (45),.int .u8 (42),.int .u8 (60),.int .u8 (61),.int .u8 (63),.int .u8 (33),.int .u8 (47)],.int .u8 a0_] fun a b=>
 asB a fun c=>unn b (some ((.bool c),[])))))
 (
 grd (decide (0 < 8)) (jb V 203 [.rs (1,0) [.int .u8 (43),.int .u8 (45),.int .u8 (42),.int .u8 (60),.int .u8 (61),.int .u8 (63),.int .u8 (33),.int .u8 (47)],.int .u8 a0_] fun a b=>
 asB a fun c=>unn b (some ((.bool c),[])))):=by
 exact (yD Tryz.func177 rfl _).trans (by kernel_rfl)
theorem Dq (p0:List D) (p1:Int) (p2 p3:List D):Av p0 p1 p2 p3 =
 br (decide (p1 < ni p0.length))
 (
 grd (decide (0 <= p1) && decide (p1 < ni p0.length)) (cT p0 p1.toNat fun a=>
 asI .i64 a fun b=>grd (decide (0 <= b) && decide (b < ni p3.length)) (cT p3 b.toNat fun _=>
 nam (List.set p3 b.toNat (D.bool true)) fun c=>
 Av p0 (w6 (p1 + 1)) p2 c)))
 (zp (w6 (ni p2.length - 1)) p2 p3):=by
 exact (yC _ _ _).trans (by kernel_rfl)
theorem Bv (p0:List D) (p1 p2:Int):zW p0 p1 p2 =
 br (decide (p2 < p1))
 (
 grd (decide (0 <= p2) && decide (p2 < ni p0.length)) (cT p0 p2.toNat fun a=>
 asS a fun b=>jb V 81 [.str b] fun c d=>
 asB c fun e=>unn d (br e
 (some ((iN p2),[]))
 (zW p0 p1 (w6 (p2 + 1))))))
 (some ((iN (-1)),[])):=by
 exact (yC _ _ _).trans (by kernel_rfl)
theorem Ou (a0_:List D) (a1_:Int):V 140 [.rs (1,0) a0_,iN a1_] =
 jb V 58 [iN a1_,iN (0),(iN (w6 (ni a0_.length - 1)))] fun a b=>
 asB a fun c=>unn b (br (!c)
 (some ((.tup [iN (0),iN (0),.bool false]),[]))
 (BG a0_ a1_ (0) (0))):=by
 exact (yD Tryz.func140 rfl _).trans (by kernel_rfl)
theorem Ox (a0_:ByteArray):V 124 [.str a0_] =
 jb V 58 [(iN (ni (ByteArray.size a0_))),iN (1),iN (12)] fun a b=>
 asB a fun c=>unn b (br (!c)
 (some ((.bool false),[]))
 (AA a0_ (ni (ByteArray.size a0_)) (0))):=by
 exact (yD Tryz.func124 rfl _).trans (by kernel_rfl)
theorem Fi (p0:List D) (p1:ByteArray) (p2:Int):AY p0 p1 p2 =
 br (decide (p2 < ni p0.length))
 (Cr p0 p1 p2 (0))
 (some ((.tup [iN (-1),iN (0)]),[])):=by
 exact (yC _ _ _).trans (by kernel_rfl)
theorem OD (a0_:Int):V 67 [iN a0_] =
 br (decide (a0_ < 0))
 (some ((.os (1,0) []),[]))
 (BJ a0_ []):=by
 exact (yD Tryz.func67 rfl _).trans (by kernel_rfl)
end Go.Eng
/-! the functions as the interpreter has them -/
namespace Go.Eng
open Go.Proofs Go.Proofs.Tryz
set_option maxRecDepth 100000
theorem Qq (p l d:List D) (h:Int) (n x e:List D):V 254 [.op [.os (5,0) p,.os (4,0) l,.os (3,0) d,iN h],.rs (1,0) n,.rs (1,0) x,.rs (1,1) e] =
 jb V 237 [.op [.os (5,0) p,.os (4,0) l,.os (3,0) d,iN h],(.agg [iN (6),iN (0),(iN (ni n.length)),.str ({ data:=#[] })])] fun a b=>
 asI .i64 a fun c=>unc b fun f g=>tk2 f fun i j k m=>(unn g (jb V 237 [.op [.os (5,0) i,.os (4,0) j,.os (3,0) k,iN m],(.agg [iN (5),iN (0),iN (0),.str ({ data:=#[] })])] fun o q=>
 asI .i64 o fun r=>unc q fun s t=>tk2 s fun u v w y=>(unn t (jb V 253 [.op [.os (5,0) u,.os (4,0) v,.os (3,0) w,iN y],iN c] fun z A=>
 iV z fun B=>unn B (unc A fun C E=>tk2 C fun F G H I=>(unn E (grd (decide (ni (List.length ([D.rs (1,0) n]++e)) <= LIM)) (nam ([D.rs (1,0) n]++e) fun J=>
 jb V 236 [.op [.os (5,0) F,.os (4,0) G,.os (3,0) H,iN I],.rs (1,0) x,.rs (1,1) J] fun K L=>
 iV K fun M=>unn M (unc L fun N O=>tk2 N fun P Q R S=>(unn O (jb V 237 [.op [.os (5,0) P,.os (4,0) Q,.os (3,0) R,iN S],(.agg [iN (8),iN (0),iN (0),.str ({ data:=#[] })])] fun T U=>
 asI .i64 T fun _=>unc U fun W X=>tk2 W fun Y Z a0 a1=>(unn X (jb V 253 [.op [.os (5,0) Y,.os (4,0) Z,.os (3,0) a0,iN a1],iN r] fun a2 a3=>
 iV a2 fun a4=>unn a4 (unc a3 fun a5 a6=>tk2 a5 fun a7 a8 a9 b0=>(unn a6 (some ((.tup []),[.op [.os (5,0) a7,.os (4,0) a8,.os (3,0) a9,iN b0]]))))))))))))))))):=by
 exact (yD Tryz.func254 rfl _).trans (by kernel_rfl)
theorem M8 (a0_0:List D) (a0_1 a0_2 a1_:Int):V 76 [.op [.rs (1,0) a0_0,iN a0_1,iN a0_2],iN a1_] =
 br (decide (a1_ <= 0))
 (some ((iN (0)),[.op [.rs (1,0) a0_0,iN a0_1,iN a0_2]]))
 (
 br (decide (a1_ <= 256))
 (
 jb V 143 [.op [.rs (1,0) a0_0,iN a0_1,iN a0_2]] fun a b=>
 asI .i64 a fun c=>unc b fun d e=>nC d fun f=>unc f fun g h=>kq (1,0) g fun i=>unc h fun j k=>asI .i64 j fun l=>unc k fun m n=>asI .i64 m fun o=>unn n (unn e (grd (!decide (a1_ = 0)) (some ((iN (Int.tmod c a1_)),[.op [.rs (1,0) i,iN l,iN o]])))))
 (
 jb V 143 [.op [.rs (1,0) a0_0,iN a0_1,iN a0_2]] fun a b=>
 asI .i64 a fun c=>unc b fun d e=>nC d fun f=>unc f fun g h=>kq (1,0) g fun i=>unc h fun j k=>asI .i64 j fun l=>unc k fun m n=>asI .i64 m fun o=>unn n (unn e (jb V 143 [.op [.rs (1,0) i,iN l,iN o]] fun p q=>
 asI .i64 p fun r=>unc q fun s t=>nC s fun u=>unc u fun v w=>kq (1,0) v fun x=>unc w fun y z=>asI .i64 y fun A=>unc z fun B C=>asI .i64 B fun E=>unn C (unn t (jb V 143 [.op [.rs (1,0) x,iN A,iN E]] fun F G=>
 asI .i64 F fun H=>unc G fun I J=>nC I fun K=>unc K fun L M=>kq (1,0) L fun N=>unc M fun O P=>asI .i64 O fun Q=>unc P fun R S=>asI .i64 R fun T=>unn S (unn J (jb V 143 [.op [.rs (1,0) N,iN Q,iN T]] fun U W=>
 asI .i64 U fun X=>unc W fun Y Z=>nC Y fun a0=>unc a0 fun a1 a2=>kq (1,0) a1 fun a3=>unc a2 fun a4 a5=>asI .i64 a4 fun a6=>unc a5 fun a7 a8=>asI .i64 a7 fun a9=>unn a8 (unn Z (grd (!decide (a1_ = 0)) (some ((iN (Int.tmod (w6 (w6 (w6 (w6 (c * 16777216) + w6 (r * 65536)) + w6 (H * 256)) + X)) a1_)),[.op [.rs (1,0) a3,iN a6,iN a9]])))))))))))):=by
 exact (yD Tryz.func76 rfl _).trans (by kernel_rfl)
theorem Fc (p0:Int) (p1 p2:List D):zB p0 p1 p2 =
 br (decide (p0 >= 0))
 (
 grd (decide (0 <= p0) && decide (p0 < ni p2.length)) (cT p2 p0.toNat fun a=>
 asB a fun b=>br (!b)
 (zB (w6 (p0 - 1)) p1 p2)
 (
 grd (decide (0 <= p0) && decide (p0 < ni p1.length)) (cT p1 p0.toNat fun c=>
 tk1 c fun d _ _ e f=>(br (d == 5)
 (
 grd (decide (0 <= e) && decide (e < ni p2.length)) (cT p2 e.toNat fun _=>
 nam (List.set p2 e.toNat (D.bool true)) fun g=>
 grd (decide (0 <= f) && decide (f < ni g.length)) (cT g f.toNat fun _=>
 nam (List.set g f.toNat (D.bool true)) fun h=>
 zB (w6 (p0 - 1)) p1 h)))
 (
 br (d == 6)
 (
 br (d == 6)
 (
 grd (decide (0 <= e) && decide (e < ni p2.length)) (cT p2 e.toNat fun _=>
 nam (List.set p2 e.toNat (D.bool true)) fun g=>
 zB (w6 (p0 - 1)) p1 g))
 (zB (w6 (p0 - 1)) p1 p2))
 (
 br (d == 7)
 (
 grd (decide (0 <= e) && decide (e < ni p2.length)) (cT p2 e.toNat fun _=>
 nam (List.set p2 e.toNat (D.bool true)) fun g=>
 zB (w6 (p0 - 1)) p1 g))
 (zB (w6 (p0 - 1)) p1 p2))))))))
 (some ((.os (1,0) p2),[])):=by
 exact (yC _ _ _).trans (by kernel_rfl)
theorem J4 (a0_0 a0_1 a0_2:List D) (a1_:ByteArray):V 78 [.agg [.rs (5,0) a0_0,.rs (4,0) a0_1,.rs (3,0) a0_2],.str a1_] =
 jb V 129 [.agg [.rs (5,0) a0_0,.rs (4,0) a0_1,.rs (3,0) a0_2],.str a1_] fun a b=>
 asI .i64 a fun c=>unn b (jb V 59 [.agg [.rs (5,0) a0_0,.rs (4,0) a0_1,.rs (3,0) a0_2]] fun d e=>
 asB d fun f=>unn e (br (!f)
 (some ((.tup [.agg [.os (5,0) [],iN (0),iN (0),iN (0),iN (0),iN (0),iN (0),iN (0)],.bool false]),[]))
 (
 br (decide (c < 0))
 (some ((.tup [.agg [.os (5,0) [],iN (0),iN (0),iN (0),iN (0),iN (0),iN (0),iN (0)],.bool false]),[]))
 (
 grd (decide (0 <= c) && decide (c < ni a0_2.length)) (cT a0_2 c.toNat fun g=>
 asAgg g fun h=>cT h 2 fun i=>
 asI .i64 i fun j=>br (j != 0)
 (some ((.tup [.agg [.os (5,0) [],iN (0),iN (0),iN (0),iN (0),iN (0),iN (0),iN (0)],.bool false]),[]))
 (
 grd (decide (0 <= c) && decide (c < ni a0_2.length)) (cT a0_2 c.toNat fun k=>
 asAgg k fun l=>cT l 1 fun m=>
 asI .i64 m fun n=>some ((.tup [(.agg [(.os (5,0) [.agg [iN (1),iN (0),.str ({ data:=#[] }),iN (0),iN (0)],(.agg [iN (5),iN (0),.str ({ data:=#[] }),iN (0),iN (0)])]),iN n,iN (0),iN (1),iN (0),iN (0),iN (0),iN (0)]),.bool true]),[])))))))):=by
 exact (yD Tryz.func78 rfl _).trans (by kernel_rfl)
theorem Ax (p0:List D) (p1 p2:Int) (p3 p4 p5:List D):Ap p0 p1 p2 p3 p4 p5 =
 br (decide (p1 < ni p0.length))
 (
 grd (decide (0 <= p1) && decide (p1 < ni p0.length)) (cT p0 p1.toNat fun a=>
 asI .i64 a fun b=>jb V 215 [.op [.os (5,0) p3,.os (4,0) p4,.os (3,0) p5,iN p2],iN b] fun c d=>
 iV c fun e=>unn e (unc d fun f g=>tk2 f fun h i j k=>(unn g (br (k == 3)
 (some ((.tup [.agg [.os (5,0) [],.os (4,0) [],.os (3,0) []],iN (3),iN (0)]),[]))
 (
 br (k != 0)
 (some ((.tup [.agg [.os (5,0) [],.os (4,0) [],.os (3,0) []],iN k,iN p1]),[]))
 (Ap p0 (w6 (p1 + 1)) k h i j)))))))
 (
 jb V 59 [.agg [.rs (5,0) p3,.rs (4,0) p4,.rs (3,0) p5]] fun a b=>
 asB a fun c=>unn b (br (!c)
 (some ((.tup [.agg [.os (5,0) [],.os (4,0) [],.os (3,0) []],iN (3),iN (0)]),[]))
 (some ((.tup [.agg [.os (5,0) p3,.os (4,0) p4,.os (3,0) p5],iN (0),(iN (ni p0.length))]),[])))):=by
 exact (yC _ _ _).trans (by kernel_rfl)
theorem Pe (p l d:List D) (h io im ii:Int) (is:ByteArray):V 237 [.op [.os (5,0) p,.os (4,0) l,.os (3,0) d,iN h],.agg [iN io,iN im,iN ii,.str is]] =
 br (h == 0)
 (
 br (ni l.length == 400)
 (some ((iN (0)),[.op [.os (5,0) p,.os (4,0) l,.os (3,0) d,iN (3)]]))
 (
 br (h != 0)
 (some ((iN (0)),[.op [.os (5,0) p,.os (4,0) l,.os (3,0) d,iN h]]))
 (
 grd (decide (ni (List.length (l++[D.agg [iN io,iN im,iN ii,D.str is]])) <= LIM)) (nam (l++[D.agg [iN io,iN im,iN ii,D.str is]]) fun a=>
 some ((iN (w6 (ni a.length - 1))),[.op [.os (5,0) p,.os (4,0) a,.os (3,0) d,iN h]])))))
 (
 br (h != 0)
 (some ((iN (0)),[.op [.os (5,0) p,.os (4,0) l,.os (3,0) d,iN h]]))
 (
 grd (decide (ni (List.length (l++[D.agg [iN io,iN im,iN ii,D.str is]])) <= LIM)) (nam (l++[D.agg [iN io,iN im,iN ii,D.str is]]) fun a=>
 some ((iN (w6 (ni a.length - 1))),[.op [.os (5,0) p,.os (4,0) a,.os (3,0) d,iN h]])))):=by
 exact (yD Tryz.func237 rfl _).trans (by kernel_rfl)
theorem Dp (p0:List D) (p1 p2:Int) (p3 p4 p5 p6:List D):zH p0 p1 p2 p3 p4 p5 p6 =
 br (decide (p1 < ni p0.length))
 (
 br (p2 == 0)
 (
 grd (decide (0 <= p1) && decide (p1 < ni p0.length)) (cT p0 p1.toNat fun a=>
 asI .i64 a fun b=>jb V 230 [.op [.os (5,0) p4,.os (4,0) p5,.os (3,0) p6,iN p2],iN b] fun c d=>
 tk6 c fun e f=>(unc d fun g h=>tk2 g fun i j k l=>(unn h (br (!f)
 (
 grd (decide (ni (List.length (p3++[D.str e])) <= LIM)) (nam (p3++[D.str e]) fun m=>
 zH p0 (w6 (p1 + 1)) (1) m i j k))
 (
 grd (decide (ni (List.length (p3++[D.str e])) <= LIM)) (nam (p3++[D.str e]) fun m=>
 zH p0 (w6 (p1 + 1)) l m i j k)))))))
 (zA (0) p2 p3 p4 p5 p6))
 (zA (0) p2 p3 p4 p5 p6):=by
 exact (yC _ _ _).trans (by kernel_rfl)
theorem Pb (a0_:ByteArray):V 212 [.str a0_] =
 br (kc a0_ { data:=#[35,116] })
 (some ((.tup [.agg [iN (2),iN (1),.str ({ data:=#[] }),iN (0),iN (0)],.bool true]),[]))
 (
 br (kc a0_ { data:=#[35,102] })
 (some ((.tup [.agg [iN (2),iN (0),.str ({ data:=#[] }),iN (0),iN (0)],.bool true]),[]))
 (
 jb V 227 [.str a0_] fun a b=>
 VL a fun c d=>(unn b (br d
 (some ((.tup [.agg [iN (3),iN c,.str ({ data:=#[] }),iN (0),iN (0)],.bool true]),[]))
 (
 jb V 128 [.str a0_] fun e f=>
 asB e fun g=>unn f (some ((.tup [.agg [iN (4),iN (0),.str a0_,iN (0),iN (0)],.bool g]),[]))))))):=by
 exact (yD Tryz.func212 rfl _).trans (by kernel_rfl)
theorem Jf (p0:Int) (p1:List D):BX p0 p1 =
 br (decide (p0 > 127))
 (
 grd (!decide (128 = 0)) (grd (decide (ni (List.length (p1++[D.int IntKind.u8 (IntKind.wrap IntKind.u8 (w6 (Int.tmod p0 (128) + 128)))])) <= LIM)) (nam (p1++[D.int IntKind.u8 (IntKind.wrap IntKind.u8 (w6 (Int.tmod p0 (128) + 128)))]) fun a=>
 grd (!decide (128 = 0)) (BX (w6 (Int.tdiv p0 (128))) a))))
 (
 grd (decide (ni (List.length (p1++[D.int IntKind.u8 (IntKind.wrap IntKind.u8 p0)])) <= LIM)) (nam (p1++[D.int IntKind.u8 (IntKind.wrap IntKind.u8 p0)]) fun a=>
 some ((.os (1,0) a),[]))):=by
 exact (yC _ _ _).trans (by kernel_rfl)
theorem RB (p l d:List D) (h x:Int):V 253 [.op [.os (5,0) p,.os (4,0) l,.os (3,0) d,iN h],iN x] =
 br (h == 0)
 (
 grd (decide (0 <= x) && decide (x < ni l.length)) (cT l x.toNat fun a=>
 asAgg a fun b=>nam (List.set l x.toNat (D.agg (List.take 1 b++[iN (ni l.length)]++List.drop 2 b))) fun c=>
 some ((.tup []),[.op [.os (5,0) p,.os (4,0) c,.os (3,0) d,iN h]])))
 (some ((.tup []),[.op [.os (5,0) p,.os (4,0) l,.os (3,0) d,iN h]])):=by
 exact (yD Tryz.func253 rfl _).trans (by kernel_rfl)
theorem Bw (p0:List D) (p1 p2:Int):zX p0 p1 p2 =
 br (decide (p2 < p1))
 (
 grd (decide (0 <= p2) && decide (p2 < ni p0.length)) (cT p0 p2.toNat fun a=>
 asS a fun b=>jb V 83 [.str b] fun c d=>
 asB c fun e=>unn d (br e
 (some ((iN p2),[]))
 (zX p0 p1 (w6 (p2 + 1))))))
 (some ((iN (-1)),[])):=by
 exact (yC _ _ _).trans (by kernel_rfl)
theorem Ry (a0_0 a1_:List D):V 66 [.agg [.rs (5,0) a0_0],.rs (1,0) a1_] =
 jb V 137 [.op [.os (5,0) []],(.agg [.rs (5,0) a0_0]),.rs (1,0) a1_] fun a b=>
 jl (1,0) a fun c=>unc b fun d e=>nC d fun f=>unc f fun g h=>jl (5,0) g fun i=>unn h (unn e (Db a1_ (ni a1_.length) (0) c [] i)):=by
 exact (yD Tryz.func66 rfl _).trans (by kernel_rfl)
theorem Qi (a0_0 a0_1 a0_2:List D) (a1_:ByteArray):V 125 [.agg [.rs (5,0) a0_0,.rs (4,0) a0_1,.rs (3,0) a0_2],.str a1_] =
 jb V 178 [.rs (3,0) a0_2,(.fn 179 [(.bp [.str a1_])])] fun a b=>
 asI .i64 a fun c=>unn b (some ((iN c),[])):=by
 exact (yD Tryz.func125 rfl _).trans (by kernel_rfl)
theorem OG (a0_0:List D) (a1_:Int):V 56 [.agg [.rs (5,0) a0_0],iN a1_] =
 jb V 58 [iN a1_,iN (0),(iN (w6 (ni a0_0.length - 1)))] fun a b=>
 asB a fun c=>unn b (some ((.bool c),[])):=by
 exact (yD Tryz.func56 rfl _).trans (by kernel_rfl)
theorem Ut (a:ByteArray) (b c:Int) (s:ByteArray):V 179 [.agg [.str a,iN b,iN c],.bp [.str s]] =
 some ((.bool (kc a s)),[]):=by
 exact (yD Tryz.func179 rfl _).trans (by kernel_rfl)
theorem OU (a0_0:List D):V 60 [.agg [.rs (5,0) a0_0]] =
 BV (0) a0_0:=by
 exact (yD Tryz.func60 rfl _).trans (by kernel_rfl)

end Go.Eng
/-! the functions as the interpreter has them -/
namespace Go.Eng
open Go.Proofs Go.Proofs.Tryz
set_option maxRecDepth 100000
theorem Jn (b:List D) (i:Int) (k:Bool) :V 141 [.op [.os (1,0) b,iN i,.bool k]] =
 jb V 71 [.op [.os (1,0) b,iN i,.bool k]] fun a c=>
 asI .i64 a fun d=>unc c fun e f=>za e fun g h j=>(unn f (br (d == 2)
 (
 br (d == 2)
 (
 jb V 71 [.op [.os (1,0) g,iN h,.bool j]] fun l m=>
 asI .i64 l fun n=>unc m fun o p=>za o fun q r s=>(unn p (some ((.agg [iN d,iN n,.str ({ data:=#[] }),iN (0),iN (0)]),[.op [.os (1,0) q,iN r,.bool s]]))))
 (
 br (d == 3)
 (
 jb V 71 [.op [.os (1,0) g,iN h,.bool j]] fun l m=>
 asI .i64 l fun n=>unc m fun o p=>za o fun q r s=>(unn p (some ((.agg [iN d,(iN (w6 (n - 1000000000))),.str ({ data:=#[] }),iN (0),iN (0)]),[.op [.os (1,0) q,iN r,.bool s]]))))
 (
 br (d == 4)
 (
 jb V 190 [.op [.os (1,0) g,iN h,.bool j]] fun l m=>
 asS l fun n=>unc m fun o p=>za o fun q r s=>(unn p (some ((.agg [iN d,iN (0),.str n,iN (0),iN (0)]),[.op [.os (1,0) q,iN r,.bool s]]))))
 (
 br (d == 5)
 (
 jb V 71 [.op [.os (1,0) g,iN h,.bool j]] fun l m=>
 asI .i64 l fun n=>unc m fun o p=>za o fun q r s=>(unn p (jb V 71 [.op [.os (1,0) q,iN r,.bool s]] fun t u=>
 asI .i64 t fun v=>unc u fun w x=>za w fun y z A=>(unn x (some ((.agg [iN d,iN (0),.str ({ data:=#[] }),iN n,iN v]),[.op [.os (1,0) y,iN z,.bool A]]))))))
 (
 br (d == 6)
 (
 jb V 71 [.op [.os (1,0) g,iN h,.bool j]] fun l m=>
 asI .i64 l fun n=>unc m fun o p=>za o fun q r s=>(unn p (jb V 71 [.op [.os (1,0) q,iN r,.bool s]] fun t u=>
 asI .i64 t fun v=>unc u fun w x=>za w fun y z A=>(unn x (some ((.agg [iN d,iN n,.str ({ data:=#[] }),iN v,iN (0)]),[.op [.os (1,0) y,iN z,.bool A]]))))))
 (
 br (d == 7)
 (
 jb V 71 [.op [.os (1,0) g,iN h,.bool j]] fun l m=>
 asI .i64 l fun n=>unc m fun o p=>za o fun q r s=>(unn p (some ((.agg [iN d,iN (0),.str ({ data:=#[] }),iN n,iN (0)]),[.op [.os (1,0) q,iN r,.bool s]]))))
 (some ((.agg [iN d,iN (0),.str ({ data:=#[] }),iN (0),iN (0)]),[.op [.os (1,0) g,iN h,.bool j]]))))))))
 (
 br (d == 8)
 (
 br (d == 8)
 (
 jb V 71 [.op [.os (1,0) g,iN h,.bool j]] fun l m=>
 asI .i64 l fun n=>unc m fun o p=>za o fun q r s=>(unn p (some ((.agg [iN d,iN n,.str ({ data:=#[] }),iN (0),iN (0)]),[.op [.os (1,0) q,iN r,.bool s]]))))
 (
 br (d == 3)
 (
 jb V 71 [.op [.os (1,0) g,iN h,.bool j]] fun l m=>
 asI .i64 l fun n=>unc m fun o p=>za o fun q r s=>(unn p (some ((.agg [iN d,(iN (w6 (n - 1000000000))),.str ({ data:=#[] }),iN (0),iN (0)]),[.op [.os (1,0) q,iN r,.bool s]]))))
 (
 br (d == 4)
 (
 jb V 190 [.op [.os (1,0) g,iN h,.bool j]] fun l m=>
 asS l fun n=>unc m fun o p=>za o fun q r s=>(unn p (some ((.agg [iN d,iN (0),.str n,iN (0),iN (0)]),[.op [.os (1,0) q,iN r,.bool s]]))))
 (
 br (d == 5)
 (
 jb V 71 [.op [.os (1,0) g,iN h,.bool j]] fun l m=>
 asI .i64 l fun n=>unc m fun o p=>za o fun q r s=>(unn p (jb V 71 [.op [.os (1,0) q,iN r,.bool s]] fun t u=>
 asI .i64 t fun v=>unc u fun w x=>za w fun y z A=>(unn x (some ((.agg [iN d,iN (0),.str ({ data:=#[] }),iN n,iN v]),[.op [.os (1,0) y,iN z,.bool A]]))))))
 (
 br (d == 6)
 (
 jb V 71 [.op [.os (1,0) g,iN h,.bool j]] fun l m=>
 asI .i64 l fun n=>unc m fun o p=>za o fun q r s=>(unn p (jb V 71 [.op [.os (1,0) q,iN r,.bool s]] fun t u=>
 asI .i64 t fun v=>unc u fun w x=>za w fun y z A=>(unn x (some ((.agg [iN d,iN n,.str ({ data:=#[] }),iN v,iN (0)]),[.op [.os (1,0) y,iN z,.bool A]]))))))
 (
 br (d == 7)
 (
 jb V 71 [.op [.os (1,0) g,iN h,.bool j]] fun l m=>
 asI .i64 l fun n=>unc m fun o p=>za o fun q r s=>(unn p (some ((.agg [iN d,iN (0),.str ({ data:=#[] }),iN n,iN (0)]),[.op [.os (1,0) q,iN r,.bool s]]))))
 (some ((.agg [iN d,iN (0),.str ({ data:=#[] }),iN (0),iN (0)]),[.op [.os (1,0) g,iN h,.bool j]]))))))))
 (
 br (d == 9)
 (
 jb V 71 [.op [.os (1,0) g,iN h,.bool j]] fun l m=>
 asI .i64 l fun n=>unc m fun o p=>za o fun q r s=>(unn p (some ((.agg [iN d,iN n,.str ({ data:=#[] }),iN (0),iN (0)]),[.op [.os (1,0) q,iN r,.bool s]]))))
 (
 br (d == 3)
 (
 jb V 71 [.op [.os (1,0) g,iN h,.bool j]] fun l m=>
 asI .i64 l fun n=>unc m fun o p=>za o fun q r s=>(unn p (some ((.agg [iN d,(iN (w6 (n - 1000000000))),.str ({ data:=#[] }),iN (0),iN (0)]),[.op [.os (1,0) q,iN r,.bool s]]))))
 (
 br (d == 4)
 (
 jb V 190 [.op [.os (1,0) g,iN h,.bool j]] fun l m=>
 asS l fun n=>unc m fun o p=>za o fun q r s=>(unn p (some ((.agg [iN d,iN (0),.str n,iN (0),iN (0)]),[.op [.os (1,0) q,iN r,.bool s]]))))
 (
 br (d == 5)
 (
 jb V 71 [.op [.os (1,0) g,iN h,.bool j]] fun l m=>
 asI .i64 l fun n=>unc m fun o p=>za o fun q r s=>(unn p (jb V 71 [.op [.os (1,0) q,iN r,.bool s]] fun t u=>
 asI .i64 t fun v=>unc u fun w x=>za w fun y z A=>(unn x (some ((.agg [iN d,iN (0),.str ({ data:=#[] }),iN n,iN v]),[.op [.os (1,0) y,iN z,.bool A]]))))))
 (
 br (d == 6)
 (
 jb V 71 [.op [.os (1,0) g,iN h,.bool j]] fun l m=>
 asI .i64 l fun n=>unc m fun o p=>za o fun q r s=>(unn p (jb V 71 [.op [.os (1,0) q,iN r,.bool s]] fun t u=>
 asI .i64 t fun v=>unc u fun w x=>za w fun y z A=>(unn x (some ((.agg [iN d,iN n,.str ({ data:=#[] }),iN v,iN (0)]),[.op [.os (1,0) y,iN z,.bool A]]))))))
 (
 br (d == 7)
 (
 jb V 71 [.op [.os (1,0) g,iN h,.bool j]] fun l m=>
 asI .i64 l fun n=>unc m fun o p=>za o fun q r s=>(unn p (some ((.agg [iN d,iN (0),.str ({ data:=#[] }),iN n,iN (0)]),[.op [.os (1,0) q,iN r,.bool s]]))))
 (some ((.agg [iN d,iN (0),.str ({ data:=#[] }),iN (0),iN (0)]),[.op [.os (1,0) g,iN h,.bool j]]))))))))))):=by
 exact (yD Tryz.func141 rfl _).trans (by kernel_rfl)
theorem BI (p0:List D) (p1 p2:Int) (p3 p4 p5:List D):y3 p0 p1 p2 p3 p4 p5 =
 br (decide (p2 < p1))
 (
 grd (decide (0 <= p2) && decide (p2 < ni p0.length)) (cT p0 p2.toNat fun a=>
 tk1 a fun b c d e f=>(grd (decide (0 <= p2) && decide (p2 < ni p3.length)) (cT p3 p2.toNat fun _=>
 nam (List.set p3 p2.toNat (iN (-1))) fun g=>
 grd (decide (0 <= p2) && decide (p2 < ni p4.length)) (cT p4 p2.toNat fun h=>
 asB h fun i=>br (!i)
 (y3 p0 p1 (w6 (p2 + 1)) g p4 p5)
 (
 br (b == 5)
 (
 grd (decide (0 <= e) && decide (e < ni g.length)) (cT g e.toNat fun j=>
 asI .i64 j fun k=>grd (decide (0 <= f) && decide (f < ni g.length)) (cT g f.toNat fun l=>
 asI .i64 l fun m=>jb V 157 [.op [.os (5,0) p5],.agg [iN b,iN c,.str d,iN k,iN m]] fun n o=>
 asI .i64 n fun p=>unc o fun q r=>nC q fun s=>unc s fun t u=>jl (5,0) t fun v=>unn u (unn r (grd (decide (0 <= p2) && decide (p2 < ni g.length)) (cT g p2.toNat fun _=>
 nam (List.set g p2.toNat (iN p)) fun w=>
 y3 p0 p1 (w6 (p2 + 1)) w p4 v))))))
 (
 br (b == 6)
 (
 br (b == 6)
 (
 grd (decide (0 <= e) && decide (e < ni g.length)) (cT g e.toNat fun j=>
 asI .i64 j fun k=>jb V 157 [.op [.os (5,0) p5],.agg [iN b,iN c,.str d,iN k,iN f]] fun l m=>
 asI .i64 l fun n=>unc m fun o p=>nC o fun q=>unc q fun r s=>jl (5,0) r fun t=>unn s (unn p (grd (decide (0 <= p2) && decide (p2 < ni g.length)) (cT g p2.toNat fun _=>
 nam (List.set g p2.toNat (iN n)) fun u=>
 y3 p0 p1 (w6 (p2 + 1)) u p4 t)))))
 (
 jb V 157 [.op [.os (5,0) p5],.agg [iN b,iN c,.str d,iN e,iN f]] fun j k=>
 asI .i64 j fun l=>unc k fun m n=>nC m fun o=>unc o fun p q=>jl (5,0) p fun r=>unn q (unn n (grd (decide (0 <= p2) && decide (p2 < ni g.length)) (cT g p2.toNat fun _=>
 nam (List.set g p2.toNat (iN l)) fun s=>
 y3 p0 p1 (w6 (p2 + 1)) s p4 r)))))
 (
 br (b == 7)
 (
 grd (decide (0 <= e) && decide (e < ni g.length)) (cT g e.toNat fun j=>
 asI .i64 j fun k=>jb V 157 [.op [.os (5,0) p5],.agg [iN b,iN c,.str d,iN k,iN f]] fun l m=>
 asI .i64 l fun n=>unc m fun o p=>nC o fun q=>unc q fun r s=>jl (5,0) r fun t=>unn s (unn p (grd (decide (0 <= p2) && decide (p2 < ni g.length)) (cT g p2.toNat fun _=>
 nam (List.set g p2.toNat (iN n)) fun u=>
 y3 p0 p1 (w6 (p2 + 1)) u p4 t)))))
 (
 jb V 157 [.op [.os (5,0) p5],.agg [iN b,iN c,.str d,iN e,iN f]] fun j k=>
 asI .i64 j fun l=>unc k fun m n=>nC m fun o=>unc o fun p q=>jl (5,0) p fun r=>unn q (unn n (grd (decide (0 <= p2) && decide (p2 < ni g.length)) (cT g p2.toNat fun _=>
 nam (List.set g p2.toNat (iN l)) fun s=>
 y3 p0 p1 (w6 (p2 + 1)) s p4 r))))))))))))
 (some ((.os (1,0) p3),[.op [.os (5,0) p5]])):=by
 exact (yC _ _ _).trans (by kernel_rfl)
theorem D6 (p0:List D) (p1:Int) (p2 p3 p4:List D):zu p0 p1 p2 p3 p4 =
 br (decide (p1 < ni p2.length))
 (
 grd (decide (0 <= p1) && decide (p1 < ni p0.length)) (cT p0 p1.toNat fun a=>
 asB a fun b=>br (!b)
 (zu p0 (w6 (p1 + 1)) p2 p3 p4)
 (
 grd (decide (0 <= p1) && decide (p1 < ni p2.length)) (cT p2 p1.toNat fun c=>
 tk1 c fun d e f g h=>(br (d == 5)
 (
 grd (decide (0 <= g) && decide (g < ni p3.length)) (cT p3 g.toNat fun i=>
 asI .i64 i fun j=>grd (decide (0 <= h) && decide (h < ni p3.length)) (cT p3 h.toNat fun k=>
 asI .i64 k fun l=>jb V 158 [.op [.os (5,0) p4],.agg [iN d,iN e,.str f,iN j,iN l]] fun m n=>
 asI .i64 m fun o=>unc n fun p q=>nC p fun r=>unc r fun s t=>jl (5,0) s fun u=>unn t (unn q (grd (decide (0 <= p1) && decide (p1 < ni p3.length)) (cT p3 p1.toNat fun _=>
 nam (List.set p3 p1.toNat (iN o)) fun v=>
 zu p0 (w6 (p1 + 1)) p2 v u))))))
 (
 br (d == 6)
 (
 br (d == 6)
 (
 grd (decide (0 <= g) && decide (g < ni p3.length)) (cT p3 g.toNat fun i=>
 asI .i64 i fun j=>jb V 158 [.op [.os (5,0) p4],.agg [iN d,iN e,.str f,iN j,iN h]] fun k l=>
 asI .i64 k fun m=>unc l fun n o=>nC n fun p=>unc p fun q r=>jl (5,0) q fun s=>unn r (unn o (grd (decide (0 <= p1) && decide (p1 < ni p3.length)) (cT p3 p1.toNat fun _=>
 nam (List.set p3 p1.toNat (iN m)) fun t=>
 zu p0 (w6 (p1 + 1)) p2 t s)))))
 (
 jb V 158 [.op [.os (5,0) p4],.agg [iN d,iN e,.str f,iN g,iN h]] fun i j=>
 asI .i64 i fun k=>unc j fun l m=>nC l fun n=>unc n fun o p=>jl (5,0) o fun q=>unn p (unn m (grd (decide (0 <= p1) && decide (p1 < ni p3.length)) (cT p3 p1.toNat fun _=>
 nam (List.set p3 p1.toNat (iN k)) fun r=>
 zu p0 (w6 (p1 + 1)) p2 r q)))))
 (
 br (d == 7)
 (
 grd (decide (0 <= g) && decide (g < ni p3.length)) (cT p3 g.toNat fun i=>
 asI .i64 i fun j=>jb V 158 [.op [.os (5,0) p4],.agg [iN d,iN e,.str f,iN j,iN h]] fun k l=>
 asI .i64 k fun m=>unc l fun n o=>nC n fun p=>unc p fun q r=>jl (5,0) q fun s=>unn r (unn o (grd (decide (0 <= p1) && decide (p1 < ni p3.length)) (cT p3 p1.toNat fun _=>
 nam (List.set p3 p1.toNat (iN m)) fun t=>
 zu p0 (w6 (p1 + 1)) p2 t s)))))
 (
 jb V 158 [.op [.os (5,0) p4],.agg [iN d,iN e,.str f,iN g,iN h]] fun i j=>
 asI .i64 i fun k=>unc j fun l m=>nC l fun n=>unc n fun o p=>jl (5,0) o fun q=>unn p (unn m (grd (decide (0 <= p1) && decide (p1 < ni p3.length)) (cT p3 p1.toNat fun _=>
 nam (List.set p3 p1.toNat (iN k)) fun r=>
 zu p0 (w6 (p1 + 1)) p2 r q)))))))))))
 (some ((.os (1,0) p3),[.op [.os (5,0) p4]])):=by
 exact (yC _ _ _).trans (by kernel_rfl)
theorem Dr (p0:Int) (p1 p2:List D):zp p0 p1 p2 =
 br (decide (p0 >= 0))
 (
 grd (decide (0 <= p0) && decide (p0 < ni p1.length)) (cT p1 p0.toNat fun a=>
 tk1 a fun b _ _ c d=>(grd (decide (0 <= p0) && decide (p0 < ni p2.length)) (cT p2 p0.toNat fun e=>
 asB e fun f=>br (!f)
 (zp (w6 (p0 - 1)) p1 p2)
 (
 br (b == 5)
 (
 grd (decide (0 <= c) && decide (c < ni p2.length)) (cT p2 c.toNat fun _=>
 nam (List.set p2 c.toNat (D.bool true)) fun g=>
 grd (decide (0 <= d) && decide (d < ni g.length)) (cT g d.toNat fun _=>
 nam (List.set g d.toNat (D.bool true)) fun h=>
 zp (w6 (p0 - 1)) p1 h)))
 (
 br (b == 6)
 (
 br (b == 6)
 (
 grd (decide (0 <= c) && decide (c < ni p2.length)) (cT p2 c.toNat fun _=>
 nam (List.set p2 c.toNat (D.bool true)) fun g=>
 zp (w6 (p0 - 1)) p1 g))
 (zp (w6 (p0 - 1)) p1 p2))
 (
 br (b == 7)
 (
 grd (decide (0 <= c) && decide (c < ni p2.length)) (cT p2 c.toNat fun _=>
 nam (List.set p2 c.toNat (D.bool true)) fun g=>
 zp (w6 (p0 - 1)) p1 g))
 (zp (w6 (p0 - 1)) p1 p2))))))))
 (some ((.os (1,0) p2),[])):=by
 exact (yC _ _ _).trans (by kernel_rfl)
theorem Dn (p0:List D) (p1 p2:Int) (p3 p4 p5 p6:List D):zk p0 p1 p2 p3 p4 p5 p6 =
 br (decide (p1 < ni p3.length))
 (
 grd (decide (0 <= p1) && decide (p1 < ni p3.length)) (cT p3 p1.toNat fun a=>
 asI .i64 a fun b=>jb V 244 [.op [.os (5,0) p4,.os (4,0) p5,.os (3,0) p6,iN p2],iN b,.rs (1,1) p0] fun c d=>
 iV c fun e=>unn e (unc d fun f g=>tk2 f fun h i j k=>(unn g (zk p0 (w6 (p1 + 1)) k p3 h i j)))))
 (
 jb V 237 [.op [.os (5,0) p4,.os (4,0) p5,.os (3,0) p6,iN p2],(.agg [iN (7),iN (0),(iN (w6 (ni p3.length - 1))),.str ({ data:=#[] })])] fun a b=>
 asI .i64 a fun _=>unc b fun c d=>tk2 c fun e f g h=>(unn d (some ((.tup []),[.op [.os (5,0) e,.os (4,0) f,.os (3,0) g,iN h]])))):=by
 exact (yC _ _ _).trans (by kernel_rfl)
theorem OC (a0_0 a0_1 a0_2:List D) (a1_0:Int) (a1_1:List D) (a1_2 a1_3 a1_4 a1_5 a1_6 a1_7 a1_8:Int) (a1_9 a1_10:List D):V 26 [.agg [.rs (5,0) a0_0,.rs (4,0) a0_1,.rs (3,0) a0_2],.agg [iN a1_0,.rs (5,0) a1_1,iN a1_2,iN a1_3,iN a1_4,iN a1_5,iN a1_6,iN a1_7,iN a1_8,.rs (1,0) a1_9,.rs (1,0) a1_10]] =
 jb V 58 [iN a1_0,iN (1),iN (1000000000)] fun a b=>
 asB a fun c=>unn b (br (!c)
 (some ((.bool false),[]))
 (
 jb V 14 [.agg [.rs (5,0) a0_0,.rs (4,0) a0_1,.rs (3,0) a0_2],(.agg [.rs (5,0) a1_1,iN a1_2,iN a1_3,iN a1_4,iN a1_5,iN a1_6,iN a1_7,iN a1_8])] fun d e=>
 asB d fun f=>unn e (br (!f)
 (some ((.bool false),[]))
 (
 br (decide (ni a1_9.length > 20))
 (some ((.bool false),[]))
 (
 br (decide (ni a1_10.length > 40))
 (some ((.bool false),[]))
 (
 jb V 80 [.rs (1,0) a1_9,(.fn 81 [])] fun g h=>
 asB g fun i=>unn h (br (!i)
 (
 jb V 80 [.rs (1,0) a1_10,(.fn 83 [])] fun j k=>
 asB j fun l=>unn k (some ((.bool (!l)),[])))
 (some ((.bool false),[]))))))))):=by
 exact (yD Tryz.func26 rfl _).trans (by kernel_rfl)
theorem Di (p0:List D) (p1 p2:Int) (p3 p4 p5:List D):Bi p0 p1 p2 p3 p4 p5 =
 br (decide (p2 < p1))
 (
 grd (decide (0 <= p2) && decide (p2 < ni p0.length)) (cT p0 p2.toNat fun a=>
 UY a fun b c d=>(jb V 124 [.str b] fun e f=>
 asB e fun g=>unn f (br (!g)
 (some ((.bool false),[]))
 (
 jb V 125 [.agg [.rs (5,0) p3,.rs (4,0) p4,.rs (3,0) p5],.str b] fun h i=>
 asI .i64 h fun j=>unn i (br (j != p2)
 (some ((.bool false),[]))
 (
 jb V 58 [iN c,iN (0),(iN (w6 (ni p4.length - 1)))] fun k l=>
 asB k fun m=>unn l (br (!m)
 (some ((.bool false),[]))
 (
 jb V 58 [iN d,iN (0),iN (4)] fun n o=>
 asB n fun p=>unn o (br (!p)
 (some ((.bool false),[]))
 (Bi p0 p1 (w6 (p2 + 1)) p3 p4 p5)))))))))))
 (some ((.bool true),[])):=by
 exact (yC _ _ _).trans (by kernel_rfl)
theorem FF (p0 p1:Int) (p2:List D) (p3 p4:Int):CU p0 p1 p2 p3 p4 =
 br (decide (p1 < p0))
 (
 jb V 197 [.op [.rs (1,0) p2,iN p3,iN p4],iN p1] fun a b=>
 asAgg a fun c=>unc c fun d e=>asI .i64 d fun f=>unc e fun g h=>asI .i64 g fun i=>unc h fun j k=>asS j fun l=>unc k fun m n=>asI .i64 m fun o=>unc n fun p q=>asI .i64 p fun r=>unn q (unc b fun s t=>nC s fun u=>unc u fun v w=>kq (1,0) v fun x=>unc w fun y z=>asI .i64 y fun A=>unc z fun B C=>asI .i64 B fun E=>unn C (unn t (jb V 158 [.op [.os (5,0) []],.agg [iN f,iN i,.str l,iN o,iN r]] fun F G=>
 asI .i64 F fun _=>unc G fun H I=>nC H fun J=>unc J fun K L=>jl (5,0) K fun M=>unn L (unn I (zP p0 (w6 (p1 + 1)) x A E M))))))
 (some ((.agg [.os (5,0) []]),[.op [.rs (1,0) p2,iN p3,iN p4]])):=by
 exact (yC _ _ _).trans (by kernel_rfl)
theorem J7 (a0_:Int):V 180 [.int .u8 a0_] =
 br (decide (a0_ >= 97))
 (
 br (decide (a0_ <= 122))
 (some ((.bool true),[]))
 (
 br (a0_ == 43)
 (some ((.bool true),[]))
 (
 br (a0_ == 45)
 (some ((.bool true),[]))
 (
 br (a0_ == 42)
 (some ((.bool true),[]))
 (
 br (a0_ == 60)
 (some ((.bool true),[]))
 (
 br (a0_ == 61)
 (some ((.bool true),[]))
 (
 br (a0_ == 63)
 (some ((.bool true),[]))
 (
 br (a0_ == 33)
 (some ((.bool true),[]))
 (some ((.bool (a0_ == 47)),[]))))))))))
 (
 br (a0_ == 43)
 (some ((.bool true),[]))
 (
 br (a0_ == 45)
 (some ((.bool true),[]))
 (
 br (a0_ == 42)
 (some ((.bool true),[]))
 (
 br (a0_ == 60)
 (some ((.bool true),[]))
 (
 br (a0_ == 61)
 (some ((.bool true),[]))
 (
 br (a0_ == 63)
 (some ((.bool true),[]))
 (
 br (a0_ == 33)
 (some ((.bool true),[]))
 (some ((.bool (a0_ == 47)),[]))))))))):=by
 exact (yD Tryz.func180 rfl _).trans (by kernel_rfl)
theorem DW (p0:Int) (p1:List D):BV p0 p1 =
 br (decide (p0 < ni p1.length))
 (
 grd (decide (0 <= p0) && decide (p0 < ni p1.length)) (cT p1 p0.toNat fun a=>
 tk1 a fun b c d e f=>(jb V 130 [.agg [iN b,iN c,.str d,iN e,iN f],iN p0] fun g h=>
 asB g fun i=>unn h (br (!i)
 (some ((.bool false),[]))
 (BV (w6 (p0 + 1)) p1)))))
 (some ((.bool (decide (ni p1.length <= 3000))),[])):=by
 exact (yC _ _ _).trans (by kernel_rfl)
theorem Fg (p0:List D) (p1 p2:Int):Cq p0 p1 p2 =
 br (decide (p2 < ni p0.length))
 (
 br (decide (p2 < 4000))
 (
 grd (decide (0 <= p2) && decide (p2 < ni p0.length)) (cT p0 p2.toNat fun a=>
 asI .u8 a fun b=>Cq p0 (w6 (ni (BitVec.toNat (BitVec.ofInt (IntKind.bits IntKind.i64) (w6 (w6 (w6 (p1 * 131) + w6 b) + 7)) &&& BitVec.ofInt (IntKind.bits IntKind.i64) (1073741823))))) (w6 (p2 + 1))))
 (some ((.op [.rs (1,0) p0,iN (0),iN p1]),[])))
 (some ((.op [.rs (1,0) p0,iN (0),iN p1]),[])):=by
 exact (yC _ _ _).trans (by kernel_rfl)
theorem Ga (p0:List D) (p1 p2:Int) (p3 p4 p5:List D):Db p0 p1 p2 p3 p4 p5 =
 br (decide (p2 < p1))
 (
 grd (decide (0 <= p2) && decide (p2 < ni p0.length)) (cT p0 p2.toNat fun a=>
 asI .i64 a fun b=>grd (decide (0 <= b) && decide (b < ni p3.length)) (cT p3 b.toNat fun c=>
 asI .i64 c fun d=>grd (decide (ni (List.length (p4++[iN d])) <= LIM)) (nam (p4++[iN d]) fun e=>
 Db p0 p1 (w6 (p2 + 1)) p3 e p5))))
 (some ((.tup [.agg [.os (5,0) p5],.os (1,0) p4]),[])):=by
 exact (yC _ _ _).trans (by kernel_rfl)
theorem D0 (p0:Int) (p1:List D) (p2 p3:Int) (p4:List D):zO p0 p1 p2 p3 p4 =
 br (decide (p0 < ni p4.length))
 (
 grd (decide (0 <= p0) && decide (p0 < ni p4.length)) (cT p4 p0.toNat fun a=>
 asAgg a fun b=>nam (List.set p4 p0.toNat (D.agg (List.take 0 b++[iN (1)]++List.drop 1 b))) fun c=>
 zO (w6 (p0 + 1)) p1 p2 p3 c))
 (some ((.agg [.os (5,0) p4]),[.op [.rs (1,0) p1,iN p2,iN p3]])):=by
 exact (yC _ _ _).trans (by kernel_rfl)
theorem CW (p0:Int) (p1:ByteArray):AM p0 p1 =
 br (decide (p0 > 0))
 (grd (!decide (10 = 0)) (gy ([D.int IntKind.u8 (IntKind.wrap IntKind.u8 (w6 (48 + Int.tmod p0 (10))))]) fun a=>grd (decide (ni (ByteArray.size a + ByteArray.size p1) <= LIM)) (grd (!decide (10 = 0)) (AM (w6 (Int.tdiv p0 (10))) (a++p1)))))
 (some ((.str p1),[])):=by
 exact (yC _ _ _).trans (by kernel_rfl)
theorem DP (p0:ByteArray) (p1 p2:Int):AA p0 p1 p2 =
 br (decide (p2 < p1))
 (
 grd (decide (0 <= p2) && decide (p2 < ni (ByteArray.size p0))) (jb V 177 [.int .u8 (bt p0 p2)] fun a b=>
 asB a fun c=>unn b (br (!c)
 (some ((.bool false),[]))
 (AA p0 p1 (w6 (p2 + 1))))))
 (some ((.bool true),[])):=by
 exact (yC _ _ _).trans (by kernel_rfl)
theorem Ql (a0_ a1_:Int):V 116 [iN a0_,iN a1_] =
 br (decide (a0_ < a1_))
 (some ((iN a0_),[]))
 (some ((iN a1_),[])):=by
 exact (yD Tryz.func116 rfl _).trans (by kernel_rfl)
theorem IY (l:List D):V 145 [.rs (1,0) l,.fn 81 []] =
 zW l (ni l.length) (0):=by
 exact (yD Tryz.func145 rfl _).trans (by kernel_rfl)
theorem LD (a0_:ByteArray):V 83 [.str a0_] =
 some ((.bool (decide (ni (ByteArray.size a0_) > 400))),[]):=by
 exact (yD Tryz.func83 rfl _).trans (by kernel_rfl)

end Go.Eng
/-! a call and its results,taken in one step -/
namespace Go.Eng
open Go.Proofs
theorem zb {ds:List D} {v2:Int} {v8 v11 v14:List D} {v17:Int} (h:V 237 ds = some (iN v2,[.op [.os (5,0) v8,.os (4,0) v11,.os (3,0) v14,iN v17]])) (K:Int->List D->List D->List D->Int->Option Ret):jb V 237 ds (fun v0 v1=>asI .i64 v0 fun v2=>unc v1 fun v3 v4=>tk2 v3 fun v8 v11 v14 v17=>(unn v4 ((K v2 v8 v11 v14 v17)))) = K v2 v8 v11 v14 v17:=(xh h _).trans rfl
theorem AI {ds v8 v11 v14:List D} {v17:Int} (h:V 244 ds = some (.tup [],[.op [.os (5,0) v8,.os (4,0) v11,.os (3,0) v14,iN v17]])) (K:List D->List D->List D->Int->Option Ret):jb V 244 ds (fun v0 v1=>iV v0 fun v2=>unn v2 (unc v1 fun v3 v4=>tk2 v3 fun v8 v11 v14 v17=>(unn v4 ((K v8 v11 v14 v17))))) = K v8 v11 v14 v17:=(xh h _).trans rfl
theorem GV {ds v8 v11 v14:List D} {v17:Int} (h:V 253 ds = some (.tup [],[.op [.os (5,0) v8,.os (4,0) v11,.os (3,0) v14,iN v17]])) (K:List D->List D->List D->Int->Option Ret):jb V 253 ds (fun v0 v1=>iV v0 fun v2=>unn v2 (unc v1 fun v3 v4=>tk2 v3 fun v8 v11 v14 v17=>(unn v4 ((K v8 v11 v14 v17))))) = K v8 v11 v14 v17:=(xh h _).trans rfl
theorem Eu {ds v8 v11 v14:List D} {v17:Int} (h:V 236 ds = some (.tup [],[.op [.os (5,0) v8,.os (4,0) v11,.os (3,0) v14,iN v17]])) (K:List D->List D->List D->Int->Option Ret):jb V 236 ds (fun v0 v1=>iV v0 fun v2=>unn v2 (unc v1 fun v3 v4=>tk2 v3 fun v8 v11 v14 v17=>(unn v4 ((K v8 v11 v14 v17))))) = K v8 v11 v14 v17:=(xh h _).trans rfl
theorem Cu {ds v5:List D} {v8:Bool} (h:V 228 ds = some (.tup [.os (1,0) v5,.bool v8],[])) (K:List D->Bool->Option Ret):jb V 228 ds (fun v0 v1=>tk3 v0 fun v5 v8=>(unn v1 ((K v5 v8)))) = K v5 v8:=(xh h _).trans rfl
theorem FK {ds v2 v8 v11 v14:List D} {v17:Int} (h:V 231 ds = some (.os (1,0) v2,[.op [.os (5,0) v8,.os (4,0) v11,.os (3,0) v14,iN v17]])) (K:List D->List D->List D->List D->Int->Option Ret):jb V 231 ds (fun v0 v1=>jl (1,0) v0 fun v2=>unc v1 fun v3 v4=>tk2 v3 fun v8 v11 v14 v17=>(unn v4 ((K v2 v8 v11 v14 v17)))) = K v2 v8 v11 v14 v17:=(xh h _).trans rfl
theorem LX {ds v8 v11 v14:List D} {v17:Int} (h:V 254 ds = some (.tup [],[.op [.os (5,0) v8,.os (4,0) v11,.os (3,0) v14,iN v17]])) (K:List D->List D->List D->Int->Option Ret):jb V 254 ds (fun v0 v1=>iV v0 fun v2=>unn v2 (unc v1 fun v3 v4=>tk2 v3 fun v8 v11 v14 v17=>(unn v4 ((K v8 v11 v14 v17))))) = K v8 v11 v14 v17:=(xh h _).trans rfl
theorem Ej {ds:List D} {v2:Bool} (h:V 60 ds = some (.bool v2,[])) (K:Bool->Option Ret):jb V 60 ds (fun v0 v1=>asB v0 fun v2=>unn v1 ((K v2))) = K v2:=(xh h _).trans rfl
theorem RN {ds:List D} {v2:Bool} (h:V 61 ds = some (.bool v2,[])) (K:Bool->Option Ret):jb V 61 ds (fun v0 v1=>asB v0 fun v2=>unn v1 ((K v2))) = K v2:=(xh h _).trans rfl
theorem Gf {ds:List D} {v2:Bool} (h:V 180 ds = some (.bool v2,[])) (K:Bool->Option Ret):jb V 180 ds (fun v0 v1=>asB v0 fun v2=>unn v1 ((K v2))) = K v2:=(xh h _).trans rfl
theorem Ah {ds:List D} {v2:Bool} (h:V 62 ds = some (.bool v2,[])) (K:Bool->Option Ret):jb V 62 ds (fun v0 v1=>asB v0 fun v2=>unn v1 ((K v2))) = K v2:=(xh h _).trans rfl
theorem JE {ds:List D} {v2:Int} {v8:List D} {v11 v14:Int} (h:V 76 ds = some (iN v2,[.op [.rs (1,0) v8,iN v11,iN v14]])) (K:Int->List D->Int->Int->Option Ret):jb V 76 ds (fun v0 v1=>asI .i64 v0 fun v2=>unc v1 fun v3 v4=>tk4 v3 fun v8 v11 v14=>(unn v4 ((K v2 v8 v11 v14)))) = K v2 v8 v11 v14:=(xh h _).trans rfl
theorem zi {ds v5:List D} (h:V 147 ds = some (.agg [.os (5,0) v5],[])) (K:List D->Option Ret):jb V 147 ds (fun v0 v1=>asAgg v0 fun v2=>unc v2 fun v3 v4=>jl (5,0) v3 fun v5=>unn v4 (unn v1 ((K v5)))) = K v5:=(xh h _).trans rfl
theorem Kx {ds:List D} {v2:Int} {v8:List D} (h:V 210 ds = some (iN v2,[.op [.os (5,0) v8]])) (K:Int->List D->Option Ret):jb V 210 ds (fun v0 v1=>asI .i64 v0 fun v2=>unc v1 fun v3 v4=>nC v3 fun v5=>unc v5 fun v6 v7=>jl (5,0) v6 fun v8=>unn v7 (unn v4 ((K v2 v8)))) = K v2 v8:=(xh h _).trans rfl
theorem zT {ds:List D} {v2:Bool} (h:V 211 ds = some (.bool v2,[])) (K:Bool->Option Ret):jb V 211 ds (fun v0 v1=>asB v0 fun v2=>unn v1 ((K v2))) = K v2:=(xh h _).trans rfl
theorem y7 {ds:List D} {v2:Bool} (h:V 58 ds = some (.bool v2,[])) (K:Bool->Option Ret):jb V 58 ds (fun v0 v1=>asB v0 fun v2=>unn v1 ((K v2))) = K v2:=(xh h _).trans rfl
theorem QP {ds:List D} {v2:Bool} (h:V 124 ds = some (.bool v2,[])) (K:Bool->Option Ret):jb V 124 ds (fun v0 v1=>asB v0 fun v2=>unn v1 ((K v2))) = K v2:=(xh h _).trans rfl
theorem Kw {ds:List D} {v2:Bool} (h:V 128 ds = some (.bool v2,[])) (K:Bool->Option Ret):jb V 128 ds (fun v0 v1=>asB v0 fun v2=>unn v1 ((K v2))) = K v2:=(xh h _).trans rfl
theorem Gd {ds v8:List D} {v11 v14 v17 v20 v23 v26 v29:Int} {v32:Bool} (h:V 77 ds = some (.tup [.agg [.os (5,0) v8,iN v11,iN v14,iN v17,iN v20,iN v23,iN v26,iN v29],.bool v32],[])) (K:List D->Int->Int->Int->Int->Int->Int->Int->Bool->Option Ret):jb V 77 ds (fun v0 v1=>iV v0 fun v2=>unc v2 fun v3 v4=>tk5 v3 fun v8 v11 v14 v17 v20 v23 v26 v29=>(unc v4 fun v30 v31=>asB v30 fun v32=>unn v31 (unn v1 ((K v8 v11 v14 v17 v20 v23 v26 v29 v32))))) = K v8 v11 v14 v17 v20 v23 v26 v29 v32:=(xh h _).trans rfl
theorem Kv {ds:List D} {v2:Bool} (h:V 26 ds = some (.bool v2,[])) (K:Bool->Option Ret):jb V 26 ds (fun v0 v1=>asB v0 fun v2=>unn v1 ((K v2))) = K v2:=(xh h _).trans rfl
theorem z5 {ds:List D} {v2:Int} {v8:List D} (h:V 158 ds = some (iN v2,[.op [.os (5,0) v8]])) (K:Int->List D->Option Ret):jb V 158 ds (fun v0 v1=>asI .i64 v0 fun v2=>unc v1 fun v3 v4=>nC v3 fun v5=>unc v5 fun v6 v7=>jl (5,0) v6 fun v8=>unn v7 (unn v4 ((K v2 v8)))) = K v2 v8:=(xh h _).trans rfl
theorem Eh {ds:List D} {v2:Int} {v8:List D} (h:V 157 ds = some (iN v2,[.op [.os (5,0) v8]])) (K:Int->List D->Option Ret):jb V 157 ds (fun v0 v1=>asI .i64 v0 fun v2=>unc v1 fun v3 v4=>nC v3 fun v5=>unc v5 fun v6 v7=>jl (5,0) v6 fun v8=>unn v7 (unn v4 ((K v2 v8)))) = K v2 v8:=(xh h _).trans rfl
theorem PG {ds v2:List D} (h:V 149 ds = some (.os (1,0) v2,[])) (K:List D->Option Ret):jb V 149 ds (fun v0 v1=>jl (1,0) v0 fun v2=>unn v1 ((K v2))) = K v2:=(xh h _).trans rfl
theorem QW {ds v2 v8:List D} (h:V 148 ds = some (.os (1,0) v2,[.op [.os (5,0) v8]])) (K:List D->List D->Option Ret):jb V 148 ds (fun v0 v1=>jl (1,0) v0 fun v2=>unc v1 fun v3 v4=>nC v3 fun v5=>unc v5 fun v6 v7=>jl (5,0) v6 fun v8=>unn v7 (unn v4 ((K v2 v8)))) = K v2 v8:=(xh h _).trans rfl
theorem JF {ds:List D} {v2:Bool} (h:V 226 ds = some (.bool v2,[])) (K:Bool->Option Ret):jb V 226 ds (fun v0 v1=>asB v0 fun v2=>unn v1 ((K v2))) = K v2:=(xh h _).trans rfl
theorem DK {ds:List D} {v2:Int} (h:V 221 ds = some (iN v2,[])) (K:Int->Option Ret):jb V 221 ds (fun v0 v1=>asI .i64 v0 fun v2=>unn v1 ((K v2))) = K v2:=(xh h _).trans rfl
theorem Ge {ds v8:List D} {v11 v14 v17 v20 v23 v26 v29:Int} {v32:Bool} (h:V 78 ds = some (.tup [.agg [.os (5,0) v8,iN v11,iN v14,iN v17,iN v20,iN v23,iN v26,iN v29],.bool v32],[])) (K:List D->Int->Int->Int->Int->Int->Int->Int->Bool->Option Ret):jb V 78 ds (fun v0 v1=>iV v0 fun v2=>unc v2 fun v3 v4=>tk5 v3 fun v8 v11 v14 v17 v20 v23 v26 v29=>(unc v4 fun v30 v31=>asB v30 fun v32=>unn v31 (unn v1 ((K v8 v11 v14 v17 v20 v23 v26 v29 v32))))) = K v8 v11 v14 v17 v20 v23 v26 v29 v32:=(xh h _).trans rfl
theorem Eo {ds:List D} {v8 v11:Int} {v14:ByteArray} {v17 v20:Int} {v23:Bool} (h:V 212 ds = some (.tup [.agg [iN v8,iN v11,.str v14,iN v17,iN v20],.bool v23],[])) (K:Int->Int->ByteArray->Int->Int->Bool->Option Ret):jb V 212 ds (fun v0 v1=>iV v0 fun v2=>unc v2 fun v3 v4=>tk1 v3 fun v8 v11 v14 v17 v20=>(unc v4 fun v21 v22=>asB v21 fun v23=>unn v22 (unn v1 ((K v8 v11 v14 v17 v20 v23))))) = K v8 v11 v14 v17 v20 v23:=(xh h _).trans rfl
theorem EJ {ds:List D} {v2:ByteArray} (h:V 202 ds = some (.str v2,[])) (K:ByteArray->Option Ret):jb V 202 ds (fun v0 v1=>asS v0 fun v2=>unn v1 ((K v2))) = K v2:=(xh h _).trans rfl
theorem Ba {ds v8 v11 v14:List D} {v17:Int} (h:V 229 ds = some (.tup [],[.op [.os (5,0) v8,.os (4,0) v11,.os (3,0) v14,iN v17]])) (K:List D->List D->List D->Int->Option Ret):jb V 229 ds (fun v0 v1=>iV v0 fun v2=>unn v2 (unc v1 fun v3 v4=>tk2 v3 fun v8 v11 v14 v17=>(unn v4 ((K v8 v11 v14 v17))))) = K v8 v11 v14 v17:=(xh h _).trans rfl
theorem Ky {ds:List D} {v5:ByteArray} {v8:Bool} {v14 v17 v20:List D} {v23:Int} (h:V 230 ds = some (.tup [.str v5,.bool v8],[.op [.os (5,0) v14,.os (4,0) v17,.os (3,0) v20,iN v23]])) (K:ByteArray->Bool->List D->List D->List D->Int->Option Ret):jb V 230 ds (fun v0 v1=>tk6 v0 fun v5 v8=>(unc v1 fun v9 v10=>tk2 v9 fun v14 v17 v20 v23=>(unn v10 ((K v5 v8 v14 v17 v20 v23))))) = K v5 v8 v14 v17 v20 v23:=(xh h _).trans rfl
theorem UI {ds:List D} {v2:Bool} (h:V 12 ds = some (.bool v2,[])) (K:Bool->Option Ret):jb V 12 ds (fun v0 v1=>asB v0 fun v2=>unn v1 ((K v2))) = K v2:=(xh h _).trans rfl
theorem Fw {ds v8 v11 v14:List D} {v17:ByteArray} {v20:Int} (h:V 23 ds = some (.tup [.agg [.os (5,0) v8,.os (4,0) v11,.os (3,0) v14],.str v17,iN v20],[])) (K:List D->List D->List D->ByteArray->Int->Option Ret):jb V 23 ds (fun v0 v1=>iV v0 fun v2=>unc v2 fun v3 v4=>tk7 v3 fun v8 v11 v14=>(unc v4 fun v15 v16=>asS v15 fun v17=>unc v16 fun v18 v19=>asI .i64 v18 fun v20=>unn v19 (unn v1 ((K v8 v11 v14 v17 v20))))) = K v8 v11 v14 v17 v20:=(xh h _).trans rfl
theorem JA {ds:List D} {v8:Int} {v11:List D} {v14 v17 v20 v23 v26 v29 v32:Int} {v35 v38:List D} {v41:Bool} (h:V 24 ds = some (.tup [.agg [iN v8,.os (5,0) v11,iN v14,iN v17,iN v20,iN v23,iN v26,iN v29,iN v32,.os (1,0) v35,.os (1,0) v38],.bool v41],[])) (K:Int->List D->Int->Int->Int->Int->Int->Int->Int->List D->List D->Bool->Option Ret):jb V 24 ds (fun v0 v1=>iV v0 fun v2=>unc v2 fun v3 v4=>tk8 v3 fun v8 v11 v14 v17 v20 v23 v26 v29 v32 v35 v38=>(unc v4 fun v39 v40=>asB v39 fun v41=>unn v40 (unn v1 ((K v8 v11 v14 v17 v20 v23 v26 v29 v32 v35 v38 v41))))) = K v8 v11 v14 v17 v20 v23 v26 v29 v32 v35 v38 v41:=(xh h _).trans rfl
theorem JD {ds:List D} {v8:Int} {v11:List D} {v14 v17 v20 v23 v26 v29 v32:Int} {v35 v38:List D} {v41:Bool} (h:V 25 ds = some (.tup [.agg [iN v8,.os (5,0) v11,iN v14,iN v17,iN v20,iN v23,iN v26,iN v29,iN v32,.os (1,0) v35,.os (1,0) v38],.bool v41],[])) (K:Int->List D->Int->Int->Int->Int->Int->Int->Int->List D->List D->Bool->Option Ret):jb V 25 ds (fun v0 v1=>iV v0 fun v2=>unc v2 fun v3 v4=>tk8 v3 fun v8 v11 v14 v17 v20 v23 v26 v29 v32 v35 v38=>(unc v4 fun v39 v40=>asB v39 fun v41=>unn v40 (unn v1 ((K v8 v11 v14 v17 v20 v23 v26 v29 v32 v35 v38 v41))))) = K v8 v11 v14 v17 v20 v23 v26 v29 v32 v35 v38 v41:=(xh h _).trans rfl
theorem QR {ds:List D} {v2:Bool} (h:V 59 ds = some (.bool v2,[])) (K:Bool->Option Ret):jb V 59 ds (fun v0 v1=>asB v0 fun v2=>unn v1 ((K v2))) = K v2:=(xh h _).trans rfl
theorem RT {ds v8 v11 v14:List D} {v17:Int} (h:V 215 ds = some (.tup [],[.op [.os (5,0) v8,.os (4,0) v11,.os (3,0) v14,iN v17]])) (K:List D->List D->List D->Int->Option Ret):jb V 215 ds (fun v0 v1=>iV v0 fun v2=>unn v2 (unc v1 fun v3 v4=>tk2 v3 fun v8 v11 v14 v17=>(unn v4 ((K v8 v11 v14 v17))))) = K v8 v11 v14 v17:=(xh h _).trans rfl
theorem CR {ds:List D} {v2:Bool} (h:V 238 ds = some (.bool v2,[])) (K:Bool->Option Ret):jb V 238 ds (fun v0 v1=>asB v0 fun v2=>unn v1 ((K v2))) = K v2:=(xh h _).trans rfl
theorem LY {ds:List D} {v5 v8:Int} (h:V 248 ds = some (.tup [iN v5,iN v8],[])) (K:Int->Int->Option Ret):jb V 248 ds (fun v0 v1=>tk9 v0 fun v5 v8=>(unn v1 ((K v5 v8)))) = K v5 v8:=(xh h _).trans rfl
theorem QV {ds v8 v11 v14:List D} {v17:Int} (h:V 249 ds = some (.tup [],[.op [.os (5,0) v8,.os (4,0) v11,.os (3,0) v14,iN v17]])) (K:List D->List D->List D->Int->Option Ret):jb V 249 ds (fun v0 v1=>iV v0 fun v2=>unn v2 (unc v1 fun v3 v4=>tk2 v3 fun v8 v11 v14 v17=>(unn v4 ((K v8 v11 v14 v17))))) = K v8 v11 v14 v17:=(xh h _).trans rfl
theorem RM {ds v2:List D} (h:V 189 ds = some (.os (1,0) v2,[])) (K:List D->Option Ret):jb V 189 ds (fun v0 v1=>jl (1,0) v0 fun v2=>unn v1 ((K v2))) = K v2:=(xh h _).trans rfl
theorem zQ {ds:List D} {v2:Int} (h:V 145 ds = some (iN v2,[])) (K:Int->Option Ret):jb V 145 ds (fun v0 v1=>asI .i64 v0 fun v2=>unn v1 ((K v2))) = K v2:=(xh h _).trans rfl
theorem NT {ds v8 v11:List D} {v14 v17:Int} (h:V 191 ds = some (.tup [.agg [.os (5,0) v8],.os (1,0) v11,iN v14,iN v17],[])) (K:List D->List D->Int->Int->Option Ret):jb V 191 ds (fun v0 v1=>iV v0 fun v2=>unc v2 fun v3 v4=>asAgg v3 fun v5=>unc v5 fun v6 v7=>jl (5,0) v6 fun v8=>unn v7 (unc v4 fun v9 v10=>jl (1,0) v9 fun v11=>unc v10 fun v12 v13=>asI .i64 v12 fun v14=>unc v13 fun v15 v16=>asI .i64 v15 fun v17=>unn v16 (unn v1 ((K v8 v11 v14 v17))))) = K v8 v11 v14 v17:=(xh h _).trans rfl
theorem JB {ds v8 v11 v14:List D} {v17 v20:Int} (h:V 193 ds = some (.tup [.agg [.os (5,0) v8,.os (4,0) v11,.os (3,0) v14],iN v17,iN v20],[])) (K:List D->List D->List D->Int->Int->Option Ret):jb V 193 ds (fun v0 v1=>iV v0 fun v2=>unc v2 fun v3 v4=>Wt v3 fun v8 v11 v14=>(unc v4 fun v15 v16=>asI .i64 v15 fun v17=>unc v16 fun v18 v19=>asI .i64 v18 fun v20=>unn v19 (unn v1 ((K v8 v11 v14 v17 v20))))) = K v8 v11 v14 v17 v20:=(xh h _).trans rfl
theorem QT {ds:List D} {v2:Bool} (h:V 79 ds = some (.bool v2,[])) (K:Bool->Option Ret):jb V 79 ds (fun v0 v1=>asB v0 fun v2=>unn v1 ((K v2))) = K v2:=(xh h _).trans rfl
theorem QQ {ds:List D} {v2:Bool} (h:V 126 ds = some (.bool v2,[])) (K:Bool->Option Ret):jb V 126 ds (fun v0 v1=>asB v0 fun v2=>unn v1 ((K v2))) = K v2:=(xh h _).trans rfl
theorem CT {ds:List D} {v2:Bool} (h:V 203 ds = some (.bool v2,[])) (K:Bool->Option Ret):jb V 203 ds (fun v0 v1=>asB v0 fun v2=>unn v1 ((K v2))) = K v2:=(xh h _).trans rfl
theorem LV {ds v2 v8:List D} (h:V 137 ds = some (.os (1,0) v2,[.op [.os (5,0) v8]])) (K:List D->List D->Option Ret):jb V 137 ds (fun v0 v1=>jl (1,0) v0 fun v2=>unc v1 fun v3 v4=>nC v3 fun v5=>unc v5 fun v6 v7=>jl (5,0) v6 fun v8=>unn v7 (unn v4 ((K v2 v8)))) = K v2 v8:=(xh h _).trans rfl
theorem CI {ds:List D} {v2:Int} {v8:List D} {v11 v14:Int} (h:V 143 ds = some (iN v2,[.op [.rs (1,0) v8,iN v11,iN v14]])) (K:Int->List D->Int->Int->Option Ret):jb V 143 ds (fun v0 v1=>asI .i64 v0 fun v2=>unc v1 fun v3 v4=>tk4 v3 fun v8 v11 v14=>(unn v4 ((K v2 v8 v11 v14)))) = K v2 v8 v11 v14:=(xh h _).trans rfl
theorem RQ {ds:List D} {v5:Int} {v8:Bool} (h:V 227 ds = some (.tup [iN v5,.bool v8],[])) (K:Int->Bool->Option Ret):jb V 227 ds (fun v0 v1=>VL v0 fun v5 v8=>(unn v1 ((K v5 v8)))) = K v5 v8:=(xh h _).trans rfl
theorem QU {ds:List D} {v2:Bool} (h:V 130 ds = some (.bool v2,[])) (K:Bool->Option Ret):jb V 130 ds (fun v0 v1=>asB v0 fun v2=>unn v1 ((K v2))) = K v2:=(xh h _).trans rfl
theorem KY {ds:List D} {v2:Bool} (h:V 177 ds = some (.bool v2,[])) (K:Bool->Option Ret):jb V 177 ds (fun v0 v1=>asB v0 fun v2=>unn v1 ((K v2))) = K v2:=(xh h _).trans rfl
end Go.Eng
/-! nodes and pools: when they are right,on both sides -/
namespace Go.Eng
noncomputable section
open Go.Proofs Go.Proofs.Tryz

theorem y5 (b c : Bool) (l : List D) : br b (some (D.bool c,l)) (some (D.bool false,l)) = some (D.bool (b && c),l) := by cases b <;> rfl
theorem Ul (b c : Bool) (l : List D) : br b (some (D.bool true,l)) (some (D.bool c,l)) = some (D.bool (b || c),l) := by cases b <;> rfl
theorem Jj (b c : Bool) (l : List D) : br b (some (D.bool false,l)) (some (D.bool c,l)) = some (D.bool (!b && c),l) := by cases b <;> rfl

structure Nd where
 kind : Int
 n : Int
 s : ByteArray
 a : Int
 b : Int
abbrev eN (x : Nd) : D := .agg [iN x.kind,iN x.n,.str x.s,iN x.a,iN x.b]
section
variable {R : Type}
theorem Ja (x : Nd) (K : Int -> Int -> ByteArray -> Int -> Int -> Option R) : tk1 (eN x) (fun n4 n7 s10 n13 n16 => (K n4 n7 s10 n13 n16)) = K x.kind x.n x.s x.a x.b := rfl
theorem WY (x : Nd) (K : Int -> Option R) : asAgg (eN x) (fun l => cT l 0 fun y => asI .i64 y fun n => K n) = K x.kind := rfl
theorem WZ (x : Nd) (K : ByteArray -> Option R) : asAgg (eN x) (fun l => cT l 2 fun y => asS y fun n => K n) = K x.s := rfl
theorem W7 (x : Nd) (K : Int -> Option R) : asAgg (eN x) (fun l => cT l 3 fun y => asI .i64 y fun n => K n) = K x.a := rfl
theorem W8 (x : Nd) (K : Int -> Option R) : asAgg (eN x) (fun l => cT l 4 fun y => asI .i64 y fun n => K n) = K x.b := rfl
end

theorem y0 (n lo hi : Int) : V 58 [iN n,iN lo,iN hi] = some (.bool (wi n lo hi),[]) := (OJ n lo hi).trans xG
theorem zI (n lo hi : Int) : V 62 [iN n,iN lo,iN hi] = some (.bool (wi n lo hi),[]) := (RA n lo hi).trans xG
theorem Tg (a b : Int) : V 116 [iN a,iN b] = some (iN (mnI a b),[]) := by
 rw [Ql]
 unfold mnI
 by_cases h : a < b
 ·rw [xK (decide_eq_true h),if_neg (by omega)]
 ·rw [xb (decide_eq_false h)]
  by_cases h2 : b < a
  ·rw [if_pos h2]
  ·rw [if_neg h2,show b = a by omega]

def nmB (c : Int) : Bool := (decide (c >= 97) && decide (c <= 122)) || [43,45,42,60,61,63,33,47].any fun x => c == x
theorem LM {l : List Int} (hl : l.length < 4611686018427387904) (c : Int) : ∀ (k i : Nat),i + k = l.length -> zy (l.map (D.int .u8)) c (ni (l.map (D.int .u8)).length) (i : Int) = some (iN (dQ (fun x => c == x) l i),[])
 | 0,i,hi => by
  rw [Au,xb (by rw [lnM]; exact yr (by omega)),w8 (by omega)]
 | k + 1,i,hi => by
  obtain ⟨x,hx⟩ := xx (l := l) (i := i) (by omega)
  have ih := LM hl c k (i + 1) (by omega)
  rw [Au,xK (by rw [lnM]; exact yz (by omega)),yu (by rw [lnM]; exact yx (by omega)),Int.toNat_natCast,xW hx,ye]
  cases h : c == x with
  | true => rw [yk,w9 hx h]
  | false => rw [xJ,yM (by omega),ih,wJ hx h]
theorem UN {l : List Int} {c : Int} : decide (ya (fun x => c == x) l >= 0) = l.any fun x => c == x := by
 unfold ya
 cases h : l.findIdx? fun x => c == x with
 | none =>
  have := List.findIdx?_eq_none_iff.1 h
  symm
  simpa [List.any_eq_false] using this
 | some k =>
  have h2 : (l.any fun x => c == x) = true := by
   rw [List.findIdx?_eq_some_iff_getElem] at h
   obtain ⟨hk,h3,_⟩ := h
   exact List.any_eq_true.2 ⟨l[k],List.getElem_mem hk,h3⟩
  rw [h2]
  simp
theorem Sb {l : List Int} (hl : l.length < 4611686018427387904) (c : Int) : V 203 [.rs (1,0) (l.map (D.int .u8)),.int .u8 c] = some (.bool (l.any fun x => c == x),[]) := by
 have h : V 221 [.rs (1,0) (l.map (D.int .u8)),.int .u8 c] = some (iN (ya (fun x => c == x) l),[]) := by
  rw [Fp,<- wK]
  exact LM hl c l.length 0 (Nat.zero_add _)
 rw [Dw,DK h,UN]
theorem PU (c : Int) : V 177 [.int .u8 c] = some (.bool (nmB c),[]) := by
 have h := Sb (l := [43,45,42,60,61,63,33,47]) (by simp) c
 simp only [List.map_cons,List.map_nil] at h
 rw [J0,yu (by decide),CT h]
 unfold nmB
 cases decide (c >= 97) <;> cases decide (c <= 122) <;> rfl
theorem JO (c : Int) : V 180 [.int .u8 c] = some (.bool (nmB c),[]) := by
 rw [J7]
 simp only [Ul,nmB,List.any_cons,List.any_nil,Bool.or_false]
 cases decide (c >= 97) <;> cases decide (c <= 122) <;> rfl

def PD (s : ByteArray) : Nat -> Nat -> Bool
 | _,0 => true
 | i,k + 1 => nmB (bt s i) && PD s (i + 1) k
def Ig (s : ByteArray) : Bool := wi s.size 1 12 && PD s 0 s.size
theorem Gt {s : ByteArray} (hl : s.size < 4611686018427387904) : ∀ (k i : Nat),i + k = s.size -> AA s (ni s.size) (i : Int) = some (.bool (PD s i k),[])
 | 0,i,hi => by rw [DP,xb (yr (by omega))]; rfl
 | k + 1,i,hi => by
  rw [DP,xK (yz (by omega)),yu (yx (by omega)),KY (PU _),yM (by omega),Gt hl k (i + 1) (by omega),Jj,Bool.not_not]
  rfl
theorem GH {s : ByteArray} (hl : s.size < 4611686018427387904) : ∀ (k i : Nat),i + k = s.size -> AE s (i : Int) = some (.bool (PD s i k && wi s.size 1 12),[])
 | 0,i,hi => by rw [DV,xb (yr (by omega)),Ah (zI _ _ _)]; rfl
 | k + 1,i,hi => by
  rw [DV,xK (yz (by omega)),yu (yx (by omega)),Gf (JO _),yM (by omega),GH hl k (i + 1) (by omega),Jj,Bool.not_not,<- Bool.and_assoc]
  rfl
theorem EW {s : ByteArray} (hl : s.size < 4611686018427387904) : V 124 [.str s] = some (.bool (Ig s),[]) := by
 have h : AA s (ni s.size) 0 = _ := Gt hl s.size 0 (Nat.zero_add _)
 rw [Ox,y7 (y0 _ _ _),h,Jj,Bool.not_not]
 rfl
theorem Cz {s : ByteArray} (hl : s.size < 4611686018427387904) : V 128 [.str s] = some (.bool (Ig s),[]) := by
 have h : AE s 0 = _ := GH hl s.size 0 (Nat.zero_add _)
 rw [OT,h,Bool.and_comm]
 rfl

def nz (s : ByteArray) : Bool := kc s ⟨#[]⟩
def okN (x : Nd) (h : Int) : Bool :=
 if x.kind = 1 then wi x.n 0 0 && (nz x.s && (x.a == 0 && x.b == 0))
 else if x.kind = 2 then wi x.n 0 1 && (nz x.s && (x.a == 0 && x.b == 0))
 else if x.kind = 3 then wi x.n (-1000000000) 1000000000 && (nz x.s && (x.a == 0 && x.b == 0))
 else if x.kind = 4 then wi x.n 0 0 && (Ig x.s && (x.a == 0 && x.b == 0))
 else if x.kind = 5 then wi x.n 0 0 && (nz x.s && (wi x.a 0 (h - 1) && wi x.b 0 (h - 1)))
 else if x.kind = 6 then wi x.n 0 1000000000 && (nz x.s && (wi x.a 0 (h - 1) && x.b == 0))
 else if x.kind = 7 then wi x.n 0 0 && (nz x.s && (wi x.a 0 (h - 1) && x.b == 0))
 else if x.kind = 8 then wi x.n 0 99 && (nz x.s && (x.a == 0 && x.b == 0))
 else if x.kind = 9 then wi x.n 0 1000000000 && (nz x.s && (x.a == 0 && x.b == 0))
 else false
theorem VV (n : Int) : wi n 0 0 = (n == 0) := by
 unfold wi
 by_cases h : n = 0
 ·subst h; rfl
 ·have : (n == 0) = false := by simp [h]
  rw [this]
  simp; omega

theorem Nu {x : Nd} (hs : x.s.size < 4611686018427387904) {h : Int} (h0 : -4611686018427387904 < h) (h1 : h < 4611686018427387904) : V 126 [eN x,iN h] = some (.bool (okN x h),[]) := by
 rw [OI,w64 (n := h - 1) (by omega) (by omega)]
 unfold okN
 by_cases e1 : x.kind = 1
 ·rw [xK (by simp [e1]),if_pos e1,y7 (y0 _ _ _)]; simp only [y5]; rfl
 rw [xb (by simp [e1]),if_neg e1]
 by_cases e2 : x.kind = 2
 ·rw [xK (by simp [e2]),if_pos e2,y7 (y0 _ _ _)]; simp only [y5]; rfl
 rw [xb (by simp [e2]),if_neg e2]
 by_cases e3 : x.kind = 3
 ·rw [xK (by simp [e3]),if_pos e3,y7 (y0 _ _ _)]; simp only [y5]; rfl
 rw [xb (by simp [e3]),if_neg e3]
 by_cases e4 : x.kind = 4
 ·rw [xK (by simp [e4]),if_pos e4,QP (EW hs),y7 (y0 _ _ _)]; simp only [y5]
 rw [xb (by simp [e4]),if_neg e4]
 by_cases e5 : x.kind = 5
 ·rw [xK (by simp [e5]),if_pos e5,y7 (y0 _ _ _),y7 (y0 _ _ _),y7 (y0 _ _ _)]; simp only [y5]; rfl
 rw [xb (by simp [e5]),if_neg e5]
 by_cases e6 : x.kind = 6
 ·rw [xK (by simp [e6]),if_pos e6,y7 (y0 _ _ _),y7 (y0 _ _ _)]; simp only [y5]; rfl
 rw [xb (by simp [e6]),if_neg e6]
 by_cases e7 : x.kind = 7
 ·rw [xK (by simp [e7]),if_pos e7,y7 (y0 _ _ _),y7 (y0 _ _ _)]; simp only [y5]; rfl
 rw [xb (by simp [e7]),if_neg e7]
 by_cases e8 : x.kind = 8
 ·rw [xK (by simp [e8]),if_pos e8,y7 (y0 _ _ _)]; simp only [y5]; rfl
 rw [xb (by simp [e8]),if_neg e8]
 by_cases e9 : x.kind = 9
 ·rw [xK (by simp [e9]),if_pos e9,y7 (y0 _ _ _)]; simp only [y5]; rfl
 rw [xb (by simp [e9]),if_neg e9]

theorem Vg {x : Nd} (hs : x.s.size < 4611686018427387904) {h : Int} (h0 : -4611686018427387904 < h) (h1 : h < 4611686018427387904) : V 130 [eN x,iN h] = some (.bool (okN x h),[]) := by
 rw [Pa,w64 (n := h - 1) (by omega) (by omega),Ah (zI _ _ _),Ah (zI _ _ _)]
 unfold okN
 have hss : kc x.s x.s = true := by rw [DG]; simp
 by_cases e1 : x.kind = 1
 ·rw [xK (by simp [e1]),if_pos e1,e1,VV]; simp [nz]
 rw [xb (by simp [e1]),if_neg e1]
 by_cases e2 : x.kind = 2
 ·rw [xK (by simp [e2]),if_pos e2,e2,Ah (zI _ _ _)]; simp only [y5]; simp [nz]
 rw [xb (by simp [e2]),if_neg e2]
 by_cases e3 : x.kind = 3
 ·rw [xK (by simp [e3]),if_pos e3,e3,Ah (zI _ _ _)]; simp only [y5]; simp [nz]
 rw [xb (by simp [e3]),if_neg e3]
 by_cases e4 : x.kind = 4
 ·rw [xK (by simp [e4]),if_pos e4,e4,Kw (Cz hs),VV,hss]; simp only [y5]
  cases Ig x.s <;> cases x.n == 0 <;> simp
 rw [xb (by simp [e4]),if_neg e4]
 by_cases e5 : x.kind = 5
 ·rw [xK (by simp [e5]),if_pos e5,VV]; simp only [y5]
  show some (D.bool (_ && (_ && (_ && nz x.s))),_) = _
  cases wi x.a 0 (h - 1) <;> cases wi x.b 0 (h - 1) <;> cases x.n == 0 <;> cases nz x.s <;> rfl
 rw [xb (by simp [e5]),if_neg e5]
 by_cases e6 : x.kind = 6
 ·rw [xK (by simp [e6]),if_pos e6,Ah (zI _ _ _)]; simp only [y5]
  show some (D.bool (_ && (_ && (_ && nz x.s))),_) = _
  cases wi x.a 0 (h - 1) <;> cases wi x.n 0 1000000000 <;> cases x.b == 0 <;> cases nz x.s <;> rfl
 rw [xb (by simp [e6]),if_neg e6]
 by_cases e7 : x.kind = 7
 ·rw [xK (by simp [e7]),if_pos e7,VV]; simp only [y5]
  show some (D.bool (_ && (_ && (_ && nz x.s))),_) = _
  cases wi x.a 0 (h - 1) <;> cases x.n == 0 <;> cases x.b == 0 <;> cases nz x.s <;> rfl
 rw [xb (by simp [e7]),if_neg e7]
 by_cases e8 : x.kind = 8
 ·rw [xK (by simp [e8]),if_pos e8,e8,Ah (zI _ _ _)]; simp only [y5]; simp [nz]
 rw [xb (by simp [e8]),if_neg e8]
 by_cases e9 : x.kind = 9
 ·rw [xK (by simp [e9]),if_pos e9,e9,Ah (zI _ _ _)]; simp only [y5]; simp [nz]
 rw [xb (by simp [e9]),if_neg e9]

abbrev eP (p : List Nd) : D := .agg [.rs (5,0) (p.map eN)]
abbrev oP (p : List Nd) : D := .agg [.os (5,0) (p.map eN)]
abbrev rP (p : List Nd) : D := .op [.os (5,0) (p.map eN)]
def Aw (p : List Nd) : Prop := ∀ x ∈ p,x.s.size < 4611686018427387904
def EO (p : List Nd) : Nat -> Nat -> Bool
 | _,0 => true
 | i,k + 1 => (match p[i]? with | some x => okN x i | none => true) && EO p (i + 1) k
def yW (p : List Nd) : Bool := EO p 0 p.length && decide ((p.length : Int) <= 3000)
theorem Gv {p : List Nd} (hf : Aw p) (hl : p.length < 4611686018427387904) : ∀ (k i : Nat),i + k = p.length -> BH (p.map eN) (ni (p.map eN).length) (i : Int) (p.map eN) = some (.bool (EO p i k && decide ((p.length : Int) <= 3000)),[])
 | 0,i,hi => by
  rw [DQ,xb (by rw [lnM]; exact yr (by omega)),lnM]; rfl
 | k + 1,i,hi => by
  obtain ⟨x,hx⟩ := xx (l := p) (i := i) (by omega)
  rw [DQ,xK (by rw [lnM]; exact yz (by omega)),yu (by rw [lnM]; exact yx (by omega)),Int.toNat_natCast,xW hx,Ja,QQ (Nu (hf x (List.mem_of_getElem? hx)) (by omega) (by omega)),yM (by omega),Gv hf hl k (i + 1) (by omega),Jj,Bool.not_not,<- Bool.and_assoc]
  simp only [EO,hx]
theorem GJ {p : List Nd} (hf : Aw p) (hl : p.length < 4611686018427387904) : ∀ (k i : Nat),i + k = p.length -> BV (i : Int) (p.map eN) = some (.bool (EO p i k && decide ((p.length : Int) <= 3000)),[])
 | 0,i,hi => by
  rw [DW,xb (by rw [lnM]; exact yr (by omega)),lnM]; rfl
 | k + 1,i,hi => by
  obtain ⟨x,hx⟩ := xx (l := p) (i := i) (by omega)
  rw [DW,xK (by rw [lnM]; exact yz (by omega)),yu (by rw [lnM]; exact yx (by omega)),Int.toNat_natCast,xW hx,Ja,QU (Vg (hf x (List.mem_of_getElem? hx)) (by omega) (by omega)),yM (by omega),GJ hf hl k (i + 1) (by omega),Jj,Bool.not_not,<- Bool.and_assoc]
  simp only [EO,hx]
theorem Bh {p : List Nd} (hf : Aw p) (hl : p.length < 4611686018427387904) : V 55 [eP p] = some (.bool (yW p),[]) := by
 rw [Oz]; exact Gv hf hl p.length 0 (Nat.zero_add _)
theorem zr {p : List Nd} (hf : Aw p) (hl : p.length < 4611686018427387904) : V 60 [eP p] = some (.bool (yW p),[]) := by
 rw [OU]; exact GJ hf hl p.length 0 (Nat.zero_add _)
end
end Go.Eng
/-! what is reached,on both sides -/
namespace Go.Eng
noncomputable section
open Go.Proofs Go.Proofs.Tryz

theorem NV {α : Type} {l : List α} {p : α -> Bool} : decide (ya p l >= 0) = l.any p := by
 unfold ya
 cases h : l.findIdx? p with
 | none =>
  have := List.findIdx?_eq_none_iff.1 h
  symm
  simpa [List.any_eq_false] using this
 | some k =>
  have h2 : l.any p = true := by
   rw [List.findIdx?_eq_some_iff_getElem] at h
   obtain ⟨hk,h3,_⟩ := h
   exact List.any_eq_true.2 ⟨l[k],List.getElem_mem hk,h3⟩
  rw [h2]
  simp

abbrev eI : Int -> D := D.int .i64
theorem wi_iff {n lo hi : Int} : wi n lo hi = true ↔ lo <= n /\ n <= hi := by simp [wi]

theorem LZ {p : List Nd} : ∀ {k i j : Nat} {x : Nd},EO p i k = true -> i <= j -> j < i + k -> p[j]? = some x -> okN x j = true
 | 0,i,j,x,_,h1,h2,_ => by omega
 | k + 1,i,j,x,h,h1,h2,hx => by
  simp only [EO,Bool.and_eq_true] at h
  by_cases e : i = j
  ·subst e; rw [hx] at h; exact h.1
  ·exact LZ h.2 (by omega) (by omega) hx
theorem z6 {p : List Nd} (h : yW p = true) {j : Nat} {x : Nd} (hx : p[j]? = some x) : okN x j = true := by
 simp only [yW,Bool.and_eq_true] at h
 exact LZ h.1 (Nat.zero_le _) (by have := aQ hx; omega) hx
theorem yX {p : List Nd} (h : yW p = true) : p.length <= 3000 := by
 simp only [yW,Bool.and_eq_true,decide_eq_true_eq] at h; omega
theorem Ai {x : Nd} {h : Int} (ho : okN x h = true) (hk : x.kind = 5) : 0 <= x.a /\ x.a < h /\ 0 <= x.b /\ x.b < h := by
 simp [okN,hk,wi] at ho; omega
theorem Az {x : Nd} {h : Int} (ho : okN x h = true) (hk : x.kind = 6 \/ x.kind = 7) : 0 <= x.a /\ x.a < h := by
 rcases hk with hk | hk <;> simp [okN,hk,wi] at ho <;> omega

def zw (p : List Nd) (rs : List Int) : Bool := rs.all fun r => wi r 0 ((p.length : Int) - 1)
theorem DI {p : List Nd} (hl : p.length < 4611686018427387904) (r : Int) : V 56 [eP p,iN r] = some (.bool (wi r 0 ((p.length : Int) - 1)),[]) := by
 rw [OG,y7 (y0 _ _ _),lnM,w64 (by simp only [ni]; omega) (by simp only [ni]; omega)]
theorem Ew {p : List Nd} (hl : p.length < 4611686018427387904) (r : Int) : V 61 [eP p,iN r] = some (.bool (wi r 0 ((p.length : Int) - 1)),[]) := by
 rw [Qo,Ah (zI _ _ _),lnM,w64 (by simp only [ni]; omega) (by simp only [ni]; omega)]
def zm (x : Nd) (m : List Bool) : List Bool := if x.kind = 5 then (m.set x.a.toNat true).set x.b.toNat true else if x.kind = 6 \/ x.kind = 7 then m.set x.a.toNat true else m
def zl (p : List Nd) : Nat -> List Bool -> List Bool
 | 0,m => m
 | k + 1,m => zl p k (match p[k]?,m[k]? with | some x,some true => zm x m | _,_ => m)
def FQ (rs : List Int) (m : List Bool) : List Bool := rs.foldl (fun m r => m.set r.toNat true) m
def AJ (p : List Nd) (rs : List Int) : List Bool := zl p p.length (FQ rs (List.replicate p.length false))
theorem Iv (x : Nd) (m : List Bool) : (zm x m).length = m.length := by
 unfold zm
 split
 ·simp
 ·split <;> simp
theorem GB {p : List Nd} : ∀ (k : Nat) (m : List Bool),(zl p k m).length = m.length
 | 0,m => rfl
 | k + 1,m => by
  simp only [zl]
  rw [GB k]
  split
  ·exact Iv _ _
  ·rfl
theorem EU : ∀ (rs : List Int) (m : List Bool),(FQ rs m).length = m.length
 | [],m => rfl
 | r :: rs,m => by
  have := EU rs (m.set r.toNat true)
  simpa [FQ] using this
theorem Af {n : Int} {l : Nat} (h0 : 0 <= n) (h1 : n < l) : (decide (0 <= n) && decide (n < ni l)) = true := by
 simp only [ni,Bool.and_eq_true,decide_eq_true_eq]; omega
theorem Bq {α : Type} {l : List α} {n : Int} (h0 : 0 <= n) (h1 : n < l.length) : ∃ x,l[n.toNat]? = some x := xx (by omega)
theorem Cx {m : List Bool} {j : Nat} : List.set (m.map D.bool) j (D.bool true) = (m.set j true).map D.bool := by rw [List.map_set]

theorem zR {p : List Nd} (hp : yW p = true) : ∀ (k : Nat) (m : List Bool) (i : Int),i = (k : Int) - 1 -> k <= p.length -> m.length = p.length -> zB i (p.map eN) (m.map D.bool) = some (.os (1,0) ((zl p k m).map D.bool),[])
 | 0,m,i,hi,hk,hm => by
  rw [Fc,xb (decide_eq_false (by omega))]; rfl
 | k + 1,m,i,hi,hk,hm => by
  have hl := yX hp
  have ei : i = (k : Int) := by omega
  subst ei
  obtain ⟨x,hx⟩ := xx (l := p) (i := k) (by omega)
  obtain ⟨b,hb⟩ := xx (l := m) (i := k) (by omega)
  have ho := z6 hp hx
  have hw : w6 ((k : Int) - 1) = (k : Int) - 1 := w64 (by omega) (by omega)
  rw [Fc,xK (decide_eq_true (by omega)),yu (by rw [lnM]; exact yx (by omega)),Int.toNat_natCast,xW hb,xI,hw]
  simp only [zl,hx,hb]
  cases b with
  | false => rw [Bool.not_false,yk]; exact zR hp k m _ rfl (by omega) hm
  | true =>
   show _ = some (D.os (1,0) ((zl p k (zm x m)).map D.bool),[])
   rw [Bool.not_true,xJ,yu (by rw [lnM]; exact yx (by omega)),xW hx,Ja]
   by_cases h5 : x.kind = 5
   ·obtain ⟨a0,a1,b0,b1⟩ := Ai ho h5
    obtain ⟨u,hu⟩ := Bq (l := m) (n := x.a) a0 (by omega)
    obtain ⟨v,hv⟩ := Bq (l := m.set x.a.toNat true) (n := x.b) b0 (by simp; omega)
    rw [xK (by simp [h5]),yu (by rw [List.length_map]; exact Af a0 (by omega)),xW hu,yA,Cx,yu (by rw [List.length_map]; exact Af b0 (by simp; omega)),xW hv,yA,Cx]
    simp only [zm,h5,if_true]
    exact zR hp k _ _ rfl (by omega) (by simp; omega)
   rw [xb (by simp [h5])]
   by_cases h6 : x.kind = 6
   ·obtain ⟨a0,a1⟩ := Az ho (.inl h6)
    obtain ⟨u,hu⟩ := Bq (l := m) (n := x.a) a0 (by omega)
    rw [xK (by simp [h6]),xK (by simp [h6]),yu (by rw [List.length_map]; exact Af a0 (by omega)),xW hu,yA,Cx]
    have e : zm x m = m.set x.a.toNat true := by simp [zm,h6]
    rw [e]
    exact zR hp k _ _ rfl (by omega) (by simp; omega)
   rw [xb (by simp [h6])]
   by_cases h7 : x.kind = 7
   ·obtain ⟨a0,a1⟩ := Az ho (.inr h7)
    obtain ⟨u,hu⟩ := Bq (l := m) (n := x.a) a0 (by omega)
    rw [xK (by simp [h7]),yu (by rw [List.length_map]; exact Af a0 (by omega)),xW hu,yA,Cx]
    have e : zm x m = m.set x.a.toNat true := by simp [zm,h7]
    rw [e]
    exact zR hp k _ _ rfl (by omega) (by simp; omega)
   rw [xb (by simp [h7])]
   have e : zm x m = m := by simp [zm,h5,h6,h7]
   rw [e]
   exact zR hp k _ _ rfl (by omega) hm
theorem zU {p : List Nd} (hp : yW p = true) : ∀ (k : Nat) (m : List Bool) (i : Int),i = (k : Int) - 1 -> k <= p.length -> m.length = p.length -> zp i (p.map eN) (m.map D.bool) = some (.os (1,0) ((zl p k m).map D.bool),[])
 | 0,m,i,hi,hk,hm => by
  rw [Dr,xb (decide_eq_false (by omega))]; rfl
 | k + 1,m,i,hi,hk,hm => by
  have hl := yX hp
  have ei : i = (k : Int) := by omega
  subst ei
  obtain ⟨x,hx⟩ := xx (l := p) (i := k) (by omega)
  obtain ⟨b,hb⟩ := xx (l := m) (i := k) (by omega)
  have ho := z6 hp hx
  have hw : w6 ((k : Int) - 1) = (k : Int) - 1 := w64 (by omega) (by omega)
  rw [Dr,xK (decide_eq_true (by omega)),yu (by rw [lnM]; exact yx (by omega)),Int.toNat_natCast,xW hx,Ja,yu (by rw [lnM]; exact yx (by omega)),xW hb,xI,hw]
  simp only [zl,hx,hb]
  cases b with
  | false => rw [Bool.not_false,yk]; exact zU hp k m _ rfl (by omega) hm
  | true =>
   show _ = some (D.os (1,0) ((zl p k (zm x m)).map D.bool),[])
   rw [Bool.not_true,xJ]
   by_cases h5 : x.kind = 5
   ·obtain ⟨a0,a1,b0,b1⟩ := Ai ho h5
    obtain ⟨u,hu⟩ := Bq (l := m) (n := x.a) a0 (by omega)
    obtain ⟨v,hv⟩ := Bq (l := m.set x.a.toNat true) (n := x.b) b0 (by simp; omega)
    rw [xK (by simp [h5]),yu (by rw [List.length_map]; exact Af a0 (by omega)),xW hu,yA,Cx,yu (by rw [List.length_map]; exact Af b0 (by simp; omega)),xW hv,yA,Cx]
    simp only [zm,h5,if_true]
    exact zU hp k _ _ rfl (by omega) (by simp; omega)
   rw [xb (by simp [h5])]
   by_cases h6 : x.kind = 6
   ·obtain ⟨a0,a1⟩ := Az ho (.inl h6)
    obtain ⟨u,hu⟩ := Bq (l := m) (n := x.a) a0 (by omega)
    rw [xK (by simp [h6]),xK (by simp [h6]),yu (by rw [List.length_map]; exact Af a0 (by omega)),xW hu,yA,Cx]
    have e : zm x m = m.set x.a.toNat true := by simp [zm,h6]
    rw [e]
    exact zU hp k _ _ rfl (by omega) (by simp; omega)
   rw [xb (by simp [h6])]
   by_cases h7 : x.kind = 7
   ·obtain ⟨a0,a1⟩ := Az ho (.inr h7)
    obtain ⟨u,hu⟩ := Bq (l := m) (n := x.a) a0 (by omega)
    rw [xK (by simp [h7]),yu (by rw [List.length_map]; exact Af a0 (by omega)),xW hu,yA,Cx]
    have e : zm x m = m.set x.a.toNat true := by simp [zm,h7]
    rw [e]
    exact zU hp k _ _ rfl (by omega) (by simp; omega)
   rw [xb (by simp [h7])]
   have e : zm x m = m := by simp [zm,h5,h6,h7]
   rw [e]
   exact zU hp k _ _ rfl (by omega) hm

theorem Gr {p : List Nd} (hp : yW p = true) {l : List Int} (h2 : l.length < 4611686018427387904) (hr : zw p l = true) : ∀ (k i : Nat) (m : List Bool),i + k = l.length -> m.length = p.length -> AW (l.map eI) (ni (l.map eI).length) (i : Int) (p.map eN) (m.map D.bool) = some (.os (1,0) ((zl p p.length (FQ (l.drop i) m)).map D.bool),[])
 | 0,i,m,hi,hm => by
  have hl := yX hp
  rw [Fa,xb (by rw [lnM]; exact yr (by omega)),List.drop_of_length_le (by omega),lnM,w64 (by simp only [ni]; omega) (by simp only [ni]; omega)]
  exact zR hp p.length m _ rfl (Nat.le_refl _) hm
 | k + 1,i,m,hi,hm => by
  obtain ⟨x,hx⟩ := xx (l := l) (i := i) (by omega)
  have hx2 := wi_iff.1 (List.all_eq_true.1 hr x (List.mem_of_getElem? hx))
  obtain ⟨u,hu⟩ := Bq (l := m) (n := x) hx2.1 (by omega)
  rw [Fa,xK (by rw [lnM]; exact yz (by omega)),yu (by rw [lnM]; exact yx (by omega)),Int.toNat_natCast,xW hx,ye,yu (by rw [lnM]; exact Af hx2.1 (by omega)),xW hu,yA,Cx,yM (by omega),tU hx]
  exact Gr hp h2 hr k (i + 1) _ (by omega) (by simp; omega)
theorem GG {p : List Nd} (hp : yW p = true) {l : List Int} (h2 : l.length < 4611686018427387904) (hr : zw p l = true) : ∀ (k i : Nat) (m : List Bool),i + k = l.length -> m.length = p.length -> Av (l.map eI) (i : Int) (p.map eN) (m.map D.bool) = some (.os (1,0) ((zl p p.length (FQ (l.drop i) m)).map D.bool),[])
 | 0,i,m,hi,hm => by
  have hl := yX hp
  rw [Dq,xb (by rw [lnM]; exact yr (by omega)),List.drop_of_length_le (by omega),lnM,w64 (by simp only [ni]; omega) (by simp only [ni]; omega)]
  exact zU hp p.length m _ rfl (Nat.le_refl _) hm
 | k + 1,i,m,hi,hm => by
  obtain ⟨x,hx⟩ := xx (l := l) (i := i) (by omega)
  have hx2 := wi_iff.1 (List.all_eq_true.1 hr x (List.mem_of_getElem? hx))
  obtain ⟨u,hu⟩ := Bq (l := m) (n := x) hx2.1 (by omega)
  rw [Dq,xK (by rw [lnM]; exact yz (by omega)),yu (by rw [lnM]; exact yx (by omega)),Int.toNat_natCast,xW hx,ye,yu (by rw [lnM]; exact Af hx2.1 (by omega)),xW hu,yA,Cx,yM (by omega),tU hx]
  exact GG hp h2 hr k (i + 1) _ (by omega) (by simp; omega)
theorem Lh {α : Type} {f : α -> D} {l : List α} (h : l.length <= 4294967296) : (decide (0 <= ni (l.map f).length) && decide (ni (l.map f).length <= LIM)) = true := by
 rw [Bool.and_eq_true]
 exact ⟨decide_eq_true (by simp only [ni]; omega),decide_eq_true (by rw [pE,lnM]; simp only [ni]; omega)⟩
theorem Oc {n : Nat} : List.replicate (Int.toNat (ni n)) (D.bool false) = (List.replicate n false).map D.bool := by simp [ni]
theorem VQ {p : List Nd} (hp : yW p = true) {l : List Int} (h2 : l.length < 4611686018427387904) (hr : zw p l = true) : V 189 [eP p,.rs (1,0) (l.map eI)] = some (.os (1,0) ((AJ p l).map D.bool),[]) := by
 have hl := yX hp
 have h : AW (l.map eI) (ni (l.map eI).length) 0 (p.map eN) ((List.replicate p.length false).map D.bool) = _ := Gr hp h2 hr l.length 0 _ (Nat.zero_add _) (by simp)
 have e : (p.map eN).length = p.length := lnM _
 rw [Qj,yu (Lh (by omega)),Oc,e,h]; rfl
theorem Ua {p : List Nd} (hp : yW p = true) {l : List Int} (h2 : l.length < 4611686018427387904) (hr : zw p l = true) : V 149 [eP p,.rs (1,0) (l.map eI)] = some (.os (1,0) ((AJ p l).map D.bool),[]) := by
 have hl := yX hp
 have h : Av (l.map eI) 0 (p.map eN) ((List.replicate p.length false).map D.bool) = _ := GG hp h2 hr l.length 0 _ (Nat.zero_add _) (by simp)
 have e : (p.map eN).length = p.length := lnM _
 rw [Ng,yu (Lh (by omega)),Oc,e,h]; rfl
end
end Go.Eng
