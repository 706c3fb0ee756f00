/- the program and the reference on plain data, part 2 -/
import Derived.Test.YtkndfhaehnfnmaaPart1
import Derived.Test.YtkndfhaehnfnmaaEngC
/-! the functions as the interpreter has them -/
namespace Go.Eng
open Go.Proofs Go.Proofs.Try
set_option maxRecDepth 100000
theorem Fh (p:List D) (m1 m2 m3 m4 m5 m6 m7:Int) (cp cl cd:List D) (io im ii:Int) (is:ByteArray):V 52 [.op [.os (5,0) p,iN m1,iN m2,iN m3,iN m4,iN m5,iN m6,iN m7,.rs (5,0) cp,.rs (4,0) cl,.rs (3,0) cd],.agg [iN io,iN im,iN ii,.str is]] =
 br (io == 1)
 (
 iy V 72 [.op [.os (5,0) p],(.agg [.rs (5,0) cp]),iN im] fun a b=>
 asI .i64 a fun c=>unc b fun d e=>mJ d fun f=>unc f fun g h=>iK (5,0) g fun i=>unn h (unn e (iy V 71 [.op [.os (5,0) i,iN m1,iN m2,iN m3,iN m4,iN m5,iN m6,iN m7,.rs (5,0) cp,.rs (4,0) cl,.rs (3,0) cd],iN c] fun j k=>
 il j fun l=>unn l (unc k fun m n=>tk6 m fun o q r s t u v w x y z=>(unn n (iy V 48 [.agg [.rs (5,0) x,.rs (4,0) y,.rs (3,0) z],(iN (w6 (m1 + 1)))] fun A B=>
 asB A fun C=>unn B (br (!C)
 (some ((iN (7)),[.op [.os (5,0) o,iN q,iN r,iN s,iN t,iN u,iN v,iN w,.rs (5,0) x,.rs (4,0) y,.rs (3,0) z]]))
 (some ((iN (0)),[(.op [.os (5,0) o,(iN (w6 (m1 + 1))),iN r,iN s,iN t,iN u,iN v,iN w,.rs (5,0) x,.rs (4,0) y,.rs (3,0) z])])))))))))
 (
 br (io == 2)
 (
 iy V 73 [.op [.os (5,0) p,iN m1,iN m2,iN m3,iN m4,iN m5,iN m6,iN m7,.rs (5,0) cp,.rs (4,0) cl,.rs (3,0) cd],iN im,iN ii] fun a b=>
 asI .i64 a fun c=>unc b fun d e=>tk6 d fun f g h i j k l m n o q=>(unn e (br (c == 0)
 (
 iy V 48 [.agg [.rs (5,0) n,.rs (4,0) o,.rs (3,0) q],(iN (w6 (m1 + 1)))] fun r s=>
 asB r fun t=>unn s (br (!t)
 (some ((iN (7)),[.op [.os (5,0) f,iN g,iN h,iN i,iN j,iN k,iN l,iN m,.rs (5,0) n,.rs (4,0) o,.rs (3,0) q]]))
 (some ((iN c),[(.op [.os (5,0) f,(iN (w6 (m1 + 1))),iN h,iN i,iN j,iN k,iN l,iN m,.rs (5,0) n,.rs (4,0) o,.rs (3,0) q])]))))
 (some ((iN c),[(.op [.os (5,0) f,(iN (w6 (m1 + 1))),iN h,iN i,iN j,iN k,iN l,iN m,.rs (5,0) n,.rs (4,0) o,.rs (3,0) q])])))))
 (
 br (io == 3)
 (
 iy V 74 [.op [.os (5,0) p,iN m1,iN m2,iN m3,iN m4,iN m5,iN m6,iN m7,.rs (5,0) cp,.rs (4,0) cl,.rs (3,0) cd],.str is] fun a b=>
 asI .i64 a fun c=>unc b fun d e=>tk6 d fun f g h i j k l m n o q=>(unn e (br (c == 0)
 (
 iy V 48 [.agg [.rs (5,0) n,.rs (4,0) o,.rs (3,0) q],(iN (w6 (m1 + 1)))] fun r s=>
 asB r fun t=>unn s (br (!t)
 (some ((iN (7)),[.op [.os (5,0) f,iN g,iN h,iN i,iN j,iN k,iN l,iN m,.rs (5,0) n,.rs (4,0) o,.rs (3,0) q]]))
 (some ((iN c),[(.op [.os (5,0) f,(iN (w6 (m1 + 1))),iN h,iN i,iN j,iN k,iN l,iN m,.rs (5,0) n,.rs (4,0) o,.rs (3,0) q])]))))
 (some ((iN c),[(.op [.os (5,0) f,(iN (w6 (m1 + 1))),iN h,iN i,iN j,iN k,iN l,iN m,.rs (5,0) n,.rs (4,0) o,.rs (3,0) q])])))))
 (
 br (io == 5)
 (
 iy V 48 [.agg [.rs (5,0) cp,.rs (4,0) cl,.rs (3,0) cd],iN im] fun a b=>
 asB a fun c=>unn b (br (!c)
 (some ((iN (7)),[.op [.os (5,0) p,iN m1,iN m2,iN m3,iN m4,iN m5,iN m6,iN m7,.rs (5,0) cp,.rs (4,0) cl,.rs (3,0) cd]]))
 (some ((iN (0)),[.op [.os (5,0) p,iN im,iN m2,iN m3,iN m4,iN m5,iN m6,iN m7,.rs (5,0) cp,.rs (4,0) cl,.rs (3,0) cd]]))))
 (
 br (io == 6)
 (
 iy V 37 [.op [.os (5,0) p],(.agg [iN (6),(iN (w6 (w6 (8 * im) + ii))),.str ({ data:=#[] }),iN m3,iN (0)])] fun a b=>
 asI .i64 a fun c=>unc b fun d e=>mJ d fun f=>unc f fun g h=>iK (5,0) g fun i=>unn h (unn e (iy V 71 [.op [.os (5,0) i,iN m1,iN m2,iN m3,iN m4,iN m5,iN m6,iN m7,.rs (5,0) cp,.rs (4,0) cl,.rs (3,0) cd],iN c] fun j k=>
 il j fun l=>unn l (unc k fun m n=>tk6 m fun o q r s t u v w x y z=>(unn n (iy V 48 [.agg [.rs (5,0) x,.rs (4,0) y,.rs (3,0) z],(iN (w6 (m1 + 1)))] fun A B=>
 asB A fun C=>unn B (br (!C)
 (some ((iN (7)),[.op [.os (5,0) o,iN q,iN r,iN s,iN t,iN u,iN v,iN w,.rs (5,0) x,.rs (4,0) y,.rs (3,0) z]]))
 (some ((iN (0)),[(.op [.os (5,0) o,(iN (w6 (m1 + 1))),iN r,iN s,iN t,iN u,iN v,iN w,.rs (5,0) x,.rs (4,0) y,.rs (3,0) z])])))))))))
 (
 iy V 68 [.op [.os (5,0) p,iN m1,iN m2,iN m3,iN m4,iN m5,iN m6,iN m7,.rs (5,0) cp,.rs (4,0) cl,.rs (3,0) cd]] fun a b=>
 tk9 a fun c d=>(unc b fun e f=>tk6 e fun g h i j k l m n o q r=>(unn f (br (!d)
 (some ((iN (7)),[.op [.os (5,0) g,iN h,iN i,iN j,iN k,iN l,iN m,iN n,.rs (5,0) o,.rs (4,0) q,.rs (3,0) r]]))
 (
 grd (decide (0 <= c) && decide (c < ni g.length)) (cz g c.toNat fun s=>
 tk1 s fun t u _ _ _=>(br (io == 4)
 (
 br (t == 2)
 (
 br (u == 0)
 (
 iy V 48 [.agg [.rs (5,0) o,.rs (4,0) q,.rs (3,0) r],iN im] fun v w=>
 asB v fun x=>unn w (br (!x)
 (some ((iN (7)),[.op [.os (5,0) g,iN h,iN i,iN j,iN k,iN l,iN m,iN n,.rs (5,0) o,.rs (4,0) q,.rs (3,0) r]]))
 (some ((iN (0)),[.op [.os (5,0) g,iN im,iN i,iN j,iN k,iN l,iN m,iN n,.rs (5,0) o,.rs (4,0) q,.rs (3,0) r]]))))
 (
 iy V 48 [.agg [.rs (5,0) o,.rs (4,0) q,.rs (3,0) r],(iN (w6 (m1 + 1)))] fun v w=>
 asB v fun x=>unn w (br (!x)
 (some ((iN (7)),[.op [.os (5,0) g,iN h,iN i,iN j,iN k,iN l,iN m,iN n,.rs (5,0) o,.rs (4,0) q,.rs (3,0) r]]))
 (some ((iN (0)),[(.op [.os (5,0) g,(iN (w6 (m1 + 1))),iN i,iN j,iN k,iN l,iN m,iN n,.rs (5,0) o,.rs (4,0) q,.rs (3,0) r])])))))
 (
 iy V 48 [.agg [.rs (5,0) o,.rs (4,0) q,.rs (3,0) r],(iN (w6 (m1 + 1)))] fun v w=>
 asB v fun x=>unn w (br (!x)
 (some ((iN (7)),[.op [.os (5,0) g,iN h,iN i,iN j,iN k,iN l,iN m,iN n,.rs (5,0) o,.rs (4,0) q,.rs (3,0) r]]))
 (some ((iN (0)),[(.op [.os (5,0) g,(iN (w6 (m1 + 1))),iN i,iN j,iN k,iN l,iN m,iN n,.rs (5,0) o,.rs (4,0) q,.rs (3,0) r])])))))
 (
 iy V 48 [.agg [.rs (5,0) o,.rs (4,0) q,.rs (3,0) r],(iN (w6 (m1 + 1)))] fun v w=>
 asB v fun x=>unn w (br (!x)
 (some ((iN (7)),[.op [.os (5,0) g,iN h,iN i,iN j,iN k,iN l,iN m,iN n,.rs (5,0) o,.rs (4,0) q,.rs (3,0) r]]))
 (some ((iN (0)),[(.op [.os (5,0) g,(iN (w6 (m1 + 1))),iN i,iN j,iN k,iN l,iN m,iN n,.rs (5,0) o,.rs (4,0) q,.rs (3,0) r])]))))))))))))))):=by
 exact (xE Try.func52 rfl _).trans (by kernel_rfl)
theorem FP (p:List D) (m1 m2 m3 m4 m5 m6 m7:Int) (cp cl cd:List D) :V 51 [.op [.os (5,0) p,iN m1,iN m2,iN m3,iN m4,iN m5,iN m6,iN m7,.rs (5,0) cp,.rs (4,0) cl,.rs (3,0) cd]] =
 iy V 68 [.op [.os (5,0) p,iN m1,iN m2,iN m3,iN m4,iN m5,iN m6,iN m7,.rs (5,0) cp,.rs (4,0) cl,.rs (3,0) cd]] fun a b=>
 tk9 a fun c d=>(unc b fun e f=>tk6 e fun g h i j k l m n o q r=>(unn f (br (!d)
 (some ((iN (7)),[.op [.os (5,0) g,iN h,iN i,iN j,iN k,iN l,iN m,iN n,.rs (5,0) o,.rs (4,0) q,.rs (3,0) r]]))
 (
 grd (decide (0 <= k) && decide (k < ni g.length)) (cz g k.toNat fun s=>
 tk1 s fun t _ _ u v=>(br (t == 1)
 (some ((iN (0)),[.op [.os (5,0) g,iN (0),iN i,iN j,iN k,iN (2),iN m,iN c,.rs (5,0) o,.rs (4,0) q,.rs (3,0) r]]))
 (
 br (t != 5)
 (some ((iN (7)),[.op [.os (5,0) g,iN h,iN i,iN j,iN k,iN l,iN m,iN n,.rs (5,0) o,.rs (4,0) q,.rs (3,0) r]]))
 (
 iy V 40 [.op [.os (5,0) g],iN u] fun w x=>
 tk3 w fun y z=>(unc x fun A B=>mJ A fun C=>unc C fun E F=>iK (5,0) E fun G=>unn F (unn B (br (!z)
 (some ((iN (7)),[.op [.os (5,0) G,iN h,iN i,iN j,iN k,iN l,iN m,iN n,.rs (5,0) o,.rs (4,0) q,.rs (3,0) r]]))
 (
 br (ni y.length != 3)
 (some ((iN (7)),[.op [.os (5,0) G,iN h,iN i,iN j,iN k,iN l,iN m,iN n,.rs (5,0) o,.rs (4,0) q,.rs (3,0) r]]))
 (
 grd (decide (0 <= 0) && decide (0 < ni y.length)) (cz y 0 fun H=>
 asI .i64 H fun I=>grd (decide (0 <= I) && decide (I < ni G.length)) (cz G I.toNat fun J=>
 asAgg J fun K=>cz K 0 fun L=>
 asI .i64 L fun M=>br (M != 3)
 (some ((iN (7)),[.op [.os (5,0) G,iN h,iN i,iN j,iN k,iN l,iN m,iN n,.rs (5,0) o,.rs (4,0) q,.rs (3,0) r]]))
 (
 grd (decide (0 <= 0) && decide (0 < ni y.length)) (cz y 0 fun N=>
 asI .i64 N fun O=>grd (decide (0 <= O) && decide (O < ni G.length)) (cz G O.toNat fun P=>
 asAgg P fun Q=>cz Q 1 fun R=>
 asI .i64 R fun S=>iy V 48 [.agg [.rs (5,0) o,.rs (4,0) q,.rs (3,0) r],iN S] fun T U=>
 asB T fun W=>unn U (br (!W)
 (some ((iN (7)),[.op [.os (5,0) G,iN h,iN i,iN j,iN k,iN l,iN m,iN n,.rs (5,0) o,.rs (4,0) q,.rs (3,0) r]]))
 (
 grd (decide (0 <= 0) && decide (0 < ni y.length)) (cz y 0 fun X=>
 asI .i64 X fun Y=>grd (decide (0 <= Y) && decide (Y < ni G.length)) (cz G Y.toNat fun Z=>
 asAgg Z fun a0=>cz a0 1 fun a1=>
 asI .i64 a1 fun a2=>grd (decide (0 <= 1) && decide (1 < ni y.length)) (cz y 1 fun a3=>
 asI .i64 a3 fun a4=>grd (decide (0 <= 2) && decide (2 < ni y.length)) (cz y 2 fun a5=>
 asI .i64 a5 fun a6=>iy V 71 [.op [.os (5,0) G,iN a2,iN a4,iN a6,iN v,iN l,iN m,iN n,.rs (5,0) o,.rs (4,0) q,.rs (3,0) r],iN c] fun a7 a8=>
 il a7 fun a9=>unn a9 (unc a8 fun b0 b1=>tk6 b0 fun b2 b3 b4 b5 b6 b7 b9 c0 c1 c2 c3=>(unn b1 (some ((iN (0)),[.op [.os (5,0) b2,iN b3,iN b4,iN b5,iN b6,iN b7,iN b9,iN c0,.rs (5,0) c1,.rs (4,0) c2,.rs (3,0) c3]])))))))))))))))))))))))))))):=by
 exact (xE Try.func51 rfl _).trans (by kernel_rfl)
theorem CR (p:List D) (m1 m2 m3 m4 m5 m6 m7:Int) (cp cl cd:List D) (n:Int) (l:List D):V 82 [.op [.os (5,0) p,iN m1,iN m2,iN m3,iN m4,iN m5,iN m6,iN m7,.rs (5,0) cp,.rs (4,0) cl,.rs (3,0) cd],iN n,.rs (1,0) l] =
 iy V 91 [iN n] fun a b=>
 asI .i64 a fun c=>unn b (br (c != ni l.length)
 (some ((iN (2)),[.op [.os (5,0) p,iN m1,iN m2,iN m3,iN m4,iN m5,iN m6,iN m7,.rs (5,0) cp,.rs (4,0) cl,.rs (3,0) cd]]))
 (
 br (n == 18)
 (
 iy V 37 [.op [.os (5,0) p],(.agg [iN (3),(iN (w6 (m1 + 1))),.str ({ data:=#[] }),iN (0),iN (0)])] fun d e=>
 asI .i64 d fun f=>unc e fun g h=>mJ g fun i=>unc i fun j k=>iK (5,0) j fun m=>unn k (unn h (iy V 57 [.op [.os (5,0) m],.rs (1,0) [iN f,iN m2,iN m3,iN m4]] fun o q=>
 asI .i64 o fun r=>unc q fun s t=>mJ s fun u=>unc u fun v w=>iK (5,0) v fun x=>unn w (unn t (iy V 37 [.op [.os (5,0) x],(.agg [iN (7),iN (0),.str ({ data:=#[] }),iN r,iN (0)])] fun y z=>
 asI .i64 y fun A=>unc z fun B C=>mJ B fun E=>unc E fun F G=>iK (5,0) F fun H=>unn G (unn C (grd (decide (0 <= 0) && decide (0 < ni l.length)) (cz l 0 fun I=>
 asI .i64 I fun J=>iy V 70 [.op [.os (5,0) H,iN m1,iN m2,iN m3,iN m4,iN m5,iN m6,iN m7,.rs (5,0) cp,.rs (4,0) cl,.rs (3,0) cd],iN J,.rs (1,0) [iN A]] fun K L=>
 asI .i64 K fun M=>unc L fun N O=>tk6 N fun P Q R S T U W X Y Z a0=>(unn O (some ((iN M),[.op [.os (5,0) P,iN Q,iN R,iN S,iN T,iN U,iN W,iN X,.rs (5,0) Y,.rs (4,0) Z,.rs (3,0) a0]])))))))))))
 (
 br (decide (n > 12))
 (
 iy V 57 [.op [.os (5,0) p],.rs (1,0) l] fun d e=>
 asI .i64 d fun f=>unc e fun g h=>mJ g fun i=>unc i fun j k=>iK (5,0) j fun m=>unn k (unn h (some ((iN (0)),[.op [.os (5,0) m,iN m1,iN m2,iN m3,iN m4,iN (1),iN n,iN f,.rs (5,0) cp,.rs (4,0) cl,.rs (3,0) cd]]))))
 (
 iy V 92 [.op [.os (5,0) p],iN n,.rs (1,0) l] fun d e=>
 Qf d fun f g=>(unc e fun h i=>mJ h fun j=>unc j fun k m=>iK (5,0) k fun o=>unn m (unn i (br (g == 3)
 (some ((iN (4)),[.op [.os (5,0) o,iN m1,iN m2,iN m3,iN m4,iN m5,iN m6,iN m7,.rs (5,0) cp,.rs (4,0) cl,.rs (3,0) cd]]))
 (
 br (g == 4)
 (some ((iN (5)),[.op [.os (5,0) o,iN m1,iN m2,iN m3,iN m4,iN m5,iN m6,iN m7,.rs (5,0) cp,.rs (4,0) cl,.rs (3,0) cd]]))
 (
 iy V 71 [.op [.os (5,0) o,iN m1,iN m2,iN m3,iN m4,iN m5,iN m6,iN m7,.rs (5,0) cp,.rs (4,0) cl,.rs (3,0) cd],iN f] fun q r=>
 il q fun s=>unn s (unc r fun t u=>tk6 t fun v w x y z A B C E F G=>(unn u (some ((iN (0)),[(.op [.os (5,0) v,(iN (w6 (w + 1))),iN x,iN y,iN z,iN A,iN B,iN C,.rs (5,0) E,.rs (4,0) F,.rs (3,0) G])]))))))))))))):=by
 exact (xE Try.func82 rfl _).trans (by kernel_rfl)
theorem Jf (a0_0:List D) (a1_:Int) (a2_:List D):V 96 [.agg [.rs (5,0) a0_0],iN a1_,.rs (1,0) a2_] =
 grd (decide (0 <= 0) && decide (0 < ni a2_.length)) (cz a2_ 0 fun a=>
 asI .i64 a fun b=>grd (decide (0 <= b) && decide (b < ni a0_0.length)) (cz a0_0 b.toNat fun c=>
 tk1 c fun d e _ _ _=>(br (a1_ == 6)
 (
 grd (decide (0 <= 0) && decide (0 < ni a2_.length)) (cz a2_ 0 fun f=>
 asI .i64 f fun g=>grd (decide (0 <= 1) && decide (1 < ni a2_.length)) (cz a2_ 1 fun h=>
 asI .i64 h fun i=>some ((.agg [iN (5),iN (0),.str ({ data:=#[] }),iN g,iN i]),[]))))
 (
 br (a1_ == 9)
 (
 iy V 99 [.bool (d == 1)] fun f g=>
 tk1 f fun h i j k l=>(unn g (some ((.agg [iN h,iN i,.str j,iN k,iN l]),[]))))
 (
 br (a1_ == 10)
 (
 iy V 99 [.bool (d == 5)] fun f g=>
 tk1 f fun h i j k l=>(unn g (some ((.agg [iN h,iN i,.str j,iN k,iN l]),[]))))
 (
 br (a1_ == 11)
 (
 grd (decide (0 <= 0) && decide (0 < ni a2_.length)) (cz a2_ 0 fun f=>
 asI .i64 f fun g=>grd (decide (0 <= 1) && decide (1 < ni a2_.length)) (cz a2_ 1 fun h=>
 asI .i64 h fun i=>iy V 100 [.agg [.rs (5,0) a0_0],iN g,iN i] fun j k=>
 asB j fun l=>unn k (iy V 99 [.bool l] fun m n=>
 tk1 m fun o p q r s=>(unn n (some ((.agg [iN o,iN p,.str q,iN r,iN s]),[])))))))
 (
 br (a1_ == 12)
 (
 br (d == 2)
 (
 iy V 99 [.bool (e == 0)] fun f g=>
 tk1 f fun h i j k l=>(unn g (some ((.agg [iN h,iN i,.str j,iN k,iN l]),[]))))
 (
 iy V 99 [.bool false] fun f g=>
 tk1 f fun h i j k l=>(unn g (some ((.agg [iN h,iN i,.str j,iN k,iN l]),[])))))
 (
 grd (decide (0 <= 1) && decide (1 < ni a2_.length)) (cz a2_ 1 fun f=>
 asI .i64 f fun g=>grd (decide (0 <= g) && decide (g < ni a0_0.length)) (cz a0_0 g.toNat fun h=>
 asAgg h fun i=>cz i 1 fun j=>
 asI .i64 j fun k=>iy V 101 [iN a1_,iN e,iN k] fun l m=>
 tk1 l fun n o p q r=>(unn m (some ((.agg [iN n,iN o,.str p,iN q,iN r]),[]))))))))))))):=by
 exact (xE Try.func96 rfl _).trans (by kernel_rfl)
theorem Dh (p:List D) (m1 m2 m3 m4 m5 m6 m7:Int) (cp cl cd:List D) (o i:Int):V 73 [.op [.os (5,0) p,iN m1,iN m2,iN m3,iN m4,iN m5,iN m6,iN m7,.rs (5,0) cp,.rs (4,0) cl,.rs (3,0) cd],iN o,iN i] =
 iy V 84 [.op [.os (5,0) p,iN m1,iN m2,iN m3,iN m4,iN m5,iN m6,iN m7,.rs (5,0) cp,.rs (4,0) cl,.rs (3,0) cd],iN m3,iN o] fun a b=>
 tk9 a fun c d=>(unc b fun e f=>tk6 e fun g h j k l m n q r s t=>(unn f (br (!d)
 (some ((iN (7)),[.op [.os (5,0) g,iN h,iN j,iN k,iN l,iN m,iN n,iN q,.rs (5,0) r,.rs (4,0) s,.rs (3,0) t]]))
 (
 iy V 84 [.op [.os (5,0) g,iN h,iN j,iN k,iN l,iN m,iN n,iN q,.rs (5,0) r,.rs (4,0) s,.rs (3,0) t],iN c,iN i] fun u v=>
 tk9 u fun w x=>(unc v fun y z=>tk6 y fun A B C E F G H I J K L=>(unn z (br (!x)
 (some ((iN (7)),[.op [.os (5,0) A,iN B,iN C,iN E,iN F,iN G,iN H,iN I,.rs (5,0) J,.rs (4,0) K,.rs (3,0) L]]))
 (
 iy V 71 [.op [.os (5,0) A,iN B,iN C,iN E,iN F,iN G,iN H,iN I,.rs (5,0) J,.rs (4,0) K,.rs (3,0) L],iN w] fun M N=>
 il M fun O=>unn O (unc N fun P Q=>tk6 P fun R S T U W X Y Z a0 a1 a2=>(unn Q (some ((iN (0)),[.op [.os (5,0) R,iN S,iN T,iN U,iN W,iN X,iN Y,iN Z,.rs (5,0) a0,.rs (4,0) a1,.rs (3,0) a2]])))))))))))):=by
 exact (xE Try.func73 rfl _).trans (by kernel_rfl)
theorem zy (p0 p1 p2 p3 p4 p5 p6 p7 p8:Int) (p9 p10 p11 p12 p13:List D):yO p0 p1 p2 p3 p4 p5 p6 p7 p8 p9 p10 p11 p12 p13 =
 br (decide (p1 < p0))
 (
 iy V 68 [.op [.os (5,0) p13,iN p2,iN p3,iN p4,iN p5,iN p6,iN p7,iN p8,.rs (5,0) p9,.rs (4,0) p10,.rs (3,0) p11]] fun a b=>
 tk9 a fun c d=>(unc b fun e f=>tk6 e fun g h i j k l m n o p q=>(unn f (br (!d)
 (some ((iN (7)),[.op [.os (5,0) g,iN h,iN i,iN j,iN k,iN l,iN m,iN n,.rs (5,0) o,.rs (4,0) p,.rs (3,0) q]]))
 (
 grd (decide (ni (List.length (p12++[iN c])) <= LIM)) (nam (p12++[iN c]) fun r=>
 yO p0 (w6 (p1 + 1)) h i j k l m n o p q r g))))))
 (
 iy V 69 [.os (1,0) p12] fun a b=>
 il a fun c=>unn c (unc b fun d e=>iK (1,0) d fun f=>unn e (grd (decide (0 <= 0) && decide (0 < ni f.length)) (cz f 0 fun g=>
 asI .i64 g fun h=>grd (cG f.length (some (1)) none) (iy V 70 [.op [.os (5,0) p13,iN p2,iN p3,iN p4,iN p5,iN p6,iN p7,iN p8,.rs (5,0) p9,.rs (4,0) p10,.rs (3,0) p11],iN h,(.rs (1,0) (part f (some (Int.toNat (1),List.length f - Int.toNat (1)))))] fun i j=>
 asI .i64 i fun k=>unc j fun l m=>tk6 l fun n o p q r s t u v w x=>(unn m (some ((iN k),[.op [.os (5,0) n,iN o,iN p,iN q,iN r,iN s,iN t,iN u,.rs (5,0) v,.rs (4,0) w,.rs (3,0) x]])))))))):=by
 exact (xD _ _ _).trans (by kernel_rfl)
theorem NH (a0_0 a0_1 a0_2 a1_0:List D) (a1_1 a1_2 a1_3 a1_4 a1_5 a1_6 a1_7:Int):V 25 [.agg [.rs (5,0) a0_0,.rs (4,0) a0_1,.rs (3,0) a0_2],.agg [.rs (5,0) a1_0,iN a1_1,iN a1_2,iN a1_3,iN a1_4,iN a1_5,iN a1_6,iN a1_7]] =
 iy V 24 [.agg [.rs (5,0) a0_0,.rs (4,0) a0_1,.rs (3,0) a0_2],(.agg [.rs (5,0) a1_0,iN a1_1,iN a1_2,iN a1_3,iN a1_4,iN a1_5,iN a1_6,iN a1_7])] fun a b=>
 asB a fun c=>unn b (br (!c)
 (some ((.agg [.os (5,0) [],iN (0),iN (0),iN (0),iN (0),iN (3),iN (7),iN (0)]),[]))
 (
 br (a1_5 != 0)
 (
 iy V 26 [.agg [.rs (5,0) a1_0,iN a1_1,iN a1_2,iN a1_3,iN a1_4,iN a1_5,iN a1_6,iN a1_7]] fun d e=>
 tk7 d fun f g h i j k l m=>(unn e (some ((.agg [.os (5,0) f,iN g,iN h,iN i,iN j,iN k,iN l,iN m]),[]))))
 (
 iy V 28 [.agg [.rs (5,0) a0_0,.rs (4,0) a0_1,.rs (3,0) a0_2],(.agg [.rs (5,0) a1_0,iN a1_1,iN a1_2,iN a1_3,iN a1_4,iN a1_5,iN a1_6,iN a1_7])] fun d e=>
 tk7 d fun f g h i j k l m=>(unn e (some ((.agg [.os (5,0) f,iN g,iN h,iN i,iN j,iN k,iN l,iN m]),[])))))):=by
 exact (xE Try.func25 rfl _).trans (by kernel_rfl)
theorem B9 (p0 p1:Int) (p2 p3 p4:List D) (p5 p6 p7 p8 p9 p10 p11 p12 p13 p14 p15 p16 p17 p18:Int) (p19:List D):Ah p0 p1 p2 p3 p4 p5 p6 p7 p8 p9 p10 p11 p12 p13 p14 p15 p16 p17 p18 p19 =
 br (p9 == 0)
 (
 br (decide (p1 < mnI p0 (2000)))
 (
 iy V 28 [.agg [.rs (5,0) p2,.rs (4,0) p3,.rs (3,0) p4],(.agg [.rs (5,0) p19,iN p5,iN p6,iN p7,iN p8,iN p9,iN p10,iN p11])] fun a b=>
 tk7 a fun c d e f g h i j=>(unn b (iy V 27 [.agg [.os (5,0) c,iN d,iN e,iN f,iN g,iN h,iN i,iN j]] fun k l=>
 tk7 k fun m n o p q r s t=>(unn l (Ah p0 (w6 (p1 + 1)) p2 p3 p4 n o p q r s t p12 p13 p14 p15 p16 p17 p18 m)))))
 (some ((.tup [.agg [.os (5,0) p19,iN p5,iN p6,iN p7,iN p8,iN p9,iN p10,iN p11],iN p1]),[])))
 (some ((.tup [.agg [.os (5,0) p19,iN p5,iN p6,iN p7,iN p8,iN p9,iN p10,iN p11],iN p1]),[])):=by
 exact (xD _ _ _).trans (by kernel_rfl)
theorem GQ (a0_0 a0_1 a0_2:List D) (a1_:ByteArray):V 10 [.agg [.rs (5,0) a0_0,.rs (4,0) a0_1,.rs (3,0) a0_2],.str a1_] =
 iy V 23 [.agg [.rs (5,0) a0_0,.rs (4,0) a0_1,.rs (3,0) a0_2],.str a1_] fun a b=>
 asI .i64 a fun c=>unn b (iy V 22 [.agg [.rs (5,0) a0_0,.rs (4,0) a0_1,.rs (3,0) a0_2]] fun d e=>
 asB d fun f=>unn e (br (!f)
 (some ((.tup [.agg [.os (5,0) [],iN (0),iN (0),iN (0),iN (0),iN (0),iN (0),iN (0)],.bool false]),[]))
 (
 br (decide (c < 0))
 (some ((.tup [.agg [.os (5,0) [],iN (0),iN (0),iN (0),iN (0),iN (0),iN (0),iN (0)],.bool false]),[]))
 (
 grd (decide (0 <= c) && decide (c < ni a0_2.length)) (cz a0_2 c.toNat fun g=>
 asAgg g fun h=>cz h 2 fun i=>
 asI .i64 i fun j=>br (j != 0)
 (some ((.tup [.agg [.os (5,0) [],iN (0),iN (0),iN (0),iN (0),iN (0),iN (0),iN (0)],.bool false]),[]))
 (
 grd (decide (0 <= c) && decide (c < ni a0_2.length)) (cz a0_2 c.toNat fun k=>
 asAgg k fun l=>cz l 1 fun m=>
 asI .i64 m fun n=>some ((.tup [(.agg [(.os (5,0) [.agg [iN (1),iN (0),.str ({ data:=#[] }),iN (0),iN (0)],(.agg [iN (5),iN (0),.str ({ data:=#[] }),iN (0),iN (0)])]),iN n,iN (0),iN (1),iN (0),iN (0),iN (0),iN (0)]),.bool true]),[])))))))):=by
 exact (xE Try.func10 rfl _).trans (by kernel_rfl)
theorem zI (p0:List D) (p1 p2 p3:Int) (p4 p5 p6 p7:List D):yx p0 p1 p2 p3 p4 p5 p6 p7 =
 br (decide (p2 < p1))
 (
 grd (decide (0 <= p2) && decide (p2 < ni p0.length)) (cz p0 p2.toNat fun a=>
 asI .i64 a fun b=>iy V 41 [.op [.os (5,0) p5,.os (4,0) p6,.os (3,0) p7,iN p3],iN b] fun c d=>
 tk5 c fun e f=>(unc d fun g h=>tk2 g fun i j k l=>(unn h (br (!f)
 (some ((.tup [.os (1,0) [],iN (1)]),[.op [.os (5,0) i,.os (4,0) j,.os (3,0) k,iN l]]))
 (
 iy V 62 [.str e] fun m n=>
 asB m fun o=>unn n (br o
 (some ((.tup [.os (1,0) [],iN (1)]),[.op [.os (5,0) i,.os (4,0) j,.os (3,0) k,iN l]]))
 (
 grd (decide (ni (List.length (p4++[D.str e])) <= LIM)) (nam (p4++[D.str e]) fun p=>
 yx p0 p1 (w6 (p2 + 1)) l p i j k)))))))))
 (
 br (decide (ni p4.length > 4))
 (some ((.tup [.os (1,0) [],iN (1)]),[.op [.os (5,0) p5,.os (4,0) p6,.os (3,0) p7,iN p3]]))
 (yN (ni p4.length) (0) p4 p3 p5 p6 p7)):=by
 exact (xD _ _ _).trans (by kernel_rfl)
theorem Lv (a0_0:List D) (a0_1 a0_2 a0_3 a0_4 a0_5 a0_6 a0_7:Int):V 27 [.agg [.os (5,0) a0_0,iN a0_1,iN a0_2,iN a0_3,iN a0_4,iN a0_5,iN a0_6,iN a0_7]] =
 br (decide (ni a0_0.length > 2000))
 (
 iy V 49 [.agg [.rs (5,0) a0_0,iN a0_1,iN a0_2,iN a0_3,iN a0_4,iN a0_5,iN a0_6,iN a0_7]] fun a b=>
 tk7 a fun c d e f g h i j=>(unn b (some ((.agg [.os (5,0) c,iN d,iN e,iN f,iN g,iN h,iN i,iN j]),[]))))
 (some ((.agg [.os (5,0) a0_0,iN a0_1,iN a0_2,iN a0_3,iN a0_4,iN a0_5,iN a0_6,iN a0_7]),[])):=by
 exact (xE Try.func27 rfl _).trans (by kernel_rfl)
theorem Lr (a0_0:List D) (a0_1 a0_2 a0_3 a0_4 a0_5 a0_6 a0_7 a1_:Int):V 53 [.agg [.rs (5,0) a0_0,iN a0_1,iN a0_2,iN a0_3,iN a0_4,iN a0_5,iN a0_6,iN a0_7],iN a1_] =
 iy V 26 [.agg [.rs (5,0) a0_0,iN a0_1,iN a0_2,iN a0_3,iN a0_4,iN a0_5,iN a0_6,iN a0_7]] fun a b=>
 tk7 a fun c _ d e f _ _ _=>(unn b (some ((.agg [.os (5,0) c,iN (0),iN d,iN e,iN f,iN (3),iN a1_,iN (0)]),[]))):=by
 exact (xE Try.func53 rfl _).trans (by kernel_rfl)
theorem DN (p:List D) (m1 m2 m3 m4 m5 m6 m7:Int) (cp cl cd:List D) (k:Int):V 50 [.op [.os (5,0) p,iN m1,iN m2,iN m3,iN m4,iN m5,iN m6,iN m7,.rs (5,0) cp,.rs (4,0) cl,.rs (3,0) cd],iN k] =
 iy V 48 [.agg [.rs (5,0) cp,.rs (4,0) cl,.rs (3,0) cd],(iN (w6 (m1 + 1)))] fun a b=>
 asB a fun c=>unn b (br (!c)
 (some ((iN (7)),[.op [.os (5,0) p,iN m1,iN m2,iN m3,iN m4,iN m5,iN m6,iN m7,.rs (5,0) cp,.rs (4,0) cl,.rs (3,0) cd]]))
 (yO (w6 (k + 1)) (0) m1 m2 m3 m4 m5 m6 m7 cp cl cd [] p)):=by
 exact (xE Try.func50 rfl _).trans (by kernel_rfl)
theorem GR (a0_:Int):V 58 [.int .u8 a0_] =
 br (decide (a0_ >= 97))
 (
 br (decide (a0_ <= 122))
 (some ((.bool true),[]))
 (
 grd (decide (0 < 8)) (iy V 76 [.rs (1,0) [.int .u8 (43),.int .u8 (45),.int .u8 (42),.int .u8 (60),.int .u8 (61),.int .u8 (63),.int .u8 (33),.int .u8 (47)],.int .u8 a0_] fun a b=>
 asB a fun c=>unn b (some ((.bool c),[])))))
 (
 grd (decide (0 < 8)) (iy V 76 [.rs (1,0) [.int .u8 (43),.int .u8 (45),.int .u8 (42),.int .u8 (60),.int .u8 (61),.int .u8 (63),.int .u8 (33),.int .u8 (47)],.int .u8 a0_] fun a b=>
 asB a fun c=>unn b (some ((.bool c),[])))):=by
 exact (xE Try.func58 rfl _).trans (by kernel_rfl)
theorem Bz (p0:ByteArray) (p1 p2 p3:Int):y0 p0 p1 p2 p3 =
 br (decide (p3 < p2))
 (
 grd (decide (0 <= p3) && decide (p3 < ni (ByteArray.size p0))) (iy V 59 [.int .u8 (bt p0 p3)] fun a b=>
 asB a fun c=>unn b (br (!c)
 (some ((.tup [iN (0),.bool false]),[]))
 (grd (decide (0 <= p3) && decide (p3 < ni (ByteArray.size p0))) (y0 p0 (w6 (w6 (10 * p1) + w6 (IntKind.wrap IntKind.u8 (bt p0 p3 - 48)))) p2 (w6 (p3 + 1)))))))
 (some ((.tup [iN p1,.bool true]),[])):=by
 exact (xD _ _ _).trans (by kernel_rfl)
theorem Jb (p:List D) (k n:Int) (s:ByteArray) (a b:Int):V 37 [.op [.os (5,0) p],.agg [iN k,iN n,.str s,iN a,iN b]] =
 grd (decide (ni (List.length (p++[D.agg [iN k,iN n,D.str s,iN a,iN b]])) <= LIM)) (nam (p++[D.agg [iN k,iN n,D.str s,iN a,iN b]]) fun c=>
 some ((iN (w6 (ni c.length - 1))),[.op [.os (5,0) c]])):=by
 exact (xE Try.func37 rfl _).trans (by kernel_rfl)
theorem z7 (p0 p1:List D) (p2 p3:Int):y3 p0 p1 p2 p3 =
 br (decide (p3 < p2))
 (
 grd (decide (0 <= p3) && decide (p3 < ni p0.length)) (cz p0 p3.toNat fun a=>
 asI .i64 a fun b=>iy V 19 [iN b,(.bp [.rs (5,0) p1])] fun c d=>
 asB c fun e=>unn d (br e
 (some ((iN p3),[]))
 (y3 p0 p1 p2 (w6 (p3 + 1))))))
 (some ((iN (-1)),[])):=by
 exact (xD _ _ _).trans (by kernel_rfl)
theorem Ff (p:List D) (m1 m2 m3 m4 m5 m6 m7:Int) (cp cl cd:List D) (v n:Int):V 84 [.op [.os (5,0) p,iN m1,iN m2,iN m3,iN m4,iN m5,iN m6,iN m7,.rs (5,0) cp,.rs (4,0) cl,.rs (3,0) cd],iN v,iN n] =
 yX v n m1 m2 m3 m4 m5 m6 m7 cp cl cd p:=by
 exact (xE Try.func84 rfl _).trans (by kernel_rfl)
theorem zo (p0:List D) (p1 p2 p3:Int):yB p0 p1 p2 p3 =
 br (decide (p3 < p2))
 (
 grd (decide (0 <= p3) && decide (p3 < ni p0.length)) (cz p0 p3.toNat fun a=>
 asI .u8 a fun b=>br (p1 == b)
 (some ((iN p3),[]))
 (yB p0 p1 p2 (w6 (p3 + 1)))))
 (some ((iN (-1)),[])):=by
 exact (xD _ _ _).trans (by kernel_rfl)
theorem GT (a0_:Int):V 34 [.int .u8 a0_] =
 iy V 58 [.int .u8 a0_] fun a b=>
 asB a fun c=>unn b (br c
 (some ((.bool true),[]))
 (
 iy V 59 [.int .u8 a0_] fun d e=>
 asB d fun f=>unn e (br f
 (some ((.bool true),[]))
 (some ((.bool (a0_ == 35)),[]))))):=by
 exact (xE Try.func34 rfl _).trans (by kernel_rfl)
theorem Ik (a0_0 a0_1 a0_2:List D) (a1_:ByteArray):V 23 [.agg [.rs (5,0) a0_0,.rs (4,0) a0_1,.rs (3,0) a0_2],.str a1_] =
 iy V 46 [.rs (3,0) a0_2,(.fn 47 [(.bp [.str a1_])])] fun a b=>
 asI .i64 a fun c=>unn b (some ((iN c),[])):=by
 exact (xE Try.func23 rfl _).trans (by kernel_rfl)
theorem yZ (a0_:List D):V 32 [.rs (5,0) a0_] =
 uJ a0_
 (some ((.os (5,0) []),[]))
 (
 grd (decide (ni (List.length ([]++a0_)) <= LIM)) (nam ([]++a0_) fun a=>
 some ((.os (5,0) a),[]))):=by
 exact (xE Try.func32 rfl _).trans (by kernel_rfl)
theorem DV (p l d:List D) (h:Int) (x:List D):V 63 [.op [.os (5,0) p,.os (4,0) l,.os (3,0) d,iN h],.rs (1,0) x] =
 yx x (ni x.length) (0) h [] p l d:=by
 exact (xE Try.func63 rfl _).trans (by kernel_rfl)
theorem DW (a0_0:List D):V 16 [.agg [.rs (5,0) a0_0]] =
 iy V 32 [.rs (5,0) a0_0] fun a b=>
 iK (5,0) a fun c=>unn b (some ((.agg [.os (5,0) c]),[])):=by
 exact (xE Try.func16 rfl _).trans (by kernel_rfl)
theorem IE (p:List D) (n:Int) (l:List D):V 92 [.op [.os (5,0) p],iN n,.rs (1,0) l] =
 yf n l l (ni l.length) (0) p:=by
 exact (xE Try.func92 rfl _).trans (by kernel_rfl)
theorem Fi (p o:List D) (v:Int):V 55 [.op [.rs (5,0) p,.os (1,0) o],iN v] =
 yE v true p o:=by
 exact (xE Try.func55 rfl _).trans (by kernel_rfl)

end Go.Eng
/-! the functions as the interpreter has them -/
namespace Go.Eng
open Go.Proofs Go.Proofs.Try
set_option maxRecDepth 100000
theorem zJ (p o:List D) (v:Int):V 29 [.op [.rs (5,0) p,.os (1,0) o],iN v] =
 grd (decide (0 <= v) && decide (v < ni p.length)) (cz p v.toNat fun a=>
 tk1 a fun b c d _ _=>(iy V 30 [.op [.rs (5,0) p,.os (1,0) o]] fun e f=>
 asB e fun g=>unc f fun h i=>Aq h fun j k=>(unn i (br g
 (some ((.tup []),[.op [.rs (5,0) j,.os (1,0) k]]))
 (
 br (b == 1)
 (
 iy V 54 [.op [.rs (5,0) j,.os (1,0) k],.str ({ data:=#[40] })] fun l m=>
 il l fun n=>unn n (unc m fun q r=>Aq q fun s t=>(unn r (iy V 55 [.op [.rs (5,0) s,.os (1,0) t],iN v] fun u w=>
 il u fun x=>unn x (unc w fun y z=>Aq y fun A B=>(unn z (iy V 54 [.op [.rs (5,0) A,.os (1,0) B],.str ({ data:=#[41] })] fun C E=>
 il C fun F=>unn F (unc E fun G H=>Aq G fun I J=>(unn H (some ((.tup []),[.op [.rs (5,0) I,.os (1,0) J]])))))))))))
 (
 br (b == 5)
 (
 iy V 54 [.op [.rs (5,0) j,.os (1,0) k],.str ({ data:=#[40] })] fun l m=>
 il l fun n=>unn n (unc m fun q r=>Aq q fun s t=>(unn r (iy V 55 [.op [.rs (5,0) s,.os (1,0) t],iN v] fun u w=>
 il u fun x=>unn x (unc w fun y z=>Aq y fun A B=>(unn z (iy V 54 [.op [.rs (5,0) A,.os (1,0) B],.str ({ data:=#[41] })] fun C E=>
 il C fun F=>unn F (unc E fun G H=>Aq G fun I J=>(unn H (some ((.tup []),[.op [.rs (5,0) I,.os (1,0) J]])))))))))))
 (
 br (b == 2)
 (
 br (c == 1)
 (
 iy V 54 [.op [.rs (5,0) j,.os (1,0) k],.str ({ data:=#[35,116] })] fun l m=>
 il l fun n=>unn n (unc m fun q r=>Aq q fun s t=>(unn r (some ((.tup []),[.op [.rs (5,0) s,.os (1,0) t]])))))
 (
 br (b == 2)
 (
 iy V 54 [.op [.rs (5,0) j,.os (1,0) k],.str ({ data:=#[35,102] })] fun l m=>
 il l fun n=>unn n (unc m fun q r=>Aq q fun s t=>(unn r (some ((.tup []),[.op [.rs (5,0) s,.os (1,0) t]])))))
 (
 br (b == 3)
 (
 iy V 56 [iN c] fun l m=>
 asS l fun n=>unn m (iy V 54 [.op [.rs (5,0) j,.os (1,0) k],.str n] fun q r=>
 il q fun s=>unn s (unc r fun t u=>Aq t fun w x=>(unn u (some ((.tup []),[.op [.rs (5,0) w,.os (1,0) x]]))))))
 (
 br (b == 4)
 (
 iy V 54 [.op [.rs (5,0) j,.os (1,0) k],.str d] fun l m=>
 il l fun n=>unn n (unc m fun q r=>Aq q fun s t=>(unn r (some ((.tup []),[.op [.rs (5,0) s,.os (1,0) t]])))))
 (
 grd (decide (0 <= w6 (b - 6)) && decide (w6 (b - 6) < ni 4)) (cz ([D.str { data:=#[35,102,117,110] },D.str { data:=#[35,107,111,110,116] },D.str { data:=#[35,112,114,105,109] },D.str { data:=#[35,112,105,100] }]) (Int.toNat (w6 (b - 6))) fun l=>
 asS l fun m=>iy V 56 [iN c] fun n q=>
 asS n fun r=>unn q (grd (decide (ni (ByteArray.size m + ByteArray.size r) <= LIM)) (iy V 54 [.op [.rs (5,0) j,.os (1,0) k],.str (m++r)] fun s t=>
 il s fun u=>unn u (unc t fun w x=>Aq w fun y z=>(unn x (some ((.tup []),[.op [.rs (5,0) y,.os (1,0) z]]))))))))))))
 (
 br (b == 2)
 (
 iy V 54 [.op [.rs (5,0) j,.os (1,0) k],.str ({ data:=#[35,102] })] fun l m=>
 il l fun n=>unn n (unc m fun q r=>Aq q fun s t=>(unn r (some ((.tup []),[.op [.rs (5,0) s,.os (1,0) t]])))))
 (
 br (b == 3)
 (
 iy V 56 [iN c] fun l m=>
 asS l fun n=>unn m (iy V 54 [.op [.rs (5,0) j,.os (1,0) k],.str n] fun q r=>
 il q fun s=>unn s (unc r fun t u=>Aq t fun w x=>(unn u (some ((.tup []),[.op [.rs (5,0) w,.os (1,0) x]]))))))
 (
 br (b == 4)
 (
 iy V 54 [.op [.rs (5,0) j,.os (1,0) k],.str d] fun l m=>
 il l fun n=>unn n (unc m fun q r=>Aq q fun s t=>(unn r (some ((.tup []),[.op [.rs (5,0) s,.os (1,0) t]])))))
 (
 grd (decide (0 <= w6 (b - 6)) && decide (w6 (b - 6) < ni 4)) (cz ([D.str { data:=#[35,102,117,110] },D.str { data:=#[35,107,111,110,116] },D.str { data:=#[35,112,114,105,109] },D.str { data:=#[35,112,105,100] }]) (Int.toNat (w6 (b - 6))) fun l=>
 asS l fun m=>iy V 56 [iN c] fun n q=>
 asS n fun r=>unn q (grd (decide (ni (ByteArray.size m + ByteArray.size r) <= LIM)) (iy V 54 [.op [.rs (5,0) j,.os (1,0) k],.str (m++r)] fun s t=>
 il s fun u=>unn u (unc t fun w x=>Aq w fun y z=>(unn x (some ((.tup []),[.op [.rs (5,0) y,.os (1,0) z]])))))))))))))))))):=by
 exact (xE Try.func29 rfl _).trans (by kernel_rfl)
theorem BQ (p l d:List D) (h:Int) (x:List D):V 42 [.op [.os (5,0) p,.os (4,0) l,.os (3,0) d,iN h],.rs (1,0) x] =
 br (decide (ni x.length < 3))
 (
 iy V 61 [.op [.os (5,0) p,.os (4,0) l,.os (3,0) d,iN h],iN (1)] fun a b=>
 il a fun c=>unn c (unc b fun e f=>tk2 e fun g i j k=>(unn f (some ((.tup []),[.op [.os (5,0) g,.os (4,0) i,.os (3,0) j,iN k]])))))
 (
 grd (decide (0 <= 1) && decide (1 < ni x.length)) (cz x 1 fun a=>
 asI .i64 a fun b=>iy V 40 [.op [.os (5,0) p],iN b] fun c e=>
 tk3 c fun f g=>(unc e fun i j=>mJ i fun k=>unc k fun m n=>iK (5,0) m fun o=>unn n (unn j (br (!g)
 (
 iy V 61 [.op [.os (5,0) o,.os (4,0) l,.os (3,0) d,iN h],iN (1)] fun q r=>
 il q fun s=>unn s (unc r fun t u=>tk2 t fun v w y z=>(unn u (some ((.tup []),[.op [.os (5,0) v,.os (4,0) w,.os (3,0) y,iN z]])))))
 (
 br (ni f.length == 0)
 (
 iy V 61 [.op [.os (5,0) o,.os (4,0) l,.os (3,0) d,iN h],iN (1)] fun q r=>
 il q fun s=>unn s (unc r fun t u=>tk2 t fun v w y z=>(unn u (some ((.tup []),[.op [.os (5,0) v,.os (4,0) w,.os (3,0) y,iN z]])))))
 (
 grd (decide (0 <= 0) && decide (0 < ni f.length)) (cz f 0 fun q=>
 asI .i64 q fun r=>iy V 41 [.op [.os (5,0) o,.os (4,0) l,.os (3,0) d,iN h],iN r] fun s t=>
 tk5 s fun u v=>(unc t fun w y=>tk2 w fun z A B C=>(unn y (br (!v)
 (
 iy V 61 [.op [.os (5,0) z,.os (4,0) A,.os (3,0) B,iN C],iN (1)] fun E F=>
 il E fun G=>unn G (unc F fun H I=>tk2 H fun J K L M=>(unn I (some ((.tup []),[.op [.os (5,0) J,.os (4,0) K,.os (3,0) L,iN M]])))))
 (
 iy V 62 [.str u] fun E F=>
 asB E fun G=>unn F (br G
 (
 iy V 61 [.op [.os (5,0) z,.os (4,0) A,.os (3,0) B,iN C],iN (1)] fun H I=>
 il H fun J=>unn J (unc I fun K L=>tk2 K fun M N O P=>(unn L (some ((.tup []),[.op [.os (5,0) M,.os (4,0) N,.os (3,0) O,iN P]])))))
 (
 grd (cG f.length (some (1)) none) (iy V 63 [.op [.os (5,0) z,.os (4,0) A,.os (3,0) B,iN C],(.rs (1,0) (part f (some (Int.toNat (1),List.length f - Int.toNat (1)))))] fun H I=>
 tk4 H fun J K=>(unc I fun L M=>tk2 L fun N O P Q=>(unn M (br (K != 0)
 (
 iy V 61 [.op [.os (5,0) N,.os (4,0) O,.os (3,0) P,iN Q],iN K] fun R S=>
 il R fun T=>unn T (unc S fun U W=>tk2 U fun X Y Z a0=>(unn W (some ((.tup []),[.op [.os (5,0) X,.os (4,0) Y,.os (3,0) Z,iN a0]])))))
 (
 grd (cG x.length (some (2)) none) (iy V 43 [.op [.os (5,0) N,.os (4,0) O,.os (3,0) P,iN Q],.str u,.rs (1,0) J,(.rs (1,0) (vi x (2)))] fun R S=>
 il R fun T=>unn T (unc S fun U W=>tk2 U fun X Y Z a0=>(unn W (some ((.tup []),[.op [.os (5,0) X,.os (4,0) Y,.os (3,0) Z,iN a0]])))))))))))))))))))))))):=by
 exact (xE Try.func42 rfl _).trans (by kernel_rfl)
theorem FQ (p:List D) (m1 m2 m3 m4 m5 m6 m7:Int) (cp cl cd:List D) (f:Int) (l:List D):V 70 [.op [.os (5,0) p,iN m1,iN m2,iN m3,iN m4,iN m5,iN m6,iN m7,.rs (5,0) cp,.rs (4,0) cl,.rs (3,0) cd],iN f,.rs (1,0) l] =
 grd (decide (0 <= f) && decide (f < ni p.length)) (cz p f.toNat fun a=>
 tk1 a fun b c d e g=>(br (b == 6)
 (
 iy V 81 [.op [.os (5,0) p,iN m1,iN m2,iN m3,iN m4,iN m5,iN m6,iN m7,.rs (5,0) cp,.rs (4,0) cl,.rs (3,0) cd],.agg [iN b,iN c,.str d,iN e,iN g],.rs (1,0) l] fun h i=>
 asI .i64 h fun j=>unc i fun k m=>tk6 k fun n o q r s t u v w x y=>(unn m (some ((iN j),[.op [.os (5,0) n,iN o,iN q,iN r,iN s,iN t,iN u,iN v,.rs (5,0) w,.rs (4,0) x,.rs (3,0) y]]))))
 (
 br (b == 8)
 (
 iy V 82 [.op [.os (5,0) p,iN m1,iN m2,iN m3,iN m4,iN m5,iN m6,iN m7,.rs (5,0) cp,.rs (4,0) cl,.rs (3,0) cd],iN c,.rs (1,0) l] fun h i=>
 asI .i64 h fun j=>unc i fun k m=>tk6 k fun n o q r s t u v w x y=>(unn m (some ((iN j),[.op [.os (5,0) n,iN o,iN q,iN r,iN s,iN t,iN u,iN v,.rs (5,0) w,.rs (4,0) x,.rs (3,0) y]]))))
 (
 br (b == 7)
 (
 iy V 83 [.op [.os (5,0) p,iN m1,iN m2,iN m3,iN m4,iN m5,iN m6,iN m7,.rs (5,0) cp,.rs (4,0) cl,.rs (3,0) cd],iN e,.rs (1,0) l] fun h i=>
 asI .i64 h fun j=>unc i fun k m=>tk6 k fun n o q r s t u v w x y=>(unn m (some ((iN j),[.op [.os (5,0) n,iN o,iN q,iN r,iN s,iN t,iN u,iN v,.rs (5,0) w,.rs (4,0) x,.rs (3,0) y]]))))
 (some ((iN (3)),[.op [.os (5,0) p,iN m1,iN m2,iN m3,iN m4,iN m5,iN m6,iN m7,.rs (5,0) cp,.rs (4,0) cl,.rs (3,0) cd]])))))):=by
 exact (xE Try.func70 rfl _).trans (by kernel_rfl)
theorem AH (p0:Int) (p1 p2:List D) (p3 p4:Int) (p5:List D):yf p0 p1 p2 p3 p4 p5 =
 br (decide (p4 < p3))
 (
 grd (decide (0 <= p4) && decide (p4 < ni p2.length)) (cz p2 p4.toNat fun a=>
 asI .i64 a fun b=>br (decide (p0 <= 5))
 (
 grd (decide (0 <= b) && decide (b < ni p5.length)) (cz p5 b.toNat fun c=>
 asAgg c fun d=>cz d 0 fun e=>
 asI .i64 e fun f=>br (f != 3)
 (some ((.tup [iN (-1),iN (3)]),[.op [.os (5,0) p5]]))
 (
 br (p0 == 7)
 (
 grd (decide (0 <= b) && decide (b < ni p5.length)) (cz p5 b.toNat fun g=>
 asAgg g fun h=>cz h 0 fun i=>
 asI .i64 i fun j=>br (j != 5)
 (some ((.tup [iN (-1),iN (3)]),[.op [.os (5,0) p5]]))
 (yf p0 p1 p2 p3 (w6 (p4 + 1)) p5)))
 (
 br (p0 == 8)
 (
 grd (decide (0 <= b) && decide (b < ni p5.length)) (cz p5 b.toNat fun g=>
 asAgg g fun h=>cz h 0 fun i=>
 asI .i64 i fun j=>br (j != 5)
 (some ((.tup [iN (-1),iN (3)]),[.op [.os (5,0) p5]]))
 (yf p0 p1 p2 p3 (w6 (p4 + 1)) p5)))
 (yf p0 p1 p2 p3 (w6 (p4 + 1)) p5)))))
 (
 br (p0 == 7)
 (
 grd (decide (0 <= b) && decide (b < ni p5.length)) (cz p5 b.toNat fun c=>
 asAgg c fun d=>cz d 0 fun e=>
 asI .i64 e fun f=>br (f != 5)
 (some ((.tup [iN (-1),iN (3)]),[.op [.os (5,0) p5]]))
 (yf p0 p1 p2 p3 (w6 (p4 + 1)) p5)))
 (
 br (p0 == 8)
 (
 grd (decide (0 <= b) && decide (b < ni p5.length)) (cz p5 b.toNat fun c=>
 asAgg c fun d=>cz d 0 fun e=>
 asI .i64 e fun f=>br (f != 5)
 (some ((.tup [iN (-1),iN (3)]),[.op [.os (5,0) p5]]))
 (yf p0 p1 p2 p3 (w6 (p4 + 1)) p5)))
 (yf p0 p1 p2 p3 (w6 (p4 + 1)) p5)))))
 (
 br (p0 == 7)
 (
 grd (decide (0 <= 0) && decide (0 < ni p1.length)) (cz p1 0 fun a=>
 asI .i64 a fun b=>grd (decide (0 <= b) && decide (b < ni p5.length)) (cz p5 b.toNat fun c=>
 asAgg c fun d=>cz d 3 fun e=>
 asI .i64 e fun f=>some ((.tup [iN f,iN (0)]),[.op [.os (5,0) p5]]))))
 (
 br (p0 == 8)
 (
 grd (decide (0 <= 0) && decide (0 < ni p1.length)) (cz p1 0 fun a=>
 asI .i64 a fun b=>grd (decide (0 <= b) && decide (b < ni p5.length)) (cz p5 b.toNat fun c=>
 asAgg c fun d=>cz d 4 fun e=>
 asI .i64 e fun f=>some ((.tup [iN f,iN (0)]),[.op [.os (5,0) p5]]))))
 (
 iy V 96 [.agg [.rs (5,0) p5],iN p0,.rs (1,0) p1] fun a b=>
 tk1 a fun c d e f g=>(unn b (iy V 39 [iN d,iN (-1000000000),iN (1000000000)] fun h i=>
 asB h fun j=>unn i (br (!j)
 (some ((.tup [iN (-1),iN (4)]),[.op [.os (5,0) p5]]))
 (
 iy V 37 [.op [.os (5,0) p5],.agg [iN c,iN d,.str e,iN f,iN g]] fun k l=>
 asI .i64 k fun m=>unc l fun n o=>mJ n fun p=>unc p fun q r=>iK (5,0) q fun s=>unn r (unn o (some ((.tup [iN m,iN (0)]),[.op [.os (5,0) s]])))))))))):=by
 exact (xD _ _ _).trans (by kernel_rfl)
theorem Fg (p:List D) (m1 m2 m3 m4 m5 m6 m7:Int) (cp cl cd:List D) (k n:Int) (s:ByteArray) (a b:Int) (l:List D):V 81 [.op [.os (5,0) p,iN m1,iN m2,iN m3,iN m4,iN m5,iN m6,iN m7,.rs (5,0) cp,.rs (4,0) cl,.rs (3,0) cd],.agg [iN k,iN n,.str s,iN a,iN b],.rs (1,0) l] =
 grd (!decide (8 = 0)) (br (Int.tmod n (8) != ni l.length)
 (some ((iN (2)),[.op [.os (5,0) p,iN m1,iN m2,iN m3,iN m4,iN m5,iN m6,iN m7,.rs (5,0) cp,.rs (4,0) cl,.rs (3,0) cd]]))
 (
 grd (!decide (8 = 0)) (iy V 48 [.agg [.rs (5,0) cp,.rs (4,0) cl,.rs (3,0) cd],(iN (w6 (Int.tdiv n (8))))] fun c d=>
 asB c fun e=>unn d (br (!e)
 (some ((iN (7)),[.op [.os (5,0) p,iN m1,iN m2,iN m3,iN m4,iN m5,iN m6,iN m7,.rs (5,0) cp,.rs (4,0) cl,.rs (3,0) cd]]))
 (
 iy V 37 [.op [.os (5,0) p],(.agg [iN (3),(iN (w6 (m1 + 1))),.str ({ data:=#[] }),iN (0),iN (0)])] fun f g=>
 asI .i64 f fun h=>unc g fun i j=>mJ i fun m=>unc m fun o q=>iK (5,0) o fun r=>unn q (unn j (iy V 57 [.op [.os (5,0) r],.rs (1,0) [iN h,iN m2,iN m3]] fun t u=>
 asI .i64 t fun v=>unc u fun w x=>mJ w fun y=>unc y fun z A=>iK (5,0) z fun B=>unn A (unn x (iy V 75 [.op [.os (5,0) B],iN v,iN m4] fun C E=>
 asI .i64 C fun F=>unc E fun G H=>mJ G fun I=>unc I fun J K=>iK (5,0) J fun L=>unn K (unn H (iy V 57 [.op [.os (5,0) L],.rs (1,0) l] fun M N=>
 asI .i64 M fun O=>unc N fun P Q=>mJ P fun R=>unc R fun S T=>iK (5,0) S fun U=>unn T (unn Q (iy V 75 [.op [.os (5,0) U],iN O,iN a] fun W X=>
 asI .i64 W fun Y=>unc X fun Z a0=>mJ Z fun a1=>unc a1 fun a2 a3=>iK (5,0) a2 fun a4=>unn a3 (unn a0 (iy V 37 [.op [.os (5,0) a4],(.agg [iN (1),iN (0),.str ({ data:=#[] }),iN (0),iN (0)])] fun a5 a6=>
 asI .i64 a5 fun a7=>unc a6 fun a8 a9=>mJ a8 fun b0=>unc b0 fun b1 b3=>iK (5,0) b1 fun b4=>unn b3 (unn a9 (grd (!decide (8 = 0)) (some ((iN (0)),[(.op [.os (5,0) b4,(iN (w6 (Int.tdiv n (8)))),iN a7,iN Y,iN F,iN m5,iN m6,iN m7,.rs (5,0) cp,.rs (4,0) cl,.rs (3,0) cd])]))))))))))))))))))):=by
 exact (xE Try.func81 rfl _).trans (by kernel_rfl)
theorem Fp (a0_:Int):V 56 [iN a0_] =
 br (decide (a0_ < 0))
 (
 br (decide (a0_ > -10))
 (
 iy V 56 [(iN (w6 (0 - a0_)))] fun a b=>
 asS a fun c=>unn b (grd (decide (ni (ByteArray.size { data:=#[45] } + ByteArray.size c) <= LIM)) (some ((.str ({ data:=#[45] }++c)),[]))))
 (
 br (decide (a0_ < 0))
 (
 grd (!decide (10 = 0)) (iy V 56 [(iN (w6 (Int.tdiv a0_ (10))))] fun a b=>
 asS a fun c=>unn b (grd (!decide (10 = 0)) (iy V 56 [(iN (w6 (0 - Int.tmod a0_ (10))))] fun d e=>
 asS d fun f=>unn e (grd (decide (ni (ByteArray.size c + ByteArray.size f) <= LIM)) (some ((.str (c++f)),[])))))))
 (
 br (decide (a0_ < 10))
 (some ((.str (Utf8.encode (IntKind.wrap IntKind.i32 (w6 (48 + a0_))))),[]))
 (
 grd (!decide (10 = 0)) (iy V 56 [(iN (w6 (Int.tdiv a0_ (10))))] fun a b=>
 asS a fun c=>unn b (grd (!decide (10 = 0)) (grd (decide (ni (ByteArray.size c + ByteArray.size (Utf8.encode (IntKind.wrap IntKind.i32 (w6 (48 + Int.tmod a0_ (10)))))) <= LIM)) (some ((.str (c++Utf8.encode (IntKind.wrap IntKind.i32 (w6 (48 + Int.tmod a0_ (10)))))),[])))))))))
 (
 br (decide (a0_ < 0))
 (
 grd (!decide (10 = 0)) (iy V 56 [(iN (w6 (Int.tdiv a0_ (10))))] fun a b=>
 asS a fun c=>unn b (grd (!decide (10 = 0)) (iy V 56 [(iN (w6 (0 - Int.tmod a0_ (10))))] fun d e=>
 asS d fun f=>unn e (grd (decide (ni (ByteArray.size c + ByteArray.size f) <= LIM)) (some ((.str (c++f)),[])))))))
 (
 br (decide (a0_ < 10))
 (some ((.str (Utf8.encode (IntKind.wrap IntKind.i32 (w6 (48 + a0_))))),[]))
 (
 grd (!decide (10 = 0)) (iy V 56 [(iN (w6 (Int.tdiv a0_ (10))))] fun a b=>
 asS a fun c=>unn b (grd (!decide (10 = 0)) (grd (decide (ni (ByteArray.size c + ByteArray.size (Utf8.encode (IntKind.wrap IntKind.i32 (w6 (48 + Int.tmod a0_ (10)))))) <= LIM)) (some ((.str (c++Utf8.encode (IntKind.wrap IntKind.i32 (w6 (48 + Int.tmod a0_ (10)))))),[])))))))):=by
 exact (xE Try.func56 rfl _).trans (by kernel_rfl)
theorem CJ (p0:Int) (p1 p2:List D):yH p0 p1 p2 =
 br (decide (p0 >= 0))
 (
 grd (decide (0 <= p0) && decide (p0 < ni p2.length)) (cz p2 p0.toNat fun a=>
 asB a fun b=>br (!b)
 (yH (w6 (p0 - 1)) p1 p2)
 (
 grd (decide (0 <= p0) && decide (p0 < ni p1.length)) (cz p1 p0.toNat fun c=>
 tk1 c fun d _ _ e f=>(br (d == 5)
 (
 grd (decide (0 <= e) && decide (e < ni p2.length)) (cz p2 e.toNat fun _=>
 nam (List.set p2 e.toNat (D.bool true)) fun g=>
 grd (decide (0 <= f) && decide (f < ni g.length)) (cz g f.toNat fun _=>
 nam (List.set g f.toNat (D.bool true)) fun h=>
 yH (w6 (p0 - 1)) p1 h)))
 (
 br (d == 6)
 (
 br (d == 6)
 (
 grd (decide (0 <= e) && decide (e < ni p2.length)) (cz p2 e.toNat fun _=>
 nam (List.set p2 e.toNat (D.bool true)) fun g=>
 yH (w6 (p0 - 1)) p1 g))
 (yH (w6 (p0 - 1)) p1 p2))
 (
 br (d == 7)
 (
 grd (decide (0 <= e) && decide (e < ni p2.length)) (cz p2 e.toNat fun _=>
 nam (List.set p2 e.toNat (D.bool true)) fun g=>
 yH (w6 (p0 - 1)) p1 g))
 (yH (w6 (p0 - 1)) p1 p2))))))))
 (some ((.os (1,0) p2),[])):=by
 exact (xD _ _ _).trans (by kernel_rfl)
theorem zn (p0:ByteArray) (p1:List D) (p2 p3:Int) (p4 p5 p6:List D):yA p0 p1 p2 p3 p4 p5 p6 =
 br (decide (p2 >= 0))
 (
 grd (decide (0 <= p2) && decide (p2 < ni p1.length)) (cz p1 p2.toNat fun a=>
 jT (1,0) a fun b=>iy V 87 [.rs (1,0) b,.str p0] fun c d=>
 asI .i64 c fun e=>unn d (br (decide (e >= 0))
 (
 iy V 65 [.op [.os (5,0) p4,.os (4,0) p5,.os (3,0) p6,iN p3],(.agg [iN (2),(iN (w6 (w6 (ni p1.length - 1) - p2))),iN e,.str ({ data:=#[] })])] fun f g=>
 asI .i64 f fun _=>unc g fun h i=>tk2 h fun j k l m=>(unn i (some ((.tup []),[.op [.os (5,0) j,.os (4,0) k,.os (3,0) l,iN m]]))))
 (yA p0 p1 (w6 (p2 - 1)) p3 p4 p5 p6))))
 (
 iy V 65 [.op [.os (5,0) p4,.os (4,0) p5,.os (3,0) p6,iN p3],(.agg [iN (3),iN (0),iN (0),.str p0])] fun a b=>
 asI .i64 a fun _=>unc b fun c d=>tk2 c fun e f g h=>(unn d (some ((.tup []),[.op [.os (5,0) e,.os (4,0) f,.os (3,0) g,iN h]])))):=by
 exact (xD _ _ _).trans (by kernel_rfl)
theorem Kn (a0_ a1_ a2_:Int):V 101 [iN a0_,iN a1_,iN a2_] =
 br (a0_ == 1)
 (some ((.agg [iN (3),(iN (w6 (a1_ + a2_))),.str ({ data:=#[] }),iN (0),iN (0)]),[]))
 (
 br (a0_ == 2)
 (some ((.agg [iN (3),(iN (w6 (a1_ - a2_))),.str ({ data:=#[] }),iN (0),iN (0)]),[]))
 (
 br (a0_ == 3)
 (some ((.agg [iN (3),(iN (w6 (a1_ * a2_))),.str ({ data:=#[] }),iN (0),iN (0)]),[]))
 (
 br (a0_ == 4)
 (
 iy V 99 [(.bool (decide (a1_ < a2_)))] fun a b=>
 tk1 a fun c d e f g=>(unn b (some ((.agg [iN c,iN d,.str e,iN f,iN g]),[]))))
 (
 iy V 99 [.bool (a1_ == a2_)] fun a b=>
 tk1 a fun c d e f g=>(unn b (some ((.agg [iN c,iN d,.str e,iN f,iN g]),[]))))))):=by
 exact (xE Try.func101 rfl _).trans (by kernel_rfl)
theorem BF (p:List D) (m1 m2 m3 m4 m5 m6 m7:Int) (cp cl cd:List D) :V 68 [.op [.os (5,0) p,iN m1,iN m2,iN m3,iN m4,iN m5,iN m6,iN m7,.rs (5,0) cp,.rs (4,0) cl,.rs (3,0) cd]] =
 grd (decide (0 <= m2) && decide (m2 < ni p.length)) (cz p m2.toNat fun a=>
 tk1 a fun b _ _ c d=>(br (b != 5)
 (some ((.tup [iN (0),.bool false]),[.op [.os (5,0) p,iN m1,iN m2,iN m3,iN m4,iN m5,iN m6,iN m7,.rs (5,0) cp,.rs (4,0) cl,.rs (3,0) cd]]))
 (some ((.tup [iN c,.bool true]),[.op [.os (5,0) p,iN m1,iN d,iN m3,iN m4,iN m5,iN m6,iN m7,.rs (5,0) cp,.rs (4,0) cl,.rs (3,0) cd]])))):=by
 exact (xE Try.func68 rfl _).trans (by kernel_rfl)
theorem CQ (p l d:List D) (h:Int) (s:ByteArray) (e:List D):V 88 [.op [.os (5,0) p,.os (4,0) l,.os (3,0) d,iN h],.str s,.rs (1,1) e] =
 iy V 62 [.str s] fun a b=>
 asB a fun c=>unn b (br c
 (
 iy V 61 [.op [.os (5,0) p,.os (4,0) l,.os (3,0) d,iN h],iN (1)] fun f g=>
 il f fun i=>unn i (unc g fun j k=>tk2 j fun m n o q=>(unn k (some ((.tup []),[.op [.os (5,0) m,.os (4,0) n,.os (3,0) o,iN q]])))))
 (yA s e (w6 (ni e.length - 1)) h p l d)):=by
 exact (xE Try.func88 rfl _).trans (by kernel_rfl)
theorem B7 (p0:List D) (p1 p2:Int) (p3:List D):Ae p0 p1 p2 p3 =
 br (decide (p2 < p1))
 (
 grd (decide (0 <= p2) && decide (p2 < ni p0.length)) (cz p0 p2.toNat fun a=>
 tk1 a fun b c d e f=>(iy V 31 [.agg [iN b,iN c,.str d,iN e,iN f],iN p2] fun g h=>
 asB g fun i=>unn h (br (!i)
 (some ((.bool false),[]))
 (Ae p0 p1 (w6 (p2 + 1)) p3)))))
 (some ((.bool (decide (ni p3.length <= 3000))),[])):=by
 exact (xD _ _ _).trans (by kernel_rfl)
theorem DA (p0:List D) (p1 p2:Int) (p3 p4 p5:List D):Bg p0 p1 p2 p3 p4 p5 =
 br (decide (p2 < p1))
 (
 grd (decide (0 <= p2) && decide (p2 < ni p0.length)) (cz p0 p2.toNat fun a=>
 asI .i64 a fun b=>grd (decide (0 <= b) && decide (b < ni p3.length)) (cz p3 b.toNat fun c=>
 asI .i64 c fun d=>grd (decide (ni (List.length (p4++[iN d])) <= LIM)) (nam (p4++[iN d]) fun e=>
 Bg p0 p1 (w6 (p2 + 1)) p3 e p5))))
 (some ((.tup [.agg [.os (5,0) p5],.os (1,0) p4]),[])):=by
 exact (xD _ _ _).trans (by kernel_rfl)
theorem Km (a0_:ByteArray) (a1_:Int):V 60 [.str a0_,iN a1_] =
 br (jJ a0_ { data:=#[] })
 (some ((.tup [iN (0),.bool false]),[]))
 (
 br (decide (ni (ByteArray.size a0_) > a1_))
 (some ((.tup [iN (0),.bool false]),[]))
 (
 grd (decide (0 <= 0) && decide (0 < ni (ByteArray.size a0_))) (br (bt a0_ (0) == 48)
 (
 br (decide (ni (ByteArray.size a0_) > 1))
 (some ((.tup [iN (0),.bool false]),[]))
 (y0 a0_ (0) (ni (ByteArray.size a0_)) (0)))
 (y0 a0_ (0) (ni (ByteArray.size a0_)) (0))))):=by
 exact (xE Try.func60 rfl _).trans (by kernel_rfl)
theorem EZ (p q:List D) (v:Int):V 72 [.op [.os (5,0) p],.agg [.rs (5,0) q],iN v] =
 iy V 80 [.op [.os (5,0) p],(.agg [.rs (5,0) q]),.rs (1,0) [iN v]] fun a b=>
 iK (
 1,0) a fun c=>unc b fun d e=>mJ d fun f=>unc f fun g h=>iK (5,0) g fun i=>unn h (unn e (grd (decide (0 <= v) && decide (v < ni c.length)) (cz c v.toNat fun j=>
 asI .i64 j fun k=>some ((iN k),[.op [.os (5,0) i]])))):=by
 exact (xE Try.func72 rfl _).trans (by kernel_rfl)
theorem y5 (p0:List D) (p1:ByteArray) (p2 p3:Int):yr p0 p1 p2 p3 =
 br (decide (p3 < p2))
 (
 grd (decide (0 <= p3) && decide (p3 < ni p0.length)) (cz p0 p3.toNat fun a=>
 asS a fun b=>br (jJ p1 b)
 (some ((iN p3),[]))
 (yr p0 p1 p2 (w6 (p3 + 1)))))
 (some ((iN (-1)),[])):=by
 exact (xD _ _ _).trans (by kernel_rfl)
theorem Kq (a0_:ByteArray):V 62 [.str a0_] =
 iy V 77 [.rs (1,0) [.str ({ data:=#[113,117,111,116,101] }),.str ({ data:=#[105,102] }),.str ({ data:=#[102,110] }),.str ({ data:=#[100,111] }),.str ({ data:=#[108,101,116] }),.str ({ data:=#[100,101,102,105,110,101] })],.str a0_] fun a b=>
 asB a fun c=>unn b (some ((.bool c),[])):=by
 exact (xE Try.func62 rfl _).trans (by kernel_rfl)
theorem Kj (a0_0 a0_1 a0_2:List D) (a1_:Int):V 48 [.agg [.rs (5,0) a0_0,.rs (4,0) a0_1,.rs (3,0) a0_2],iN a1_] =
 iy V 39 [iN a1_,iN (0),(iN (w6 (ni a0_1.length - 1)))] fun a b=>
 asB a fun c=>unn b (some ((.bool c),[])):=by
 exact (xE Try.func48 rfl _).trans (by kernel_rfl)
theorem Lm (a0_:ByteArray):V 45 [.str a0_] =
 iy V 39 [(iN (ni (ByteArray.size a0_))),iN (1),iN (12)] fun a b=>
 asB a fun c=>unn b (br (!c)
 (some ((.bool false),[]))
 (zw a0_ (ni (ByteArray.size a0_)) (0))):=by
 exact (xE Try.func45 rfl _).trans (by kernel_rfl)
theorem DG (l p:List D):V 18 [.rs (1,0) l,.fn 19 [.bp [.rs (5,0) p]]] =
 iy V 38 [.rs (1,0) l,(.fn 19 [(.bp [.rs (5,0) p])])] fun a b=>
 asI .i64 a fun c=>unn b (some ((.bool (decide (c >= 0))),[])):=by
 exact (xE Try.func18 rfl _).trans (by kernel_rfl)
theorem BG (a0_:List D) (a1_:Int):V 76 [.rs (1,0) a0_,.int .u8 a1_] =
 iy V 86 [.rs (1,0) a0_,.int .u8 a1_] fun a b=>
 asI .i64 a fun c=>unn b (some ((.bool (decide (c >= 0))),[])):=by
 exact (xE Try.func76 rfl _).trans (by kernel_rfl)
theorem NQ (r:Int) (p:List D):V 79 [iN r,.bp [.rs (5,0) p]] =
 iy V 20 [.agg [.rs (5,0) p],iN r] fun a b=>
 asB a fun c=>unn b (some ((.bool (!c)),[])):=by
 exact (xE Try.func79 rfl _).trans (by kernel_rfl)
theorem CT (a0_:List D) (a1_:Int):V 86 [.rs (1,0) a0_,.int .u8 a1_] =
 yB a0_ a1_ (ni a0_.length) (0):=by
 exact (xE Try.func86 rfl _).trans (by kernel_rfl)
theorem CM (l:List D) (s:ByteArray):V 46 [.rs (3,0) l,.fn 47 [.bp [.str s]]] =
 zl l s (ni l.length) (0):=by
 exact (xE Try.func46 rfl _).trans (by kernel_rfl)
theorem Px (a0_:List D):V 7 [.rs (1,0) a0_] =
 some ((.bool (decide (ni a0_.length > 1048576))),[]):=by
 exact (xE Try.func7 rfl _).trans (by kernel_rfl)

end Go.Eng
/-! a call and its results,taken in one step -/
namespace Go.Eng
open Go.Proofs
theorem xZ {ds:List D} {v2:Int} {v8 v11 v14:List D} {v17:Int} (h:V 65 ds = some (iN v2,[.op [.os (5,0) v8,.os (4,0) v11,.os (3,0) v14,iN v17]])) (K:Int->List D->List D->List D->Int->Option Ret):iy V 65 ds (fun v0 v1=>asI .i64 v0 fun v2=>unc v1 fun v3 v4=>tk2 v3 fun v8 v11 v14 v17=>(unn v4 ((K v2 v8 v11 v14 v17)))) = K v2 v8 v11 v14 v17:=(vY h _).trans rfl
theorem Ga {ds v8 v11 v14:List D} {v17:Int} (h:V 94 ds = some (.tup [],[.op [.os (5,0) v8,.os (4,0) v11,.os (3,0) v14,iN v17]])) (K:List D->List D->List D->Int->Option Ret):iy V 94 ds (fun v0 v1=>il v0 fun v2=>unn v2 (unc v1 fun v3 v4=>tk2 v3 fun v8 v11 v14 v17=>(unn v4 ((K v8 v11 v14 v17))))) = K v8 v11 v14 v17:=(vY h _).trans rfl
theorem CZ {ds v8 v11 v14:List D} {v17:Int} (h:V 64 ds = some (.tup [],[.op [.os (5,0) v8,.os (4,0) v11,.os (3,0) v14,iN v17]])) (K:List D->List D->List D->Int->Option Ret):iy V 64 ds (fun v0 v1=>il v0 fun v2=>unn v2 (unc v1 fun v3 v4=>tk2 v3 fun v8 v11 v14 v17=>(unn v4 ((K v8 v11 v14 v17))))) = K v8 v11 v14 v17:=(vY h _).trans rfl
theorem zi {ds v5:List D} {v8:Bool} {v14:List D} (h:V 40 ds = some (.tup [.os (1,0) v5,.bool v8],[.op [.os (5,0) v14]])) (K:List D->Bool->List D->Option Ret):iy V 40 ds (fun v0 v1=>tk3 v0 fun v5 v8=>(unc v1 fun v9 v10=>mJ v9 fun v11=>unc v11 fun v12 v13=>iK (5,0) v12 fun v14=>unn v13 (unn v10 ((K v5 v8 v14))))) = K v5 v8 v14:=(vY h _).trans rfl
theorem Al {ds v5:List D} {v8:Int} {v14 v17 v20:List D} {v23:Int} (h:V 63 ds = some (.tup [.os (1,0) v5,iN v8],[.op [.os (5,0) v14,.os (4,0) v17,.os (3,0) v20,iN v23]])) (K:List D->Int->List D->List D->List D->Int->Option Ret):iy V 63 ds (fun v0 v1=>tk4 v0 fun v5 v8=>(unc v1 fun v9 v10=>tk2 v9 fun v14 v17 v20 v23=>(unn v10 ((K v5 v8 v14 v17 v20 v23))))) = K v5 v8 v14 v17 v20 v23:=(vY h _).trans rfl
theorem AP {ds v8 v11 v14:List D} {v17:Int} (h:V 95 ds = some (.tup [],[.op [.os (5,0) v8,.os (4,0) v11,.os (3,0) v14,iN v17]])) (K:List D->List D->List D->Int->Option Ret):iy V 95 ds (fun v0 v1=>il v0 fun v2=>unn v2 (unc v1 fun v3 v4=>tk2 v3 fun v8 v11 v14 v17=>(unn v4 ((K v8 v11 v14 v17))))) = K v8 v11 v14 v17:=(vY h _).trans rfl
theorem yF {ds v8 v11 v14:List D} {v17:Int} (h:V 78 ds = some (.tup [],[.op [.os (5,0) v8,.os (4,0) v11,.os (3,0) v14,iN v17]])) (K:List D->List D->List D->Int->Option Ret):iy V 78 ds (fun v0 v1=>il v0 fun v2=>unn v2 (unc v1 fun v3 v4=>tk2 v3 fun v8 v11 v14 v17=>(unn v4 ((K v8 v11 v14 v17))))) = K v8 v11 v14 v17:=(vY h _).trans rfl
theorem Eh {ds v8 v11 v14:List D} {v17:Int} (h:V 88 ds = some (.tup [],[.op [.os (5,0) v8,.os (4,0) v11,.os (3,0) v14,iN v17]])) (K:List D->List D->List D->Int->Option Ret):iy V 88 ds (fun v0 v1=>il v0 fun v2=>unn v2 (unc v1 fun v3 v4=>tk2 v3 fun v8 v11 v14 v17=>(unn v4 ((K v8 v11 v14 v17))))) = K v8 v11 v14 v17:=(vY h _).trans rfl
theorem zm {ds:List D} {v5:ByteArray} {v8:Bool} {v14 v17 v20:List D} {v23:Int} (h:V 41 ds = some (.tup [.str v5,.bool v8],[.op [.os (5,0) v14,.os (4,0) v17,.os (3,0) v20,iN v23]])) (K:ByteArray->Bool->List D->List D->List D->Int->Option Ret):iy V 41 ds (fun v0 v1=>tk5 v0 fun v5 v8=>(unc v1 fun v9 v10=>tk2 v9 fun v14 v17 v20 v23=>(unn v10 ((K v5 v8 v14 v17 v20 v23))))) = K v5 v8 v14 v17 v20 v23:=(vY h _).trans rfl
theorem Bn {ds:List D} {v2:Bool} (h:V 62 ds = some (.bool v2,[])) (K:Bool->Option Ret):iy V 62 ds (fun v0 v1=>asB v0 fun v2=>unn v1 ((K v2))) = K v2:=(vY h _).trans rfl
theorem GY {ds v8 v11 v14:List D} {v17:Int} (h:V 89 ds = some (.tup [],[.op [.os (5,0) v8,.os (4,0) v11,.os (3,0) v14,iN v17]])) (K:List D->List D->List D->Int->Option Ret):iy V 89 ds (fun v0 v1=>il v0 fun v2=>unn v2 (unc v1 fun v3 v4=>tk2 v3 fun v8 v11 v14 v17=>(unn v4 ((K v8 v11 v14 v17))))) = K v8 v11 v14 v17:=(vY h _).trans rfl
theorem Ch {ds:List D} {v2:Bool} (h:V 20 ds = some (.bool v2,[])) (K:Bool->Option Ret):iy V 20 ds (fun v0 v1=>asB v0 fun v2=>unn v1 ((K v2))) = K v2:=(vY h _).trans rfl
theorem yh {ds:List D} {v2:Bool} (h:V 39 ds = some (.bool v2,[])) (K:Bool->Option Ret):iy V 39 ds (fun v0 v1=>asB v0 fun v2=>unn v1 ((K v2))) = K v2:=(vY h _).trans rfl
theorem Ir {ds:List D} {v2:Bool} (h:V 45 ds = some (.bool v2,[])) (K:Bool->Option Ret):iy V 45 ds (fun v0 v1=>asB v0 fun v2=>unn v1 ((K v2))) = K v2:=(vY h _).trans rfl
theorem yp {ds:List D} {v2:Bool} (h:V 48 ds = some (.bool v2,[])) (K:Bool->Option Ret):iy V 48 ds (fun v0 v1=>asB v0 fun v2=>unn v1 ((K v2))) = K v2:=(vY h _).trans rfl
theorem yL {ds v8:List D} {v11 v14 v17 v20 v23 v26 v29:Int} {v32 v35 v38:List D} (h:V 71 ds = some (.tup [],[.op [.os (5,0) v8,iN v11,iN v14,iN v17,iN v20,iN v23,iN v26,iN v29,.rs (5,0) v32,.rs (4,0) v35,.rs (3,0) v38]])) (K:List D->Int->Int->Int->Int->Int->Int->Int->List D->List D->List D->Option Ret):iy V 71 ds (fun v0 v1=>il v0 fun v2=>unn v2 (unc v1 fun v3 v4=>tk6 v3 fun v8 v11 v14 v17 v20 v23 v26 v29 v32 v35 v38=>(unn v4 ((K v8 v11 v14 v17 v20 v23 v26 v29 v32 v35 v38))))) = K v8 v11 v14 v17 v20 v23 v26 v29 v32 v35 v38:=(vY h _).trans rfl
theorem Dn {ds v8 v11 v14:List D} {v17:Int} (h:V 42 ds = some (.tup [],[.op [.os (5,0) v8,.os (4,0) v11,.os (3,0) v14,iN v17]])) (K:List D->List D->List D->Int->Option Ret):iy V 42 ds (fun v0 v1=>il v0 fun v2=>unn v2 (unc v1 fun v3 v4=>tk2 v3 fun v8 v11 v14 v17=>(unn v4 ((K v8 v11 v14 v17))))) = K v8 v11 v14 v17:=(vY h _).trans rfl
theorem yW {ds v8 v11 v14:List D} {v17:Int} (h:V 43 ds = some (.tup [],[.op [.os (5,0) v8,.os (4,0) v11,.os (3,0) v14,iN v17]])) (K:List D->List D->List D->Int->Option Ret):iy V 43 ds (fun v0 v1=>il v0 fun v2=>unn v2 (unc v1 fun v3 v4=>tk2 v3 fun v8 v11 v14 v17=>(unn v4 ((K v8 v11 v14 v17))))) = K v8 v11 v14 v17:=(vY h _).trans rfl
theorem Ax {ds v8 v11 v14:List D} {v17:Int} (h:V 97 ds = some (.tup [],[.op [.os (5,0) v8,.os (4,0) v11,.os (3,0) v14,iN v17]])) (K:List D->List D->List D->Int->Option Ret):iy V 97 ds (fun v0 v1=>il v0 fun v2=>unn v2 (unc v1 fun v3 v4=>tk2 v3 fun v8 v11 v14 v17=>(unn v4 ((K v8 v11 v14 v17))))) = K v8 v11 v14 v17:=(vY h _).trans rfl
theorem AR {ds v2:List D} (h:V 98 ds = some (.os (1,1) v2,[])) (K:List D->Option Ret):iy V 98 ds (fun v0 v1=>iK (1,1) v0 fun v2=>unn v1 ((K v2))) = K v2:=(vY h _).trans rfl
theorem Ej {ds:List D} {v2:Bool} (h:V 24 ds = some (.bool v2,[])) (K:Bool->Option Ret):iy V 24 ds (fun v0 v1=>asB v0 fun v2=>unn v1 ((K v2))) = K v2:=(vY h _).trans rfl
theorem PO {ds v5:List D} {v8 v11 v14 v17 v20 v23 v26:Int} (h:V 25 ds = some (.agg [.os (5,0) v5,iN v8,iN v11,iN v14,iN v17,iN v20,iN v23,iN v26],[])) (K:List D->Int->Int->Int->Int->Int->Int->Int->Option Ret):iy V 25 ds (fun v0 v1=>tk7 v0 fun v5 v8 v11 v14 v17 v20 v23 v26=>(unn v1 ((K v5 v8 v11 v14 v17 v20 v23 v26)))) = K v5 v8 v11 v14 v17 v20 v23 v26:=(vY h _).trans rfl
theorem zF {ds v5:List D} {v8 v11 v14 v17 v20 v23 v26:Int} (h:V 26 ds = some (.agg [.os (5,0) v5,iN v8,iN v11,iN v14,iN v17,iN v20,iN v23,iN v26],[])) (K:List D->Int->Int->Int->Int->Int->Int->Int->Option Ret):iy V 26 ds (fun v0 v1=>tk7 v0 fun v5 v8 v11 v14 v17 v20 v23 v26=>(unn v1 ((K v5 v8 v11 v14 v17 v20 v23 v26)))) = K v5 v8 v11 v14 v17 v20 v23 v26:=(vY h _).trans rfl
theorem IK {ds v8 v11 v14:List D} {v17:Int} (h:V 21 ds = some (.tup [],[.op [.os (5,0) v8,.os (4,0) v11,.os (3,0) v14,iN v17]])) (K:List D->List D->List D->Int->Option Ret):iy V 21 ds (fun v0 v1=>il v0 fun v2=>unn v2 (unc v1 fun v3 v4=>tk2 v3 fun v8 v11 v14 v17=>(unn v4 ((K v8 v11 v14 v17))))) = K v8 v11 v14 v17:=(vY h _).trans rfl
theorem MO {ds:List D} {v2:Bool} (h:V 22 ds = some (.bool v2,[])) (K:Bool->Option Ret):iy V 22 ds (fun v0 v1=>asB v0 fun v2=>unn v1 ((K v2))) = K v2:=(vY h _).trans rfl
theorem AQ {ds:List D} {v2:Bool} (h:V 15 ds = some (.bool v2,[])) (K:Bool->Option Ret):iy V 15 ds (fun v0 v1=>asB v0 fun v2=>unn v1 ((K v2))) = K v2:=(vY h _).trans rfl
theorem Bj {ds:List D} {v2:Int} {v8:List D} (h:V 75 ds = some (iN v2,[.op [.os (5,0) v8]])) (K:Int->List D->Option Ret):iy V 75 ds (fun v0 v1=>asI .i64 v0 fun v2=>unc v1 fun v3 v4=>mJ v3 fun v5=>unc v5 fun v6 v7=>iK (5,0) v6 fun v8=>unn v7 (unn v4 ((K v2 v8)))) = K v2 v8:=(vY h _).trans rfl
theorem JD {ds:List D} {v2:Bool} (h:V 79 ds = some (.bool v2,[])) (K:Bool->Option Ret):iy V 79 ds (fun v0 v1=>asB v0 fun v2=>unn v1 ((K v2))) = K v2:=(vY h _).trans rfl
theorem yg {ds:List D} {v2:Int} {v8:List D} (h:V 37 ds = some (iN v2,[.op [.os (5,0) v8]])) (K:Int->List D->Option Ret):iy V 37 ds (fun v0 v1=>asI .i64 v0 fun v2=>unc v1 fun v3 v4=>mJ v3 fun v5=>unc v5 fun v6 v7=>iK (5,0) v6 fun v8=>unn v7 (unn v4 ((K v2 v8)))) = K v2 v8:=(vY h _).trans rfl
theorem Og {ds v2:List D} (h:V 90 ds = some (.os (1,0) v2,[])) (K:List D->Option Ret):iy V 90 ds (fun v0 v1=>iK (1,0) v0 fun v2=>unn v1 ((K v2))) = K v2:=(vY h _).trans rfl
theorem zt {ds:List D} {v2:Int} (h:V 38 ds = some (iN v2,[])) (K:Int->Option Ret):iy V 38 ds (fun v0 v1=>asI .i64 v0 fun v2=>unn v1 ((K v2))) = K v2:=(vY h _).trans rfl
theorem yK {ds:List D} {v2:Int} (h:V 87 ds = some (iN v2,[])) (K:Int->Option Ret):iy V 87 ds (fun v0 v1=>asI .i64 v0 fun v2=>unn v1 ((K v2))) = K v2:=(vY h _).trans rfl
theorem QR {ds:List D} {v2:Bool} (h:V 7 ds = some (.bool v2,[])) (K:Bool->Option Ret):iy V 7 ds (fun v0 v1=>asB v0 fun v2=>unn v1 ((K v2))) = K v2:=(vY h _).trans rfl
theorem O7 {ds:List D} {v2:Int} (h:V 12 ds = some (iN v2,[])) (K:Int->Option Ret):iy V 12 ds (fun v0 v1=>asI .i64 v0 fun v2=>unn v1 ((K v2))) = K v2:=(vY h _).trans rfl
theorem yl {ds:List D} {v2:ByteArray} (h:V 14 ds = some (.str v2,[])) (K:ByteArray->Option Ret):iy V 14 ds (fun v0 v1=>asS v0 fun v2=>unn v1 ((K v2))) = K v2:=(vY h _).trans rfl
theorem PM {ds v8 v11:List D} {v14 v17:Int} (h:V 8 ds = some (.tup [.agg [.os (5,0) v8],.os (1,0) v11,iN v14,iN v17],[])) (K:List D->List D->Int->Int->Option Ret):iy V 8 ds (fun v0 v1=>il v0 fun v2=>unc v2 fun v3 v4=>asAgg v3 fun v5=>unc v5 fun v6 v7=>iK (5,0) v6 fun v8=>unn v7 (unc v4 fun v9 v10=>iK (1,0) v9 fun v11=>unc v10 fun v12 v13=>asI .i64 v12 fun v14=>unc v13 fun v15 v16=>asI .i64 v15 fun v17=>unn v16 (unn v1 ((K v8 v11 v14 v17))))) = K v8 v11 v14 v17:=(vY h _).trans rfl
theorem LM {ds v8 v11 v14:List D} {v17 v20:Int} (h:V 9 ds = some (.tup [.agg [.os (5,0) v8,.os (4,0) v11,.os (3,0) v14],iN v17,iN v20],[])) (K:List D->List D->List D->Int->Int->Option Ret):iy V 9 ds (fun v0 v1=>il v0 fun v2=>unc v2 fun v3 v4=>tk8 v3 fun v8 v11 v14=>(unc v4 fun v15 v16=>asI .i64 v15 fun v17=>unc v16 fun v18 v19=>asI .i64 v18 fun v20=>unn v19 (unn v1 ((K v8 v11 v14 v17 v20))))) = K v8 v11 v14 v17 v20:=(vY h _).trans rfl
theorem IL {ds v8:List D} {v11 v14 v17 v20 v23 v26 v29:Int} {v32:Bool} (h:V 10 ds = some (.tup [.agg [.os (5,0) v8,iN v11,iN v14,iN v17,iN v20,iN v23,iN v26,iN v29],.bool v32],[])) (K:List D->Int->Int->Int->Int->Int->Int->Int->Bool->Option Ret):iy V 10 ds (fun v0 v1=>il v0 fun v2=>unc v2 fun v3 v4=>tk7 v3 fun v8 v11 v14 v17 v20 v23 v26 v29=>(unc v4 fun v30 v31=>asB v30 fun v32=>unn v31 (unn v1 ((K v8 v11 v14 v17 v20 v23 v26 v29 v32))))) = K v8 v11 v14 v17 v20 v23 v26 v29 v32:=(vY h _).trans rfl
theorem MR {ds v8:List D} {v11 v14 v17 v20 v23 v26 v29 v32:Int} (h:V 11 ds = some (.tup [.agg [.os (5,0) v8,iN v11,iN v14,iN v17,iN v20,iN v23,iN v26,iN v29],iN v32],[])) (K:List D->Int->Int->Int->Int->Int->Int->Int->Int->Option Ret):iy V 11 ds (fun v0 v1=>il v0 fun v2=>unc v2 fun v3 v4=>tk7 v3 fun v8 v11 v14 v17 v20 v23 v26 v29=>(unc v4 fun v30 v31=>asI .i64 v30 fun v32=>unn v31 (unn v1 ((K v8 v11 v14 v17 v20 v23 v26 v29 v32))))) = K v8 v11 v14 v17 v20 v23 v26 v29 v32:=(vY h _).trans rfl
theorem JA {ds:List D} {v2:ByteArray} (h:V 13 ds = some (.str v2,[])) (K:ByteArray->Option Ret):iy V 13 ds (fun v0 v1=>asS v0 fun v2=>unn v1 ((K v2))) = K v2:=(vY h _).trans rfl
theorem Dp {ds:List D} {v2:Bool} (h:V 59 ds = some (.bool v2,[])) (K:Bool->Option Ret):iy V 59 ds (fun v0 v1=>asB v0 fun v2=>unn v1 ((K v2))) = K v2:=(vY h _).trans rfl
theorem Bm {ds:List D} {v5:Int} {v8:Bool} (h:V 60 ds = some (.tup [iN v5,.bool v8],[])) (K:Int->Bool->Option Ret):iy V 60 ds (fun v0 v1=>tk9 v0 fun v5 v8=>(unn v1 ((K v5 v8)))) = K v5 v8:=(vY h _).trans rfl
theorem Jz {ds:List D} {v2:Int} (h:V 23 ds = some (iN v2,[])) (K:Int->Option Ret):iy V 23 ds (fun v0 v1=>asI .i64 v0 fun v2=>unn v1 ((K v2))) = K v2:=(vY h _).trans rfl
theorem MQ {ds:List D} {v2:Int} (h:V 85 ds = some (iN v2,[])) (K:Int->Option Ret):iy V 85 ds (fun v0 v1=>asI .i64 v0 fun v2=>unn v1 ((K v2))) = K v2:=(vY h _).trans rfl
theorem C5 {ds:List D} {v2:Bool} {v8 v11 v14:List D} (h:V 33 ds = some (.bool v2,[.op [.os (5,0) v8,.os (1,2) v11,.os (1,0) v14]])) (K:Bool->List D->List D->List D->Option Ret):iy V 33 ds (fun v0 v1=>asB v0 fun v2=>unc v1 fun v3 v4=>JW v3 fun v8 v11 v14=>(unn v4 ((K v2 v8 v11 v14)))) = K v2 v8 v11 v14:=(vY h _).trans rfl
theorem DC {ds:List D} {v2:Bool} (h:V 34 ds = some (.bool v2,[])) (K:Bool->Option Ret):iy V 34 ds (fun v0 v1=>asB v0 fun v2=>unn v1 ((K v2))) = K v2:=(vY h _).trans rfl
theorem Ak {ds:List D} {v2:Int} {v8:List D} (h:V 57 ds = some (iN v2,[.op [.os (5,0) v8]])) (K:Int->List D->Option Ret):iy V 57 ds (fun v0 v1=>asI .i64 v0 fun v2=>unc v1 fun v3 v4=>mJ v3 fun v5=>unc v5 fun v6 v7=>iK (5,0) v6 fun v8=>unn v7 (unn v4 ((K v2 v8)))) = K v2 v8:=(vY h _).trans rfl
theorem BI {ds v8 v11 v14:List D} (h:V 36 ds = some (.tup [],[.op [.os (5,0) v8,.os (1,2) v11,.os (1,0) v14]])) (K:List D->List D->List D->Option Ret):iy V 36 ds (fun v0 v1=>il v0 fun v2=>unn v2 (unc v1 fun v3 v4=>JW v3 fun v8 v11 v14=>(unn v4 ((K v8 v11 v14))))) = K v8 v11 v14:=(vY h _).trans rfl
theorem zj {ds:List D} {v2:Bool} (h:V 18 ds = some (.bool v2,[])) (K:Bool->Option Ret):iy V 18 ds (fun v0 v1=>asB v0 fun v2=>unn v1 ((K v2))) = K v2:=(vY h _).trans rfl
theorem zP {ds v5:List D} (h:V 16 ds = some (.agg [.os (5,0) v5],[])) (K:List D->Option Ret):iy V 16 ds (fun v0 v1=>asAgg v0 fun v2=>unc v2 fun v3 v4=>iK (5,0) v3 fun v5=>unn v4 (unn v1 ((K v5)))) = K v5:=(vY h _).trans rfl
theorem DB {ds:List D} {v2:Bool} (h:V 58 ds = some (.bool v2,[])) (K:Bool->Option Ret):iy V 58 ds (fun v0 v1=>asB v0 fun v2=>unn v1 ((K v2))) = K v2:=(vY h _).trans rfl
theorem JB {ds v2:List D} (h:V 93 ds = some (.os (1,0) v2,[])) (K:List D->Option Ret):iy V 93 ds (fun v0 v1=>iK (1,0) v0 fun v2=>unn v1 ((K v2))) = K v2:=(vY h _).trans rfl
theorem BJ {ds:List D} {v2:Int} {v8:List D} {v11 v14 v17 v20 v23 v26 v29:Int} {v32 v35 v38:List D} (h:V 50 ds = some (iN v2,[.op [.os (5,0) v8,iN v11,iN v14,iN v17,iN v20,iN v23,iN v26,iN v29,.rs (5,0) v32,.rs (4,0) v35,.rs (3,0) v38]])) (K:Int->List D->Int->Int->Int->Int->Int->Int->Int->List D->List D->List D->Option Ret):iy V 50 ds (fun v0 v1=>asI .i64 v0 fun v2=>unc v1 fun v3 v4=>tk6 v3 fun v8 v11 v14 v17 v20 v23 v26 v29 v32 v35 v38=>(unn v4 ((K v2 v8 v11 v14 v17 v20 v23 v26 v29 v32 v35 v38)))) = K v2 v8 v11 v14 v17 v20 v23 v26 v29 v32 v35 v38:=(vY h _).trans rfl
theorem Aa {ds v5:List D} {v8 v11 v14 v17 v20 v23 v26:Int} (h:V 53 ds = some (.agg [.os (5,0) v5,iN v8,iN v11,iN v14,iN v17,iN v20,iN v23,iN v26],[])) (K:List D->Int->Int->Int->Int->Int->Int->Int->Option Ret):iy V 53 ds (fun v0 v1=>tk7 v0 fun v5 v8 v11 v14 v17 v20 v23 v26=>(unn v1 ((K v5 v8 v11 v14 v17 v20 v23 v26)))) = K v5 v8 v11 v14 v17 v20 v23 v26:=(vY h _).trans rfl
theorem DE {ds:List D} {v2:Int} {v8:List D} {v11 v14 v17 v20 v23 v26 v29:Int} {v32 v35 v38:List D} (h:V 51 ds = some (iN v2,[.op [.os (5,0) v8,iN v11,iN v14,iN v17,iN v20,iN v23,iN v26,iN v29,.rs (5,0) v32,.rs (4,0) v35,.rs (3,0) v38]])) (K:Int->List D->Int->Int->Int->Int->Int->Int->Int->List D->List D->List D->Option Ret):iy V 51 ds (fun v0 v1=>asI .i64 v0 fun v2=>unc v1 fun v3 v4=>tk6 v3 fun v8 v11 v14 v17 v20 v23 v26 v29 v32 v35 v38=>(unn v4 ((K v2 v8 v11 v14 v17 v20 v23 v26 v29 v32 v35 v38)))) = K v2 v8 v11 v14 v17 v20 v23 v26 v29 v32 v35 v38:=(vY h _).trans rfl
theorem C7 {ds:List D} {v2:Int} {v8:List D} {v11 v14 v17 v20 v23 v26 v29:Int} {v32 v35 v38:List D} (h:V 52 ds = some (iN v2,[.op [.os (5,0) v8,iN v11,iN v14,iN v17,iN v20,iN v23,iN v26,iN v29,.rs (5,0) v32,.rs (4,0) v35,.rs (3,0) v38]])) (K:Int->List D->Int->Int->Int->Int->Int->Int->Int->List D->List D->List D->Option Ret):iy V 52 ds (fun v0 v1=>asI .i64 v0 fun v2=>unc v1 fun v3 v4=>tk6 v3 fun v8 v11 v14 v17 v20 v23 v26 v29 v32 v35 v38=>(unn v4 ((K v2 v8 v11 v14 v17 v20 v23 v26 v29 v32 v35 v38)))) = K v2 v8 v11 v14 v17 v20 v23 v26 v29 v32 v35 v38:=(vY h _).trans rfl
theorem FA {ds:List D} {v8 v11:Int} {v14:ByteArray} {v17 v20:Int} {v23:Bool} (h:V 35 ds = some (.tup [.agg [iN v8,iN v11,.str v14,iN v17,iN v20],.bool v23],[])) (K:Int->Int->ByteArray->Int->Int->Bool->Option Ret):iy V 35 ds (fun v0 v1=>il v0 fun v2=>unc v2 fun v3 v4=>tk1 v3 fun v8 v11 v14 v17 v20=>(unc v4 fun v21 v22=>asB v21 fun v23=>unn v22 (unn v1 ((K v8 v11 v14 v17 v20 v23))))) = K v8 v11 v14 v17 v20 v23:=(vY h _).trans rfl
theorem DD {ds:List D} {v5 v8:Int} {v14 v17 v20:List D} (h:V 17 ds = some (.tup [iN v5,iN v8],[.op [.os (5,0) v14,.os (1,2) v17,.os (1,0) v20]])) (K:Int->Int->List D->List D->List D->Option Ret):iy V 17 ds (fun v0 v1=>Qf v0 fun v5 v8=>(unc v1 fun v9 v10=>JW v9 fun v14 v17 v20=>(unn v10 ((K v5 v8 v14 v17 v20))))) = K v5 v8 v14 v17 v20:=(vY h _).trans rfl
theorem LN {ds v2:List D} (h:V 102 ds = some (.os (1,0) v2,[])) (K:List D->Option Ret):iy V 102 ds (fun v0 v1=>iK (1,0) v0 fun v2=>unn v1 ((K v2))) = K v2:=(vY h _).trans rfl
theorem y7 {ds:List D} {v2:Bool} (h:V 77 ds = some (.bool v2,[])) (K:Bool->Option Ret):iy V 77 ds (fun v0 v1=>asB v0 fun v2=>unn v1 ((K v2))) = K v2:=(vY h _).trans rfl
theorem Ef {ds v2 v8:List D} (h:V 80 ds = some (.os (1,0) v2,[.op [.os (5,0) v8]])) (K:List D->List D->Option Ret):iy V 80 ds (fun v0 v1=>iK (1,0) v0 fun v2=>unc v1 fun v3 v4=>mJ v3 fun v5=>unc v5 fun v6 v7=>iK (5,0) v6 fun v8=>unn v7 (unn v4 ((K v2 v8)))) = K v2 v8:=(vY h _).trans rfl
theorem GX {ds:List D} {v2:Int} {v8:List D} (h:V 72 ds = some (iN v2,[.op [.os (5,0) v8]])) (K:Int->List D->Option Ret):iy V 72 ds (fun v0 v1=>asI .i64 v0 fun v2=>unc v1 fun v3 v4=>mJ v3 fun v5=>unc v5 fun v6 v7=>iK (5,0) v6 fun v8=>unn v7 (unn v4 ((K v2 v8)))) = K v2 v8:=(vY h _).trans rfl
theorem Ba {ds:List D} {v2:Int} {v8:List D} {v11 v14 v17 v20 v23 v26 v29:Int} {v32 v35 v38:List D} (h:V 73 ds = some (iN v2,[.op [.os (5,0) v8,iN v11,iN v14,iN v17,iN v20,iN v23,iN v26,iN v29,.rs (5,0) v32,.rs (4,0) v35,.rs (3,0) v38]])) (K:Int->List D->Int->Int->Int->Int->Int->Int->Int->List D->List D->List D->Option Ret):iy V 73 ds (fun v0 v1=>asI .i64 v0 fun v2=>unc v1 fun v3 v4=>tk6 v3 fun v8 v11 v14 v17 v20 v23 v26 v29 v32 v35 v38=>(unn v4 ((K v2 v8 v11 v14 v17 v20 v23 v26 v29 v32 v35 v38)))) = K v2 v8 v11 v14 v17 v20 v23 v26 v29 v32 v35 v38:=(vY h _).trans rfl
theorem Ci {ds:List D} {v2:Int} {v8:List D} {v11 v14 v17 v20 v23 v26 v29:Int} {v32 v35 v38:List D} (h:V 74 ds = some (iN v2,[.op [.os (5,0) v8,iN v11,iN v14,iN v17,iN v20,iN v23,iN v26,iN v29,.rs (5,0) v32,.rs (4,0) v35,.rs (3,0) v38]])) (K:Int->List D->Int->Int->Int->Int->Int->Int->Int->List D->List D->List D->Option Ret):iy V 74 ds (fun v0 v1=>asI .i64 v0 fun v2=>unc v1 fun v3 v4=>tk6 v3 fun v8 v11 v14 v17 v20 v23 v26 v29 v32 v35 v38=>(unn v4 ((K v2 v8 v11 v14 v17 v20 v23 v26 v29 v32 v35 v38)))) = K v2 v8 v11 v14 v17 v20 v23 v26 v29 v32 v35 v38:=(vY h _).trans rfl
theorem y2 {ds:List D} {v5:Int} {v8:Bool} {v14:List D} {v17 v20 v23 v26 v29 v32 v35:Int} {v38 v41 v44:List D} (h:V 68 ds = some (.tup [iN v5,.bool v8],[.op [.os (5,0) v14,iN v17,iN v20,iN v23,iN v26,iN v29,iN v32,iN v35,.rs (5,0) v38,.rs (4,0) v41,.rs (3,0) v44]])) (K:Int->Bool->List D->Int->Int->Int->Int->Int->Int->Int->List D->List D->List D->Option Ret):iy V 68 ds (fun v0 v1=>tk9 v0 fun v5 v8=>(unc v1 fun v9 v10=>tk6 v9 fun v14 v17 v20 v23 v26 v29 v32 v35 v38 v41 v44=>(unn v10 ((K v5 v8 v14 v17 v20 v23 v26 v29 v32 v35 v38 v41 v44))))) = K v5 v8 v14 v17 v20 v23 v26 v29 v32 v35 v38 v41 v44:=(vY h _).trans rfl
theorem Kr {ds:List D} {v2:Int} (h:V 91 ds = some (iN v2,[])) (K:Int->Option Ret):iy V 91 ds (fun v0 v1=>asI .i64 v0 fun v2=>unn v1 ((K v2))) = K v2:=(vY h _).trans rfl
theorem zX {ds:List D} {v2:Int} {v8:List D} {v11 v14 v17 v20 v23 v26 v29:Int} {v32 v35 v38:List D} (h:V 70 ds = some (iN v2,[.op [.os (5,0) v8,iN v11,iN v14,iN v17,iN v20,iN v23,iN v26,iN v29,.rs (5,0) v32,.rs (4,0) v35,.rs (3,0) v38]])) (K:Int->List D->Int->Int->Int->Int->Int->Int->Int->List D->List D->List D->Option Ret):iy V 70 ds (fun v0 v1=>asI .i64 v0 fun v2=>unc v1 fun v3 v4=>tk6 v3 fun v8 v11 v14 v17 v20 v23 v26 v29 v32 v35 v38=>(unn v4 ((K v2 v8 v11 v14 v17 v20 v23 v26 v29 v32 v35 v38)))) = K v2 v8 v11 v14 v17 v20 v23 v26 v29 v32 v35 v38:=(vY h _).trans rfl
theorem Gy {ds:List D} {v5 v8:Int} {v14:List D} (h:V 92 ds = some (.tup [iN v5,iN v8],[.op [.os (5,0) v14]])) (K:Int->Int->List D->Option Ret):iy V 92 ds (fun v0 v1=>Qf v0 fun v5 v8=>(unc v1 fun v9 v10=>mJ v9 fun v11=>unc v11 fun v12 v13=>iK (5,0) v12 fun v14=>unn v13 (unn v10 ((K v5 v8 v14))))) = K v5 v8 v14:=(vY h _).trans rfl
theorem zb {ds:List D} {v5 v8:Int} {v11:ByteArray} {v14 v17:Int} (h:V 99 ds = some (.agg [iN v5,iN v8,.str v11,iN v14,iN v17],[])) (K:Int->Int->ByteArray->Int->Int->Option Ret):iy V 99 ds (fun v0 v1=>tk1 v0 fun v5 v8 v11 v14 v17=>(unn v1 ((K v5 v8 v11 v14 v17)))) = K v5 v8 v11 v14 v17:=(vY h _).trans rfl
theorem PN {ds:List D} {v2:Bool} (h:V 100 ds = some (.bool v2,[])) (K:Bool->Option Ret):iy V 100 ds (fun v0 v1=>asB v0 fun v2=>unn v1 ((K v2))) = K v2:=(vY h _).trans rfl
theorem LP {ds:List D} {v5 v8:Int} {v11:ByteArray} {v14 v17:Int} (h:V 101 ds = some (.agg [iN v5,iN v8,.str v11,iN v14,iN v17],[])) (K:Int->Int->ByteArray->Int->Int->Option Ret):iy V 101 ds (fun v0 v1=>tk1 v0 fun v5 v8 v11 v14 v17=>(unn v1 ((K v5 v8 v11 v14 v17)))) = K v5 v8 v11 v14 v17:=(vY h _).trans rfl
theorem zG {ds:List D} {v5:Int} {v8:Bool} {v14:List D} {v17 v20 v23 v26 v29 v32 v35:Int} {v38 v41 v44:List D} (h:V 84 ds = some (.tup [iN v5,.bool v8],[.op [.os (5,0) v14,iN v17,iN v20,iN v23,iN v26,iN v29,iN v32,iN v35,.rs (5,0) v38,.rs (4,0) v41,.rs (3,0) v44]])) (K:Int->Bool->List D->Int->Int->Int->Int->Int->Int->Int->List D->List D->List D->Option Ret):iy V 84 ds (fun v0 v1=>tk9 v0 fun v5 v8=>(unc v1 fun v9 v10=>tk6 v9 fun v14 v17 v20 v23 v26 v29 v32 v35 v38 v41 v44=>(unn v10 ((K v5 v8 v14 v17 v20 v23 v26 v29 v32 v35 v38 v41 v44))))) = K v5 v8 v14 v17 v20 v23 v26 v29 v32 v35 v38 v41 v44:=(vY h _).trans rfl
theorem BW {ds v5:List D} (h:V 69 ds = some (.tup [],[.os (1,0) v5])) (K:List D->Option Ret):iy V 69 ds (fun v0 v1=>il v0 fun v2=>unn v2 (unc v1 fun v3 v4=>iK (1,0) v3 fun v5=>unn v4 ((K v5)))) = K v5:=(vY h _).trans rfl
theorem KT {ds v5:List D} {v8 v11 v14 v17 v20 v23 v26:Int} (h:V 28 ds = some (.agg [.os (5,0) v5,iN v8,iN v11,iN v14,iN v17,iN v20,iN v23,iN v26],[])) (K:List D->Int->Int->Int->Int->Int->Int->Int->Option Ret):iy V 28 ds (fun v0 v1=>tk7 v0 fun v5 v8 v11 v14 v17 v20 v23 v26=>(unn v1 ((K v5 v8 v11 v14 v17 v20 v23 v26)))) = K v5 v8 v11 v14 v17 v20 v23 v26:=(vY h _).trans rfl
theorem MT {ds v5:List D} {v8 v11 v14 v17 v20 v23 v26:Int} (h:V 27 ds = some (.agg [.os (5,0) v5,iN v8,iN v11,iN v14,iN v17,iN v20,iN v23,iN v26],[])) (K:List D->Int->Int->Int->Int->Int->Int->Int->Option Ret):iy V 27 ds (fun v0 v1=>tk7 v0 fun v5 v8 v11 v14 v17 v20 v23 v26=>(unn v1 ((K v5 v8 v11 v14 v17 v20 v23 v26)))) = K v5 v8 v11 v14 v17 v20 v23 v26:=(vY h _).trans rfl
theorem PP {ds v5:List D} {v8 v11 v14 v17 v20 v23 v26:Int} (h:V 49 ds = some (.agg [.os (5,0) v5,iN v8,iN v11,iN v14,iN v17,iN v20,iN v23,iN v26],[])) (K:List D->Int->Int->Int->Int->Int->Int->Int->Option Ret):iy V 49 ds (fun v0 v1=>tk7 v0 fun v5 v8 v11 v14 v17 v20 v23 v26=>(unn v1 ((K v5 v8 v11 v14 v17 v20 v23 v26)))) = K v5 v8 v11 v14 v17 v20 v23 v26:=(vY h _).trans rfl
theorem A7 {ds:List D} {v2:Bool} (h:V 76 ds = some (.bool v2,[])) (K:Bool->Option Ret):iy V 76 ds (fun v0 v1=>asB v0 fun v2=>unn v1 ((K v2))) = K v2:=(vY h _).trans rfl
theorem Jy {ds:List D} {v2:Bool} (h:V 19 ds = some (.bool v2,[])) (K:Bool->Option Ret):iy V 19 ds (fun v0 v1=>asB v0 fun v2=>unn v1 ((K v2))) = K v2:=(vY h _).trans rfl
theorem z0 {ds:List D} {v2:Int} (h:V 46 ds = some (iN v2,[])) (K:Int->Option Ret):iy V 46 ds (fun v0 v1=>asI .i64 v0 fun v2=>unn v1 ((K v2))) = K v2:=(vY h _).trans rfl
theorem Bl {ds:List D} {v2:ByteArray} (h:V 56 ds = some (.str v2,[])) (K:ByteArray->Option Ret):iy V 56 ds (fun v0 v1=>asS v0 fun v2=>unn v1 ((K v2))) = K v2:=(vY h _).trans rfl
theorem C6 {ds:List D} {v2:Int} {v8:List D} {v11 v14 v17 v20 v23 v26 v29:Int} {v32 v35 v38:List D} (h:V 81 ds = some (iN v2,[.op [.os (5,0) v8,iN v11,iN v14,iN v17,iN v20,iN v23,iN v26,iN v29,.rs (5,0) v32,.rs (4,0) v35,.rs (3,0) v38]])) (K:Int->List D->Int->Int->Int->Int->Int->Int->Int->List D->List D->List D->Option Ret):iy V 81 ds (fun v0 v1=>asI .i64 v0 fun v2=>unc v1 fun v3 v4=>tk6 v3 fun v8 v11 v14 v17 v20 v23 v26 v29 v32 v35 v38=>(unn v4 ((K v2 v8 v11 v14 v17 v20 v23 v26 v29 v32 v35 v38)))) = K v2 v8 v11 v14 v17 v20 v23 v26 v29 v32 v35 v38:=(vY h _).trans rfl
theorem AU {ds:List D} {v2:Int} {v8:List D} {v11 v14 v17 v20 v23 v26 v29:Int} {v32 v35 v38:List D} (h:V 82 ds = some (iN v2,[.op [.os (5,0) v8,iN v11,iN v14,iN v17,iN v20,iN v23,iN v26,iN v29,.rs (5,0) v32,.rs (4,0) v35,.rs (3,0) v38]])) (K:Int->List D->Int->Int->Int->Int->Int->Int->Int->List D->List D->List D->Option Ret):iy V 82 ds (fun v0 v1=>asI .i64 v0 fun v2=>unc v1 fun v3 v4=>tk6 v3 fun v8 v11 v14 v17 v20 v23 v26 v29 v32 v35 v38=>(unn v4 ((K v2 v8 v11 v14 v17 v20 v23 v26 v29 v32 v35 v38)))) = K v2 v8 v11 v14 v17 v20 v23 v26 v29 v32 v35 v38:=(vY h _).trans rfl
theorem Cj {ds:List D} {v2:Int} {v8:List D} {v11 v14 v17 v20 v23 v26 v29:Int} {v32 v35 v38:List D} (h:V 83 ds = some (iN v2,[.op [.os (5,0) v8,iN v11,iN v14,iN v17,iN v20,iN v23,iN v26,iN v29,.rs (5,0) v32,.rs (4,0) v35,.rs (3,0) v38]])) (K:Int->List D->Int->Int->Int->Int->Int->Int->Int->List D->List D->List D->Option Ret):iy V 83 ds (fun v0 v1=>asI .i64 v0 fun v2=>unc v1 fun v3 v4=>tk6 v3 fun v8 v11 v14 v17 v20 v23 v26 v29 v32 v35 v38=>(unn v4 ((K v2 v8 v11 v14 v17 v20 v23 v26 v29 v32 v35 v38)))) = K v2 v8 v11 v14 v17 v20 v23 v26 v29 v32 v35 v38:=(vY h _).trans rfl
theorem Kt {ds:List D} {v5 v8:Int} {v11:ByteArray} {v14 v17:Int} (h:V 96 ds = some (.agg [iN v5,iN v8,.str v11,iN v14,iN v17],[])) (K:Int->Int->ByteArray->Int->Int->Option Ret):iy V 96 ds (fun v0 v1=>tk1 v0 fun v5 v8 v11 v14 v17=>(unn v1 ((K v5 v8 v11 v14 v17)))) = K v5 v8 v11 v14 v17:=(vY h _).trans rfl
theorem MS {ds:List D} {v2:Bool} (h:V 31 ds = some (.bool v2,[])) (K:Bool->Option Ret):iy V 31 ds (fun v0 v1=>asB v0 fun v2=>unn v1 ((K v2))) = K v2:=(vY h _).trans rfl
theorem BV {ds:List D} {v2:Int} (h:V 86 ds = some (iN v2,[])) (K:Int->Option Ret):iy V 86 ds (fun v0 v1=>asI .i64 v0 fun v2=>unn v1 ((K v2))) = K v2:=(vY h _).trans rfl
end Go.Eng
/-! nodes and pools: when they are right,on both sides -/
namespace Go.Eng
noncomputable section
open Go.Proofs Go.Proofs.Try

theorem yV (b c : Bool) (l : List D) : br b (some (D.bool c,l)) (some (D.bool false,l)) = some (D.bool (b && c),l) := by cases b <;> rfl
theorem Tc (b c : Bool) (l : List D) : br b (some (D.bool true,l)) (some (D.bool c,l)) = some (D.bool (b || c),l) := by cases b <;> rfl
theorem Li (b c : Bool) (l : List D) : br b (some (D.bool false,l)) (some (D.bool c,l)) = some (D.bool (!b && c),l) := by cases b <;> rfl

structure Nd where
 kind : Int
 n : Int
 s : ByteArray
 a : Int
 b : Int
abbrev eN (x : Nd) : D := .agg [iN x.kind,iN x.n,.str x.s,iN x.a,iN x.b]
section
variable {R : Type}
theorem Jt (x : Nd) (K : Int -> Int -> ByteArray -> Int -> Int -> Option R) : tk1 (eN x) (fun n4 n7 s10 n13 n16 => (K n4 n7 s10 n13 n16)) = K x.kind x.n x.s x.a x.b := rfl
theorem Ui (x : Nd) (K : Int -> Option R) : asAgg (eN x) (fun l => cz l 0 fun y => asI .i64 y fun n => K n) = K x.kind := rfl
theorem Uj (x : Nd) (K : Int -> Option R) : asAgg (eN x) (fun l => cz l 1 fun y => asI .i64 y fun n => K n) = K x.n := rfl
theorem Uk (x : Nd) (K : Int -> Option R) : asAgg (eN x) (fun l => cz l 3 fun y => asI .i64 y fun n => K n) = K x.a := rfl
theorem Ul (x : Nd) (K : Int -> Option R) : asAgg (eN x) (fun l => cz l 4 fun y => asI .i64 y fun n => K n) = K x.b := rfl
end

theorem yj (n lo hi : Int) : V 39 [iN n,iN lo,iN hi] = some (.bool (wi n lo hi),[]) := (Lz n lo hi).trans wE
def nmB (c : Int) : Bool := (decide (c >= 97) && decide (c <= 122)) || [43,45,42,60,61,63,33,47].any fun x => c == x
theorem Jl {l : List Int} (hl : l.length < 4611686018427387904) (c : Int) : ∀ (k i : Nat),i + k = l.length -> yB (l.map (D.int .u8)) c (ni (l.map (D.int .u8)).length) (i : Int) = some (iN (dw (fun x => c == x) l i),[])
 | 0,i,hi => by
  rw [zo,vQ (by rw [lnM]; exact xt (by omega)),vN (by omega)]
 | k + 1,i,hi => by
  obtain ⟨x,hx⟩ := wt (l := l) (i := i) (by omega)
  have ih := Jl hl c k (i + 1) (by omega)
  rw [zo,wK (by rw [lnM]; exact xA (by omega)),xu (by rw [lnM]; exact xz (by omega)),Int.toNat_natCast,w8 hx,xf]
  cases h : c == x with
  | true => rw [xl,vO hx h]
  | false => rw [wJ,xN (by omega),ih,vx hx h]
theorem QV {l : List Int} {c : Int} : decide (xb (fun x => c == x) l >= 0) = l.any fun x => c == x := by
 unfold xb
 cases h : l.findIdx? fun x => c == x with
 | none =>
  have := List.findIdx?_eq_none_iff.1 h
  symm
  simpa [List.any_eq_false] using this
 | some k =>
  have h2 : (l.any fun x => c == x) = true := by
   rw [List.findIdx?_eq_some_iff_getElem] at h
   obtain ⟨hk,h3,_⟩ := h
   exact List.any_eq_true.2 ⟨l[k],List.getElem_mem hk,h3⟩
  rw [h2]
  simp
theorem Ou {l : List Int} (hl : l.length < 4611686018427387904) (c : Int) : V 76 [.rs (1,0) (l.map (D.int .u8)),.int .u8 c] = some (.bool (l.any fun x => c == x),[]) := by
 have h : V 86 [.rs (1,0) (l.map (D.int .u8)),.int .u8 c] = some (iN (xb (fun x => c == x) l),[]) := by
  rw [CT,<- vy]
  exact Jl hl c l.length 0 (Nat.zero_add _)
 rw [BG,BV h,QV]
theorem GJ (c : Int) : V 58 [.int .u8 c] = some (.bool (nmB c),[]) := by
 have h := Ou (l := [43,45,42,60,61,63,33,47]) (by simp) c
 simp only [List.map_cons,List.map_nil] at h
 rw [GR,xu (by decide),A7 h]
 unfold nmB
 cases decide (c >= 97) <;> cases decide (c <= 122) <;> rfl
def Jv (s : ByteArray) : Nat -> Nat -> Bool
 | _,0 => true
 | i,k + 1 => nmB (bt s i) && Jv s (i + 1) k
def DP (s : ByteArray) : Bool := wi s.size 1 12 && Jv s 0 s.size
theorem D8 {s : ByteArray} (hl : s.size < 4611686018427387904) : ∀ (k i : Nat),i + k = s.size -> zw s (ni s.size) (i : Int) = some (.bool (Jv s i k),[])
 | 0,i,hi => by rw [BZ,vQ (xt (by omega))]; rfl
 | k + 1,i,hi => by
  rw [BZ,wK (xA (by omega)),xu (xz (by omega)),DB (GJ _),xN (by omega),D8 hl k (i + 1) (by omega),Li,Bool.not_not]
  rfl
theorem AE {s : ByteArray} (hl : s.size < 4611686018427387904) : V 45 [.str s] = some (.bool (DP s),[]) := by
 have h : zw s (ni s.size) 0 = _ := D8 hl s.size 0 (Nat.zero_add _)
 rw [Lm,yh (yj _ _ _),h,Li,Bool.not_not]
 rfl
def nz (s : ByteArray) : Bool := jJ s ⟨#[]⟩
def okN (x : Nd) (h : Int) : Bool :=
 if x.kind = 1 then wi x.n 0 0 && (nz x.s && (x.a == 0 && x.b == 0))
 else if x.kind = 2 then wi x.n 0 1 && (nz x.s && (x.a == 0 && x.b == 0))
 else if x.kind = 3 then wi x.n (-1000000000) 1000000000 && (nz x.s && (x.a == 0 && x.b == 0))
 else if x.kind = 4 then wi x.n 0 0 && (DP x.s && (x.a == 0 && x.b == 0))
 else if x.kind = 5 then wi x.n 0 0 && (nz x.s && (wi x.a 0 (h - 1) && wi x.b 0 (h - 1)))
 else if x.kind = 6 then wi x.n 0 1000000000 && (nz x.s && (wi x.a 0 (h - 1) && x.b == 0))
 else if x.kind = 7 then wi x.n 0 0 && (nz x.s && (wi x.a 0 (h - 1) && x.b == 0))
 else if x.kind = 8 then wi x.n 0 99 && (nz x.s && (x.a == 0 && x.b == 0))
 else if x.kind = 9 then wi x.n 0 1000000000 && (nz x.s && (x.a == 0 && x.b == 0))
 else false
theorem Kw {x : Nd} (hs : x.s.size < 4611686018427387904) {h : Int} (h0 : -4611686018427387904 < h) (h1 : h < 4611686018427387904) : V 31 [eN x,iN h] = some (.bool (okN x h),[]) := by
 rw [Lu,w64 (n := h - 1) (by omega) (by omega)]
 unfold okN
 by_cases e1 : x.kind = 1
 ·rw [wK (by simp [e1]),if_pos e1,yh (yj _ _ _)]; simp only [yV]; rfl
 rw [vQ (by simp [e1]),if_neg e1]
 by_cases e2 : x.kind = 2
 ·rw [wK (by simp [e2]),if_pos e2,yh (yj _ _ _)]; simp only [yV]; rfl
 rw [vQ (by simp [e2]),if_neg e2]
 by_cases e3 : x.kind = 3
 ·rw [wK (by simp [e3]),if_pos e3,yh (yj _ _ _)]; simp only [yV]; rfl
 rw [vQ (by simp [e3]),if_neg e3]
 by_cases e4 : x.kind = 4
 ·rw [wK (by simp [e4]),if_pos e4,Ir (AE hs),yh (yj _ _ _)]; simp only [yV]
 rw [vQ (by simp [e4]),if_neg e4]
 by_cases e5 : x.kind = 5
 ·rw [wK (by simp [e5]),if_pos e5,yh (yj _ _ _),yh (yj _ _ _),yh (yj _ _ _)]; simp only [yV]; rfl
 rw [vQ (by simp [e5]),if_neg e5]
 by_cases e6 : x.kind = 6
 ·rw [wK (by simp [e6]),if_pos e6,yh (yj _ _ _),yh (yj _ _ _)]; simp only [yV]; rfl
 rw [vQ (by simp [e6]),if_neg e6]
 by_cases e7 : x.kind = 7
 ·rw [wK (by simp [e7]),if_pos e7,yh (yj _ _ _),yh (yj _ _ _)]; simp only [yV]; rfl
 rw [vQ (by simp [e7]),if_neg e7]
 by_cases e8 : x.kind = 8
 ·rw [wK (by simp [e8]),if_pos e8,yh (yj _ _ _)]; simp only [yV]; rfl
 rw [vQ (by simp [e8]),if_neg e8]
 by_cases e9 : x.kind = 9
 ·rw [wK (by simp [e9]),if_pos e9,yh (yj _ _ _)]; simp only [yV]; rfl
 rw [vQ (by simp [e9]),if_neg e9]

abbrev eP (p : List Nd) : D := .agg [.rs (5,0) (p.map eN)]
abbrev oP (p : List Nd) : D := .agg [.os (5,0) (p.map eN)]
abbrev rP (p : List Nd) : D := .op [.os (5,0) (p.map eN)]
def Bv (p : List Nd) : Prop := ∀ x ∈ p,x.s.size < 4611686018427387904
def Ek (p : List Nd) : Nat -> Nat -> Bool
 | _,0 => true
 | i,k + 1 => (match p[i]? with | some x => okN x i | none => true) && Ek p (i + 1) k
def xT (p : List Nd) : Bool := Ek p 0 p.length && decide ((p.length : Int) <= 3000)
theorem D9 {p : List Nd} (hf : Bv p) (hl : p.length < 4611686018427387904) : ∀ (k i : Nat),i + k = p.length -> Ae (p.map eN) (ni (p.map eN).length) (i : Int) (p.map eN) = some (.bool (Ek p i k && decide ((p.length : Int) <= 3000)),[])
 | 0,i,hi => by
  rw [B7,vQ (by rw [lnM]; exact xt (by omega)),lnM]; rfl
 | k + 1,i,hi => by
  obtain ⟨x,hx⟩ := wt (l := p) (i := i) (by omega)
  rw [B7,wK (by rw [lnM]; exact xA (by omega)),xu (by rw [lnM]; exact xz (by omega)),Int.toNat_natCast,w8 hx,Jt,MS (Kw (hf x (List.mem_of_getElem? hx)) (by omega) (by omega)),xN (by omega),D9 hf hl k (i + 1) (by omega),Li,Bool.not_not,<- Bool.and_assoc]
  simp only [Ek,hx]
theorem yo {p : List Nd} (hf : Bv p) (hl : p.length < 4611686018427387904) : V 15 [eP p] = some (.bool (xT p),[]) := by
 rw [Ln]; exact D9 hf hl p.length 0 (Nat.zero_add _)
end
end Go.Eng
/-! what is reached,on both sides -/
namespace Go.Eng
noncomputable section
open Go.Proofs Go.Proofs.Try

theorem EO {α : Type} {l : List α} {p : α -> Bool} : decide (xb p l >= 0) = l.any p := by
 unfold xb
 cases h : l.findIdx? p with
 | none =>
  have := List.findIdx?_eq_none_iff.1 h
  symm
  simpa [List.any_eq_false] using this
 | some k =>
  have h2 : l.any p = true := by
   rw [List.findIdx?_eq_some_iff_getElem] at h
   obtain ⟨hk,h3,_⟩ := h
   exact List.any_eq_true.2 ⟨l[k],List.getElem_mem hk,h3⟩
  rw [h2]
  simp

abbrev eI : Int -> D := D.int .i64
theorem wi_iff {n lo hi : Int} : wi n lo hi = true ↔ lo <= n /\ n <= hi := by simp [wi]

theorem JE {p : List Nd} : ∀ {k i j : Nat} {x : Nd},Ek p i k = true -> i <= j -> j < i + k -> p[j]? = some x -> okN x j = true
 | 0,i,j,x,_,h1,h2,_ => by omega
 | k + 1,i,j,x,h,h1,h2,hx => by
  simp only [Ek,Bool.and_eq_true] at h
  by_cases e : i = j
  ·subst e; rw [hx] at h; exact h.1
  ·exact JE h.2 (by omega) (by omega) hx
theorem yG {p : List Nd} (h : xT p = true) {j : Nat} {x : Nd} (hx : p[j]? = some x) : okN x j = true := by
 simp only [xT,Bool.and_eq_true] at h
 exact JE h.1 (Nat.zero_le _) (by have := aQ hx; omega) hx
theorem yq {p : List Nd} (h : xT p = true) : p.length <= 3000 := by
 simp only [xT,Bool.and_eq_true,decide_eq_true_eq] at h; omega
theorem yR {x : Nd} {h : Int} (ho : okN x h = true) (hk : x.kind = 5) : 0 <= x.a /\ x.a < h /\ 0 <= x.b /\ x.b < h := by
 simp [okN,hk,wi] at ho; omega
theorem zY {x : Nd} {h : Int} (ho : okN x h = true) (hk : x.kind = 6 \/ x.kind = 7) : 0 <= x.a /\ x.a < h := by
 rcases hk with hk | hk <;> simp [okN,hk,wi] at ho <;> omega

def yk (p : List Nd) (rs : List Int) : Bool := rs.all fun r => wi r 0 ((p.length : Int) - 1)
theorem zk {p : List Nd} (hl : p.length < 4611686018427387904) (r : Int) : V 20 [eP p,iN r] = some (.bool (wi r 0 ((p.length : Int) - 1)),[]) := by
 rw [Lt,yh (yj _ _ _),lnM,w64 (by simp only [ni]; omega) (by simp only [ni]; omega)]
theorem JO {p : List Nd} (hl : p.length < 4611686018427387904) {l : List Int} (h2 : l.length < 4611686018427387904) : ∀ (k i : Nat),i + k = l.length -> y4 (l.map eI) (p.map eN) (ni (l.map eI).length) (i : Int) = some (iN (dw (fun r => !wi r 0 ((p.length : Int) - 1)) l i),[])
 | 0,i,hi => by
  rw [z8,vQ (by rw [lnM]; exact xt (by omega)),vN (by omega)]
 | k + 1,i,hi => by
  obtain ⟨x,hx⟩ := wt (l := l) (i := i) (by omega)
  have ih := JO hl h2 k (i + 1) (by omega)
  have hr : V 79 [iN x,.bp [.rs (5,0) (p.map eN)]] = some (.bool (!wi x 0 ((p.length : Int) - 1)),[]) := by
   rw [NQ,Ch (zk hl x)]
  rw [z8,wK (by rw [lnM]; exact xA (by omega)),xu (by rw [lnM]; exact xz (by omega)),Int.toNat_natCast,w8 hx,xf,JD hr]
  cases h : (!wi x 0 ((p.length : Int) - 1)) with
  | true => rw [xl,vO hx h]
  | false => rw [wJ,xN (by omega),ih,vx hx h]
theorem Qm {p : List Nd} (hf : Bv p) (hl : p.length < 4611686018427387904) {l : List Int} (h2 : l.length < 4611686018427387904) : V 66 [eP p,.rs (1,0) (l.map eI)] = some (.bool (xT p && yk p l),[]) := by
 have h : V 38 [.rs (1,0) (l.map eI),.fn 79 [.bp [.rs (5,0) (p.map eN)]]] = some (iN (xb (fun r => !wi r 0 ((p.length : Int) - 1)) l),[]) := by
  rw [FI,<- vy]
  exact JO hl h2 l.length 0 (Nat.zero_add _)
 have h3 : V 18 [.rs (1,0) (l.map eI),.fn 79 [.bp [.rs (5,0) (p.map eN)]]] = some (.bool (l.any fun r => !wi r 0 ((p.length : Int) - 1)),[]) := by
  rw [DH,zt h,EO]
 rw [Ko,AQ (yo hf hl),zj h3,yV]
 congr 3
 unfold yk
 rw [List.any_eq_not_all_not,Bool.not_not]
 simp
def yQ (x : Nd) (m : List Bool) : List Bool := if x.kind = 5 then (m.set x.a.toNat true).set x.b.toNat true else if x.kind = 6 \/ x.kind = 7 then m.set x.a.toNat true else m
def yz (p : List Nd) : Nat -> List Bool -> List Bool
 | 0,m => m
 | k + 1,m => yz p k (match p[k]?,m[k]? with | some x,some true => yQ x m | _,_ => m)
def EH (rs : List Int) (m : List Bool) : List Bool := rs.foldl (fun m r => m.set r.toNat true) m
def z5 (p : List Nd) (rs : List Int) : List Bool := yz p p.length (EH rs (List.replicate p.length false))
theorem Fw (x : Nd) (m : List Bool) : (yQ x m).length = m.length := by
 unfold yQ
 split
 ·simp
 ·split <;> simp
theorem ED {p : List Nd} : ∀ (k : Nat) (m : List Bool),(yz p k m).length = m.length
 | 0,m => rfl
 | k + 1,m => by
  simp only [yz]
  rw [ED k]
  split
  ·exact Fw _ _
  ·rfl
theorem CG : ∀ (rs : List Int) (m : List Bool),(EH rs m).length = m.length
 | [],m => rfl
 | r :: rs,m => by
  have := CG rs (m.set r.toNat true)
  simpa [EH] using this
theorem Cu {n : Int} {l : Nat} (h0 : 0 <= n) (h1 : n < l) : (decide (0 <= n) && decide (n < ni l)) = true := by
 simp only [ni,Bool.and_eq_true,decide_eq_true_eq]; omega
theorem Di {α : Type} {l : List α} {n : Int} (h0 : 0 <= n) (h1 : n < l.length) : ∃ x,l[n.toNat]? = some x := wt (by omega)
theorem GF {m : List Bool} {j : Nat} : List.set (m.map D.bool) j (D.bool true) = (m.set j true).map D.bool := by rw [List.map_set]

theorem y1 {p : List Nd} (hp : xT p = true) : ∀ (k : Nat) (m : List Bool) (i : Int),i = (k : Int) - 1 -> k <= p.length -> m.length = p.length -> yH i (p.map eN) (m.map D.bool) = some (.os (1,0) ((yz p k m).map D.bool),[])
 | 0,m,i,hi,hk,hm => by
  rw [CJ,vQ (decide_eq_false (by omega))]; rfl
 | k + 1,m,i,hi,hk,hm => by
  have hl := yq hp
  have ei : i = (k : Int) := by omega
  subst ei
  obtain ⟨x,hx⟩ := wt (l := p) (i := k) (by omega)
  obtain ⟨b,hb⟩ := wt (l := m) (i := k) (by omega)
  have ho := yG hp hx
  have hw : w6 ((k : Int) - 1) = (k : Int) - 1 := w64 (by omega) (by omega)
  rw [CJ,wK (decide_eq_true (by omega)),xu (by rw [lnM]; exact xz (by omega)),Int.toNat_natCast,w8 hb,wH,hw]
  simp only [yz,hx,hb]
  cases b with
  | false => rw [Bool.not_false,xl]; exact y1 hp k m _ rfl (by omega) hm
  | true =>
   show _ = some (D.os (1,0) ((yz p k (yQ x m)).map D.bool),[])
   rw [Bool.not_true,wJ,xu (by rw [lnM]; exact xz (by omega)),w8 hx,Jt]
   by_cases h5 : x.kind = 5
   ·obtain ⟨a0,a1,b0,b1⟩ := yR ho h5
    obtain ⟨u,hu⟩ := Di (l := m) (n := x.a) a0 (by omega)
    obtain ⟨v,hv⟩ := Di (l := m.set x.a.toNat true) (n := x.b) b0 (by simp; omega)
    rw [wK (by simp [h5]),xu (by rw [List.length_map]; exact Cu a0 (by omega)),w8 hu,xB,GF,xu (by rw [List.length_map]; exact Cu b0 (by simp; omega)),w8 hv,xB,GF]
    simp only [yQ,h5,if_true]
    exact y1 hp k _ _ rfl (by omega) (by simp; omega)
   rw [vQ (by simp [h5])]
   by_cases h6 : x.kind = 6
   ·obtain ⟨a0,a1⟩ := zY ho (.inl h6)
    obtain ⟨u,hu⟩ := Di (l := m) (n := x.a) a0 (by omega)
    rw [wK (by simp [h6]),wK (by simp [h6]),xu (by rw [List.length_map]; exact Cu a0 (by omega)),w8 hu,xB,GF]
    have e : yQ x m = m.set x.a.toNat true := by simp [yQ,h6]
    rw [e]
    exact y1 hp k _ _ rfl (by omega) (by simp; omega)
   rw [vQ (by simp [h6])]
   by_cases h7 : x.kind = 7
   ·obtain ⟨a0,a1⟩ := zY ho (.inr h7)
    obtain ⟨u,hu⟩ := Di (l := m) (n := x.a) a0 (by omega)
    rw [wK (by simp [h7]),xu (by rw [List.length_map]; exact Cu a0 (by omega)),w8 hu,xB,GF]
    have e : yQ x m = m.set x.a.toNat true := by simp [yQ,h7]
    rw [e]
    exact y1 hp k _ _ rfl (by omega) (by simp; omega)
   rw [vQ (by simp [h7])]
   have e : yQ x m = m := by simp [yQ,h5,h6,h7]
   rw [e]
   exact y1 hp k _ _ rfl (by omega) hm
theorem D7 {p : List Nd} (hp : xT p = true) {l : List Int} (h2 : l.length < 4611686018427387904) (hr : yk p l = true) : ∀ (k i : Nat) (m : List Bool),i + k = l.length -> m.length = p.length -> zM (l.map eI) (ni (l.map eI).length) (i : Int) (p.map eN) (m.map D.bool) = some (.os (1,0) ((yz p p.length (EH (l.drop i) m)).map D.bool),[])
 | 0,i,m,hi,hm => by
  have hl := yq hp
  rw [CI,vQ (by rw [lnM]; exact xt (by omega)),List.drop_of_length_le (by omega),lnM,w64 (by simp only [ni]; omega) (by simp only [ni]; omega)]
  exact y1 hp p.length m _ rfl (Nat.le_refl _) hm
 | k + 1,i,m,hi,hm => by
  obtain ⟨x,hx⟩ := wt (l := l) (i := i) (by omega)
  have hx2 := wi_iff.1 (List.all_eq_true.1 hr x (List.mem_of_getElem? hx))
  obtain ⟨u,hu⟩ := Di (l := m) (n := x) hx2.1 (by omega)
  rw [CI,wK (by rw [lnM]; exact xA (by omega)),xu (by rw [lnM]; exact xz (by omega)),Int.toNat_natCast,w8 hx,xf,xu (by rw [lnM]; exact Cu hx2.1 (by omega)),w8 hu,xB,GF,xN (by omega),sy hx]
  exact D7 hp h2 hr k (i + 1) _ (by omega) (by simp; omega)
theorem OX {α : Type} {f : α -> D} {l : List α} (h : l.length <= 4294967296) : (decide (0 <= ni (l.map f).length) && decide (ni (l.map f).length <= LIM)) = true := by
 rw [Bool.and_eq_true]
 exact ⟨decide_eq_true (by simp only [ni]; omega),decide_eq_true (by rw [oQ,lnM]; simp only [ni]; omega)⟩
theorem PW {n : Nat} : List.replicate (Int.toNat (ni n)) (D.bool false) = (List.replicate n false).map D.bool := by simp [ni]
theorem SQ {p : List Nd} (hp : xT p = true) {l : List Int} (h2 : l.length < 4611686018427387904) (hr : yk p l = true) : V 90 [eP p,.rs (1,0) (l.map eI)] = some (.os (1,0) ((z5 p l).map D.bool),[]) := by
 have hl := yq hp
 have h : zM (l.map eI) (ni (l.map eI).length) 0 (p.map eN) ((List.replicate p.length false).map D.bool) = _ := D7 hp h2 hr l.length 0 _ (Nat.zero_add _) (by simp)
 have e : (p.map eN).length = p.length := lnM _
 rw [Mq,xu (OX (by omega)),PW,e,h]; rfl
end
end Go.Eng
/-! what is moved into another pool,on both sides -/
namespace Go.Eng
open Go.Proofs Go.Proofs.Try

theorem R5 {p : List Nd} (h : p.length < 4294967296) (x : D) : decide (ni (p.map eN ++ [x]).length <= LIM) = true :=
 decide_eq_true (by rw [oQ]; simp only [ni,lnA,lnM,lnC,lnN]; omega)
theorem Bd {p : List Nd} (h : p.length < 4294967296) (x : Nd) : V 37 [rP p,eN x] = some (iN p.length,[rP (p ++ [x])]) := by
 rw [Jb,xu (R5 h _),xB]
 have : w6 (ni (p.map eN ++ [eN x]).length - 1) = p.length := by
  rw [w64 (by simp only [ni]; omega) (by simp only [ni,lnA,lnM,lnC,lnN]; omega)]
  simp [ni]
 rw [this]; simp
noncomputable def ym (pre : List Int) (x : Nd) : Nd :=
 if x.kind = 5 then ⟨x.kind,x.n,x.s,pre.getD x.a.toNat 0,pre.getD x.b.toNat 0⟩
 else if x.kind = 6 \/ x.kind = 7 then ⟨x.kind,x.n,x.s,pre.getD x.a.toNat 0,x.b⟩ else x
noncomputable def Aj (d : Int) (q : List Nd) (m : List Bool) : Nat -> List Int -> List Nd -> List Int × List Nd
 | 0,pre,acc => (pre,acc)
 | k + 1,pre,acc => match q[pre.length]?,m[pre.length]? with
  | some x,some true => Aj d q m k (pre ++ [(acc.length : Int)]) (acc ++ [ym pre x])
  | _,_ => Aj d q m k (pre ++ [d]) acc
theorem Pj {pre r : List Int} {v u : Int} {i : Nat} (h : pre.length = i) : (pre ++ u :: r).set i v = pre ++ v :: r := by
 subst h; simp
theorem OU {pre r : List Int} {u : Int} {i : Nat} (h : pre.length = i) : (pre ++ u :: r)[i]? = some u := by
 subst h; simp
theorem Gr {pre r : List Int} {j : Nat} (h : j < pre.length) : (pre ++ r)[j]? = pre[j]? := List.getElem?_append_left h
theorem IQ {l pre : List Int} {n : Int} (h0 : 0 <= n) (h1 : n < pre.length) (h : ∀ j,j < pre.length -> l[j]? = pre[j]?) : ∃ u,l[n.toNat]? = some u /\ pre[n.toNat]? = some u := by
 obtain ⟨u,hu⟩ := wt (l := pre) (i := n.toNat) (by omega)
 exact ⟨u,by rw [h _ (by omega),hu],hu⟩
theorem zh {q : List Nd} (hp : xT q = true) {m : List Bool} (hm : m.length = q.length) : ∀ (k i : Nat) (pre : List Int) (acc : List Nd),pre.length = i -> i + k = q.length -> acc.length + k < 4294967296 ->
  yd (q.map eN) (ni (q.map eN).length) (i : Int) ((pre ++ List.replicate k 0).map eI) (m.map D.bool) (acc.map eN) = some (.os (1,0) ((Aj (-1) q m k pre acc).1.map eI),[rP (Aj (-1) q m k pre acc).2])
 | 0,i,pre,acc,hpre,hi,hc => by
  rw [Af,vQ (by rw [lnM]; exact xt (by omega))]
  simp [Aj]
 | k + 1,i,pre,acc,hpre,hi,hc => by
  have hl := yq hp
  obtain ⟨x,hx⟩ := wt (l := q) (i := i) (by omega)
  obtain ⟨b,hb⟩ := wt (l := m) (i := i) (by omega)
  have ho := yG hp hx
  have s1 : List.set ((pre ++ List.replicate (k + 1) 0).map eI) i (eI (-1)) = (pre ++ (-1) :: List.replicate k 0).map eI := by
   rw [<- List.map_set,List.replicate_succ,Pj hpre]
  have s2 : ∀ v : Int,List.set ((pre ++ (-1) :: List.replicate k 0).map eI) i (eI v) = (pre ++ [v] ++ List.replicate k 0).map eI := by
   intro v; rw [<- List.map_set,Pj hpre]; simp
  have hz : (pre ++ List.replicate (k + 1) 0)[i]? = some 0 := by rw [List.replicate_succ,OU hpre]
  have hz2 : (pre ++ (-1) :: List.replicate k 0)[i]? = some (-1) := OU hpre
  rw [Af,wK (by rw [lnM]; exact xA (by omega)),xu (by rw [lnM]; exact xz (by omega)),Int.toNat_natCast,w8 hx,Jt,xu (by rw [lnM]; exact xz (by simp; omega)),w8 hz,xB,s1,xu (by rw [lnM]; exact xz (by omega)),w8 hb,wH]
  cases b with
  | false =>
   rw [Bool.not_false,xl,xN (by omega)]
   have ih := zh hp hm k (i + 1) (pre ++ [-1]) acc (by simp [hpre]) (by omega) (by omega)
   simp only [Aj,hpre,hx,hb]
   simpa using ih
  | true =>
   rw [Bool.not_true,wJ]
   by_cases h5 : x.kind = 5
   ·obtain ⟨a0,a1,b0,b1⟩ := yR ho h5
    obtain ⟨u,hu,hu'⟩ := IQ (l := (pre ++ (-1) :: List.replicate k 0)) (pre := pre) a0 (by omega) (by intro j hj; exact Gr hj)
    obtain ⟨v,hv,hv'⟩ := IQ (l := (pre ++ (-1) :: List.replicate k 0)) (pre := pre) b0 (by omega) (by intro j hj; exact Gr hj)
    have e : ym pre x = ⟨x.kind,x.n,x.s,u,v⟩ := by simp [ym,h5,hu',hv']
    rw [wK (by simp [h5]),xu (by rw [List.length_map]; exact Cu a0 (by simp; omega)),w8 hu,xf,xu (by rw [List.length_map]; exact Cu b0 (by simp; omega)),w8 hv,xf]
    have ha := Bd (p := acc) (by omega) ⟨x.kind,x.n,x.s,u,v⟩
    have ih := zh hp hm k (i + 1) (pre ++ [(acc.length : Int)]) (acc ++ [⟨x.kind,x.n,x.s,u,v⟩]) (by simp [hpre]) (by omega) (by simp; omega)
    rw [yg ha,xu (by rw [lnM]; exact xz (by simp; omega)),w8 hz2,xB,s2,xN (by omega)]
    simp only [Aj,hpre,hx,hb,e]
    exact ih
   rw [vQ (by simp [h5])]
   by_cases h6 : x.kind = 6
   ·obtain ⟨a0,a1⟩ := zY ho (.inl h6)
    obtain ⟨u,hu,hu'⟩ := IQ (l := (pre ++ (-1) :: List.replicate k 0)) (pre := pre) a0 (by omega) (by intro j hj; exact Gr hj)
    have e : ym pre x = ⟨x.kind,x.n,x.s,u,x.b⟩ := by simp [ym,h6,hu']
    rw [wK (by simp [h6]),wK (by simp [h6]),xu (by rw [List.length_map]; exact Cu a0 (by simp; omega)),w8 hu,xf]
    have ha := Bd (p := acc) (by omega) ⟨x.kind,x.n,x.s,u,x.b⟩
    have ih := zh hp hm k (i + 1) (pre ++ [(acc.length : Int)]) (acc ++ [⟨x.kind,x.n,x.s,u,x.b⟩]) (by simp [hpre]) (by omega) (by simp; omega)
    rw [yg ha,xu (by rw [lnM]; exact xz (by simp; omega)),w8 hz2,xB,s2,xN (by omega)]
    simp only [Aj,hpre,hx,hb,e]
    exact ih
   rw [vQ (by simp [h6])]
   by_cases h7 : x.kind = 7
   ·obtain ⟨a0,a1⟩ := zY ho (.inr h7)
    obtain ⟨u,hu,hu'⟩ := IQ (l := (pre ++ (-1) :: List.replicate k 0)) (pre := pre) a0 (by omega) (by intro j hj; exact Gr hj)
    have e : ym pre x = ⟨x.kind,x.n,x.s,u,x.b⟩ := by simp [ym,h7,hu']
    rw [wK (by simp [h7]),xu (by rw [List.length_map]; exact Cu a0 (by simp; omega)),w8 hu,xf]
    have ha := Bd (p := acc) (by omega) ⟨x.kind,x.n,x.s,u,x.b⟩
    have ih := zh hp hm k (i + 1) (pre ++ [(acc.length : Int)]) (acc ++ [⟨x.kind,x.n,x.s,u,x.b⟩]) (by simp [hpre]) (by omega) (by simp; omega)
    rw [yg ha,xu (by rw [lnM]; exact xz (by simp; omega)),w8 hz2,xB,s2,xN (by omega)]
    simp only [Aj,hpre,hx,hb,e]
    exact ih
   rw [vQ (by simp [h7])]
   ·have e : ym pre x = x := by simp [ym,h5,h6,h7]
    have ha := Bd (p := acc) (by omega) x
    have ih := zh hp hm k (i + 1) (pre ++ [(acc.length : Int)]) (acc ++ [x]) (by simp [hpre]) (by omega) (by simp; omega)
    rw [yg ha,xu (by rw [lnM]; exact xz (by simp; omega)),w8 hz2,xB,s2,xN (by omega)]
    simp only [Aj,hpre,hx,hb,e]
    exact ih
end Go.Eng
/-! what is kept: both sides keep the same -/
namespace Go.Eng
noncomputable section
open Go.Proofs Go.Proofs.Try

theorem Cz (p : List Nd) (rs : List Int) : (z5 p rs).length = p.length := by
 unfold z5; rw [ED,CG]; simp
def zO (d : Int) (q : List Nd) (rs : List Int) (acc : List Nd) : List Int × List Nd := Aj d q (z5 q rs) q.length [] acc
theorem QW {n : Nat} : List.replicate (Int.toNat (ni n)) (iN 0) = (List.replicate n (0 : Int)).map eI := by simp [ni]
theorem Nv {q acc : List Nd} (hp : xT q = true) {rs : List Int} (h2 : rs.length < 4611686018427387904) (hr : yk q rs = true) (hc : acc.length + q.length < 4294967296) :
  V 80 [rP acc,eP q,.rs (1,0) (rs.map eI)] = some (.os (1,0) ((zO (-1) q rs acc).1.map eI),[rP (zO (-1) q rs acc).2]) := by
 have e : (q.map eN).length = q.length := lnM _
 have h := zh hp (Cz q rs) q.length 0 [] acc rfl (Nat.zero_add _) hc
 rw [List.nil_append] at h
 rw [Gk,xu (OX (by omega)),Og (SQ hp h2 hr)]
 have h0 : List.replicate (Int.toNat (ni (q.map eN).length)) (iN 0) = (List.replicate q.length (0 : Int)).map eI := by rw [e]; exact QW
 rw [h0]
 exact h
theorem Cg (d : Int) (q : List Nd) (m : List Bool) : ∀ (k : Nat) (pre : List Int) (acc : List Nd),(Aj d q m k pre acc).1.length = pre.length + k
 | 0,pre,acc => rfl
 | k + 1,pre,acc => by
  simp only [Aj]
  split
  ·rw [Cg d q m k]; simp; omega
  ·rw [Cg d q m k]; simp; omega
theorem Gw (d : Int) (q : List Nd) (m : List Bool) : ∀ (k : Nat) (pre : List Int) (acc : List Nd),(Aj d q m k pre acc).2.length <= acc.length + k
 | 0,pre,acc => Nat.le_refl _
 | k + 1,pre,acc => by
  simp only [Aj]
  split
  ·have := Gw d q m k (pre ++ [(acc.length : Int)]) (acc ++ [ym pre ‹Nd›]); simp at this; omega
  ·have := Gw d q m k (pre ++ [d]) acc; omega

def yJ (d : Int) (q : List Nd) (rs : List Int) : List Nd × List Int := ((zO d q rs []).2,rs.map fun r => (zO d q rs []).1.getD r.toNat 0)
theorem R6 {l : List Int} (h : l.length < 4294967296) (x : D) : decide (ni (l.map eI ++ [x]).length <= LIM) = true :=
 decide_eq_true (by rw [oQ]; simp only [ni,lnA,lnM,lnC,lnN]; omega)
theorem D6 {n : Nat} {a : List Int} (ha : a.length = n) {p : List D} {l : List Int} (h2 : l.length < 4294967296) (hr : ∀ r ∈ l,0 <= r /\ r < (n : Int)) : ∀ (k i : Nat) (out : List Int),i + k = l.length -> out.length = i -> Bg (l.map eI) (ni (l.map eI).length) (i : Int) (a.map eI) (out.map eI) p = some (.tup [.agg [.os (5,0) p],.os (1,0) ((out ++ (l.drop i).map fun r => a.getD r.toNat 0).map eI)],[])
 | 0,i,out,hi,ho => by
  rw [DA,vQ (by rw [lnM]; exact xt (by omega)),List.drop_of_length_le (by omega)]; simp
 | k + 1,i,out,hi,ho => by
  obtain ⟨x,hx⟩ := wt (l := l) (i := i) (by omega)
  have hx2 := hr x (List.mem_of_getElem? hx)
  obtain ⟨u,hu⟩ := Di (l := a) (n := x) hx2.1 (by omega)
  have e : out.map eI ++ [iN u] = (out ++ [u]).map eI := by simp
  have eg : a.getD x.toNat 0 = u := by simp [hu]
  rw [DA,wK (by rw [lnM]; exact xA (by omega)),xu (by rw [lnM]; exact xz (by omega)),Int.toNat_natCast,w8 hx,xf,xu (by rw [lnM]; exact Cu hx2.1 (by omega)),w8 hu,xf,xu (R6 (by omega) _),xB,xN (by omega),e,sy hx,List.map_cons,eg]
  have ih := D6 ha (p := p) h2 hr k (i + 1) (out ++ [u]) (by omega) (by simp; omega)
  rw [List.append_assoc] at ih
  exact ih
theorem Dt {p : List Nd} {rs : List Int} (hr : yk p rs = true) : ∀ r ∈ rs,0 <= r /\ r < (p.length : Int) := by
 intro r h
 have := wi_iff.1 (List.all_eq_true.1 hr r h)
 omega
theorem TZ {q : List Nd} (hp : xT q = true) {rs : List Int} (h2 : rs.length < 4294967296) (hr : yk q rs = true) :
  V 67 [eP q,.rs (1,0) (rs.map eI)] = some (.tup [oP (yJ (-1) q rs).1,.os (1,0) ((yJ (-1) q rs).2.map eI)],[]) := by
 have hl := yq hp
 have hm : V 80 [.op [.os (5,0) []],eP q,.rs (1,0) (rs.map eI)] = _ := Nv (acc := []) hp (rs := rs) (by omega) hr (by simp; omega)
 have h := D6 (Cg (-1) q (z5 q rs) q.length [] []) (p := (zO (-1) q rs []).2.map eN) h2 (by simpa using Dt hr) rs.length 0 [] (Nat.zero_add _) rfl
 rw [NK,Ef hm]
 exact h
def On (m : List Bool) (n : Int) : Prop := m[n.toNat]? = some true
theorem JQ {m : List Bool} {j i : Nat} (h : m[j]? = some true) : (m.set i true)[j]? = some true := by
 by_cases e : i = j
 ·subst e; simp [aQ h]
 ·rw [List.getElem?_set_ne e]; exact h
theorem JR {m : List Bool} {i : Nat} (h : i < m.length) : (m.set i true)[i]? = some true := by simp [h]
theorem PE {x : Nd} {m : List Bool} {j : Nat} (h : m[j]? = some true) : (yQ x m)[j]? = some true := by
 unfold yQ
 split
 ·exact JQ (JQ h)
 ·split
  ·exact JQ h
  ·exact h
theorem BM {p : List Nd} : ∀ (k : Nat) {m : List Bool} {j : Nat},m[j]? = some true -> (yz p k m)[j]? = some true
 | 0,m,j,h => h
 | k + 1,m,j,h => by
  simp only [yz]
  apply BM k
  split
  ·exact PE h
  ·exact h
theorem PD {p : List Nd} (hp : xT p = true) {k : Nat} {x : Nd} (hx : p[k]? = some x) {m : List Bool} {j : Nat} (h : k <= j) : (yQ x m)[j]? = m[j]? := by
 have ho := yG hp hx
 unfold yQ
 split
 ·rename_i h5
  have := yR ho h5
  rw [List.getElem?_set_ne (by omega),List.getElem?_set_ne (by omega)]
 ·split
  ·rename_i h6
   have := zY ho h6
   rw [List.getElem?_set_ne (by omega)]
  ·rfl
theorem JM {p : List Nd} (hp : xT p = true) : ∀ (k : Nat) {m : List Bool} {j : Nat},k <= j -> (yz p k m)[j]? = m[j]?
 | 0,m,j,h => rfl
 | k + 1,m,j,h => by
  simp only [yz]
  rw [JM hp k (by omega)]
  split
  ·rename_i x hx _; exact PD hp ‹_› (by omega)
  ·rfl
def Qq (p : List Nd) (m : List Bool) : Prop := ∀ (i : Nat) (x : Nd),p[i]? = some x -> m[i]? = some true -> (x.kind = 5 -> On m x.a /\ On m x.b) /\ (x.kind = 6 \/ x.kind = 7 -> On m x.a)
theorem Ez {p : List Nd} (hp : xT p = true) : ∀ (k : Nat) {m : List Bool},m.length = p.length -> ∀ (i : Nat) (x : Nd),i < k -> p[i]? = some x -> (yz p k m)[i]? = some true -> (x.kind = 5 -> On (yz p k m) x.a /\ On (yz p k m) x.b) /\ (x.kind = 6 \/ x.kind = 7 -> On (yz p k m) x.a)
 | 0,m,hm,i,x,hi,_,_ => by omega
 | k + 1,m,hm,i,x,hi,hx,hr => by
  by_cases e : i = k
  ·subst e
   have ho := yG hp hx
   rw [yz] at hr ⊢
   have hmi : m[i]? = some true := by
    rw [JM hp i (Nat.le_refl _)] at hr
    split at hr
    ·assumption
    ·exact hr
   rw [hx,hmi]
   show (_ -> On (yz p i (yQ x m)) x.a /\ On (yz p i (yQ x m)) x.b) /\ (_ -> On (yz p i (yQ x m)) x.a)
   have hlt := aQ hx
   refine ⟨fun h5 => ?_,fun h6 => ?_⟩
   ·have := yR ho h5
    have ea : (yQ x m)[x.a.toNat]? = some true := by
     simp only [yQ,h5,if_true]
     exact JQ (JR (by omega))
    have eb : (yQ x m)[x.b.toNat]? = some true := by
     simp only [yQ,h5,if_true]
     exact JR (by simp; omega)
    exact ⟨BM i ea,BM i eb⟩
   ·have := zY ho h6
    have ea : (yQ x m)[x.a.toNat]? = some true := by
     have h5 : ¬ x.kind = 5 := by omega
     simp only [yQ,h5,h6,if_false,if_true]
     exact JR (by omega)
    exact BM i ea
  ·rw [yz] at hr ⊢
   refine Ez hp k ?_ i x (by omega) hx hr
   split
   ·rw [Fw]; exact hm
   ·exact hm
theorem Cy {p : List Nd} (hp : xT p = true) (rs : List Int) : Qq p (z5 p rs) := by
 intro i x hx hr
 exact Ez hp p.length (by rw [CG]; simp) i x (aQ hx) hx hr
theorem Qa {rs : List Int} : ∀ {m : List Bool} {r : Int},(r ∈ rs /\ r.toNat < m.length) \/ m[r.toNat]? = some true -> (EH rs m)[r.toNat]? = some true := by
 induction rs with
 | nil => intro m r h; rcases h with h | h; exact absurd h.1 (by simp); exact h
 | cons q rs ih =>
  intro m r h
  show (EH rs (m.set q.toNat true))[r.toNat]? = some true
  apply ih
  rcases h with ⟨h,hl⟩ | h
  ·rcases List.mem_cons.1 h with rfl | h
   ·right; simp [hl]
   ·left; exact ⟨h,by simpa using hl⟩
  ·right; exact JQ h
theorem EE {p : List Nd} {rs : List Int} (hr : yk p rs = true) : ∀ r ∈ rs,On (z5 p rs) r := by
 intro r h
 have := Dt hr r h
 exact BM _ (Qa (.inl ⟨h,by simp; omega⟩))

end
end Go.Eng
/-! decimal digits,on both sides -/
namespace Go.Eng
open Go.Proofs Go.Proofs.Try

theorem w32 {n : Int} (h0 : 0 <= n) (h1 : n < 1000) : IntKind.wrap .i32 n = n := by
 simp [IntKind.wrap,IntKind.bits,IntKind.signed]; omega
theorem Oq (n : Nat) : Int.tdiv (n : Int) 10 = ((n / 10 : Nat) : Int) := by
 rw [Int.tdiv_eq_ediv_of_nonneg (by omega)]; omega
theorem Ot (n : Nat) : Int.tmod (n : Int) 10 = ((n % 10 : Nat) : Int) := by
 rw [Int.tmod_eq_emod_of_nonneg (by omega)]; omega
theorem KH {d : Nat} (h : d < 10) : Utf8.encode (IntKind.wrap .i32 (w6 (48 + (d : Int)))) = mk [UInt8.ofNat (48 + d)] := by
 rw [w64 (by omega) (by omega),w32 (by omega) (by omega),LG (by omega) (by omega)]
 congr 3
theorem Gt {a b : List UInt8} (ha : a.length <= 1000) (hb : b.length <= 1000) : decide (ni ((mk a).size + (mk b).size) <= LIM) = true :=
 decide_eq_true (by rw [oQ,xP,xP]; simp only [ni]; omega)
theorem Av {n : Nat} (h : n < 1000000000000000000) : (BN n).length <= 20 := by
 have := Gh 18 n (by omega)
 omega
theorem DU : ∀ (n : Nat),n < 1000000000000000000 -> V 56 [iN (n : Int)] = some (.str (mk (BN n)),[]) := by
 intro n
 induction n using Nat.strongRecOn with
 | _ n ih =>
  intro hn
  rw [Fp,vQ (decide_eq_false (by omega)),vQ (decide_eq_false (by omega))]
  by_cases h : n < 10
  ·rw [wK (decide_eq_true (by omega)),KH h,za h]
  ·rw [vQ (decide_eq_false (by omega)),xu (by decide),Oq,w64 (by omega) (by omega),Bl (ih (n / 10) (by omega) (by omega)),xu (by decide),Ot,KH (by omega),xu (Gt (by have := Av (n := n / 10) (by omega); omega) (by simp)),xQ,AJ h]
theorem Mj : ∀ (n : Nat),0 < n -> n < 1000000000000000000 -> V 56 [iN (-(n : Int))] = some (.str (mk (45 :: BN n)),[]) := by
 intro n
 induction n using Nat.strongRecOn with
 | _ n ih =>
  intro h0 hn
  rw [Fp,wK (decide_eq_true (by omega))]
  by_cases h : n < 10
  ·have hd := DU n hn
   rw [wK (decide_eq_true (by omega)),show (0 : Int) - -(n : Int) = n by omega,w64 (by omega) (by omega),Bl hd]
   rw [<- show mk [45] = ⟨#[45]⟩ from rfl,xu (Gt (a := [45]) (by simp) (by have := Av hn; omega)),xQ]
   rfl
  ·have e1 : Int.tdiv (-(n : Int)) 10 = -((n / 10 : Nat) : Int) := by rw [Int.neg_tdiv,Oq]
   have e2 : Int.tmod (-(n : Int)) 10 = -((n % 10 : Nat) : Int) := by rw [Int.neg_tmod,Ot]
   have hd := DU (n % 10) (by omega)
   rw [vQ (decide_eq_false (by omega)),wK (decide_eq_true (by omega)),xu (by decide),e1,w64 (by omega) (by omega),Bl (ih (n / 10) (by omega) (by omega) (by omega)),xu (by decide),e2,show (0 : Int) - -((n % 10 : Nat) : Int) = ((n % 10 : Nat) : Int) by omega,w64 (by omega) (by omega),Bl hd]
   rw [xu (Gt (by have := Av (n := n / 10) (by omega); simp; omega) (by have := Av (n := n % 10) (by omega); omega)),xQ,AJ h,za (show n % 10 < 10 by omega)]
   rfl
theorem Qj {n : Int} (h : n.natAbs < 1000000000000000000) : V 56 [iN n] = some (.str (mk (yc n)),[]) := by
 by_cases h0 : n < 0
 ·have := Mj n.natAbs (by omega) h
  rw [show -(n.natAbs : Int) = n by omega] at this
  rw [this,yc,if_pos h0]
 ·have := DU n.natAbs h
  rw [show (n.natAbs : Int) = n by omega] at this
  rw [this,yc,if_neg h0]
theorem Rz {d : Nat} (h : d < 10) : IntKind.wrap .u8 (w6 (48 + (d : Int))) = 48 + (d : Int) := by
 rw [w64 (by omega) (by omega),Pq (by omega) (by omega)]
end Go.Eng
/-! what is written of a value: the reference's side -/
namespace Go.Eng
noncomputable section
open Go.Proofs Go.Proofs.Try

def zq (x : Nd) : List UInt8 :=
 if x.kind = 1 then [40,41]
 else if x.kind = 2 then (if x.n = 1 then [35,116] else [35,102])
 else if x.kind = 3 then yc x.n
 else if x.kind = 4 then x.s.data.toList
 else if x.kind = 6 then [35,102,117,110] ++ yc x.n
 else if x.kind = 7 then [35,107,111,110,116] ++ yc x.n
 else if x.kind = 8 then [35,112,114,105,109] ++ yc x.n
 else [35,112,105,100] ++ yc x.n
def wr (p : List Nd) : Nat -> Bool -> Nat -> List UInt8 -> List UInt8
 | 0,_,_,out => out
 | g + 1,false,v,out => if out.length > 400 then out else
  match p[v]? with
  | some x => if x.kind = 5 then wr p g true x.b.toNat (wr p g false x.a.toNat (out ++ [40])) else out ++ zq x
  | none => out
 | g + 1,true,v,out =>
  match p[v]? with
  | some x => if x.kind = 5 /\ out.length <= 400 then wr p g true x.b.toNat (wr p g false x.a.toNat (out ++ [32]))
   else if x.kind = 1 then out ++ [41] else wr p g false v (out ++ [32,46,32]) ++ [41]
  | none => out
theorem QL {s : ByteArray} (h : DP s = true) : s.size <= 12 := by
 simp only [DP,Bool.and_eq_true,wi,decide_eq_true_eq] at h; omega
theorem JH {x : Nd} {h : Int} (ho : okN x h = true) (hk : x.kind ≠ 4) : x.n.natAbs <= 1000000000 := by
 unfold okN at ho
 repeat' split at ho
 all_goals (try simp only [Bool.and_eq_true,wi,decide_eq_true_eq] at ho)
 all_goals (first | omega | (cases ho))
theorem QU {x : Nd} {h : Int} (ho : okN x h = true) (hk : x.kind = 4) : DP x.s = true := by
 simp [okN,hk] at ho; exact ho.2.1
theorem y9 {n : Int} (h : n.natAbs <= 1000000000) : (yc n).length <= 12 := by
 have := Gh 9 n.natAbs (by simpa using (by omega : n.natAbs < 10000000000))
 unfold yc; split <;> simp <;> omega
theorem GP {x : Nd} {h : Int} (ho : okN x h = true) : (zq x).length <= 40 := by
 by_cases h4 : x.kind = 4
 ·have := QL (QU ho h4)
  have e : x.s.data.toList.length = x.s.size := by rw [Array.length_toList]; rfl
  simp [zq,h4]
  omega
 ·have := y9 (JH ho h4)
  unfold zq
  repeat' split
  all_goals (first | contradiction | (simp; done) | (simp; omega) | omega)
theorem QT {x : Nd} {h : Int} (ho : okN x h = true) : 1 <= x.kind /\ x.kind <= 9 := by
 unfold okN at ho
 repeat' split at ho
 all_goals (first | omega | (cases ho))
def Me (p : List Nd) (v : Int) : List UInt8 :=
 if xT p = true /\ wi v 0 ((p.length : Int) - 1) = true then (if (wr p (2 * v.toNat + 1) false v.toNat []).length > 400 then [] else wr p (2 * v.toNat + 1) false v.toNat []) else []
end
end Go.Eng
/-! what is written of a value: the program's side,as plain lists -/
namespace Go.Eng
open Go.Proofs Go.Proofs.Try

noncomputable def wm (p : List Nd) : Nat -> Option Bool -> Nat -> List UInt8 -> List UInt8
 | 0,_,_,out => out
 | g + 1,none,v,out => if out.length > 400 then out else
  match p[v]? with
  | some x => if x.kind = 5 \/ x.kind = 1 then wm p g (some true) v (out ++ [40]) ++ [41] else out ++ zq x
  | none => out
 | g + 1,some first,v,out =>
  match p[v]? with
  | some x => if x.kind = 5 /\ out.length <= 400 then wm p g (some false) x.b.toNat (wm p g none x.a.toNat (if first then out else out ++ [32]))
   else if x.kind = 1 \/ x.kind = 5 then out else wm p g none v (out ++ [32,46,32])
  | none => out
noncomputable def Mf (a b : List UInt8) : Prop := a = b \/ (400 < a.length /\ 400 < b.length)
theorem Bu {p : List Nd} : ∀ (g : Nat) (m : Bool) (v : Nat) (out : List UInt8),out.length <= (wr p g m v out).length
 | 0,m,v,out => Nat.le_refl _
 | g + 1,false,v,out => by
  simp only [wr]
  split
  ·exact Nat.le_refl _
  ·split
   ·split
    ·rename_i x _ _
     have h1 := Bu (p := p) g false x.a.toNat (out ++ [40])
     have h2 := Bu (p := p) g true x.b.toNat (wr p g false x.a.toNat (out ++ [40]))
     simp at h1; omega
    ·simp
   ·exact Nat.le_refl _
 | g + 1,true,v,out => by
  simp only [wr]
  split
  ·split
   ·rename_i x _ _
    have h1 := Bu (p := p) g false x.a.toNat (out ++ [32])
    have h2 := Bu (p := p) g true x.b.toNat (wr p g false x.a.toNat (out ++ [32]))
    simp at h1; omega
   ·split
    ·simp
    ·have h1 := Bu (p := p) g false v (out ++ [32,46,32])
     simp at h1 ⊢; omega
  ·exact Nat.le_refl _
theorem GN {p : List Nd} : ∀ (g : Nat) (m : Option Bool) (v : Nat) (out : List UInt8),out.length <= (wm p g m v out).length
 | 0,m,v,out => Nat.le_refl _
 | g + 1,none,v,out => by
  simp only [wm]
  split
  ·exact Nat.le_refl _
  ·split
   ·split
    ·have h1 := GN (p := p) g (some true) v (out ++ [40])
     simp at h1 ⊢; omega
    ·simp
   ·exact Nat.le_refl _
 | g + 1,some first,v,out => by
  simp only [wm]
  split
  ·split
   ·rename_i x _ _
    have h2 := GN (p := p) g (some false) x.b.toNat (wm p g none x.a.toNat (if first then out else out ++ [32]))
    have h1 := GN (p := p) g none x.a.toNat (if first then out else out ++ [32])
    cases first <;> simp at h1 h2 ⊢ <;> omega
   ·split
    ·exact Nat.le_refl _
    ·have h1 := GN (p := p) g none v (out ++ [32,46,32])
     simp at h1 ⊢; omega
  ·exact Nat.le_refl _

theorem IY {p : List Nd} {g g' : Nat} {b : Nat} {r r' : List UInt8} (h : Mf r r') (ih : ∀ o,Mf (wm p g (some false) b o ++ [41]) (wr p g' true b o)) :
  Mf (wm p g (some false) b r ++ [41]) (wr p g' true b r') := by
 rcases h with rfl | ⟨h1,h2⟩
 ·exact ih r
 ·refine .inr ⟨?_,?_⟩
  ·have := GN (p := p) g (some false) b r
   simp; omega
  ·have := Bu (p := p) g' true b r'
   omega
theorem J9 {p : List Nd} (hp : xT p = true) : ∀ (g : Nat),
  (∀ (g' v : Nat) (o : List UInt8),v < p.length -> 2 * v + 3 <= g -> 2 * v + 1 <= g' -> Mf (wm p g none v o) (wr p g' false v o)) /\
  (∀ (g' v : Nat) (o : List UInt8),v < p.length -> 2 * v + 2 <= g -> 2 * v + 2 <= g' -> Mf (wm p g (some false) v o ++ [41]) (wr p g' true v o))
 | 0 => ⟨fun g' v o _ h _ => by omega,fun g' v o _ h _ => by omega⟩
 | g + 1 => by
  obtain ⟨ihv,iht⟩ := J9 hp g
  refine ⟨fun g' v o hv hg hg' => ?_,fun g' v o hv hg hg' => ?_⟩
  ·obtain ⟨x,hx⟩ := wt hv
   have hok := yG hp hx
   cases g' with
   | zero => omega
   | succ g' =>
   cases g with
   | zero => omega
   | succ g =>
   simp only [wm,wr,hx,if_true]
   by_cases hf : o.length > 400
   ·rw [if_pos hf,if_pos hf]; exact .inl rfl
   rw [if_neg hf,if_neg hf]
   by_cases h5 : x.kind = 5
   ·have hk := yR hok h5
    rw [if_pos (.inl h5),if_pos h5]
    by_cases hl : (o ++ [40]).length <= 400
    ·rw [if_pos ⟨h5,hl⟩]
     obtain ⟨ihv2,iht2⟩ := J9 hp g
     exact IY (ihv2 g' x.a.toNat (o ++ [40]) (by omega) (by omega) (by omega)) (fun r => iht2 g' x.b.toNat r (by omega) (by omega) (by omega))
    ·rw [if_neg (fun h => hl h.2),if_pos (.inr h5)]
     refine .inr ⟨by simp at hl ⊢; omega,?_⟩
     have h1 := Bu (p := p) g' false x.a.toNat (o ++ [40])
     have h2 := Bu (p := p) g' true x.b.toNat (wr p g' false x.a.toNat (o ++ [40]))
     omega
   ·rw [if_neg h5]
    by_cases h1 : x.kind = 1
    ·rw [if_pos (.inr h1),if_neg (fun h => h5 h.1),if_pos (.inl h1)]
     exact .inl (by simp [zq,h1])
    ·rw [if_neg (fun h => h.elim h5 h1)]; exact .inl rfl
  ·obtain ⟨x,hx⟩ := wt hv
   have hok := yG hp hx
   cases g' with
   | zero => omega
   | succ g' =>
   simp only [wm,wr,hx,Bool.false_eq_true,if_false]
   by_cases h5 : x.kind = 5
   ·have hk := yR hok h5
    by_cases hl : o.length <= 400
    ·rw [if_pos ⟨h5,hl⟩,if_pos ⟨h5,hl⟩]
     exact IY (ihv g' x.a.toNat (o ++ [32]) (by omega) (by omega) (by omega)) (fun r => iht g' x.b.toNat r (by omega) (by omega) (by omega))
    ·rw [if_neg (fun h => hl h.2),if_pos (.inr h5),if_neg (fun h => hl h.2),if_neg (by omega)]
     refine .inr ⟨by simp; omega,?_⟩
     have := Bu (p := p) g' false v (o ++ [32,46,32])
     simp at this ⊢; omega
   ·by_cases h1 : x.kind = 1
    ·rw [if_neg (fun h => h5 h.1),if_pos (.inl h1),if_neg (fun h => h5 h.1),if_pos h1]; exact .inl rfl
    ·rw [if_neg (fun h => h5 h.1),if_neg (fun h => h.elim h1 h5),if_neg (fun h => h5 h.1),if_neg h1]
     cases g with
     | zero => omega
     | succ g =>
     cases g' with
     | zero => omega
     | succ g' =>
     simp only [wm,wr,hx]
     by_cases hf : (o ++ [32,46,32]).length > 400
     ·rw [if_pos hf,if_pos hf]; exact .inl rfl
     ·rw [if_neg hf,if_neg (fun h => h.elim h5 h1),if_neg hf,if_neg h5]; exact .inl rfl
termination_by g => g
end Go.Eng
/-! what is written of a value: the program's side -/
namespace Go.Eng
open Go.Proofs Go.Proofs.Try

theorem lit (l : List UInt8) : (ByteArray.mk l.toArray) = mk l := rfl
noncomputable abbrev wO (p : List Nd) (o : List UInt8) : D := .op [.rs (5,0) (p.map eN),.os (1,0) (o.map eU)]
theorem zg (p : List Nd) (o : List UInt8) : V 30 [wO p o] = some (.bool (decide (o.length > 400)),[wO p o]) := by
 rw [FT,lnM]
 simp only [vJ,gt_iff_lt]
 by_cases h : 400 < o.length
 ·rw [decide_eq_true h,decide_eq_true (by omega)]
 ·rw [decide_eq_false h,decide_eq_false (by omega)]
theorem GL (p : List Nd) {o s : List UInt8} (h : o.length + s.length <= 4294967296) : V 54 [wO p o,.str (mk s)] = some (.tup [],[wO p (o ++ s)]) := by
 rw [FU,Pu]
 simp (disch := first | omega | (simp only [lnA,lnC,lnN,lnM,xP,vJ]; omega)) only [↓wW,↓xB,xK,lnM,lnA,oQ,vJ,xm]
theorem SW {p : List Nd} (hp : xT p = true) (g : Nat) {v : Nat} {x : Nd} (hx : p[v]? = some x) (h5 : ¬ x.kind = 5) (h1 : ¬ x.kind = 1) (out : List UInt8) :
  (out.length <= 400 -> (wm p g none v out).length <= 440) /\ (400 < out.length -> (wm p g none v out).length = out.length) := by
 cases g with
 | zero => simp only [wm]; exact ⟨fun h => by omega,fun h => trivial⟩
 | succ g =>
  have := GP (yG hp hx)
  simp only [wm,hx]
  refine ⟨fun h => ?_,fun h => by rw [if_pos h]⟩
  rw [if_neg (by omega),if_neg (fun h => h.elim h5 h1)]
  simp only [lnA]; omega
theorem Kc {p : List Nd} (hp : xT p = true) : ∀ (g : Nat) (v : Nat) (out : List UInt8),
  ((out.length <= 400 -> (wm p g none v out).length <= 450 + 50 * v) /\ (400 < out.length -> (wm p g none v out).length = out.length)) /\
  (∀ first,(out.length <= 400 -> (wm p g (some first) v out).length <= 449 + 50 * v) /\ (400 < out.length -> (wm p g (some first) v out).length <= out.length + 3))
 | 0,v,out => by simp only [wm]; exact ⟨⟨fun h => by omega,fun h => trivial⟩,fun f => ⟨fun h => by omega,fun h => by omega⟩⟩
 | g + 1,v,out => by
  refine ⟨⟨fun h => ?_,fun h => by simp only [wm]; rw [if_pos h]⟩,fun first => ?_⟩
  ·simp only [wm]
   rw [if_neg (by omega)]
   split
   ·rename_i x hx
    split
    ·have h1 := (Kc hp g v (out ++ [40])).2 true
     simp only [lnA,lnC,lnN] at h1 ⊢
     by_cases c : out.length + 1 <= 400
     ·have := h1.1 c; omega
     ·have := h1.2 (by omega); omega
    ·have := GP (yG hp hx)
     simp only [lnA]; omega
   ·omega
  ·simp only [wm]
   split
   ·rename_i x hx
    split
    ·rename_i hc
     have hk := yR (yG hp hx) hc.1
     have h1 := (Kc hp g x.a.toNat (if first then out else out ++ [32])).1
     have h2 := (Kc hp g x.b.toNat (wm p g none x.a.toNat (if first then out else out ++ [32]))).2 false
     have hs : (if first = true then out else out ++ [32]).length <= 401 := by split <;> (try simp only [lnA,lnC,lnN]) <;> omega
     refine ⟨fun h => ?_,fun h => by omega⟩
     by_cases c : (if first = true then out else out ++ [32]).length <= 400
     ·have h3 := h1.1 c
      by_cases c2 : (wm p g none x.a.toNat (if first then out else out ++ [32])).length <= 400
      ·have := h2.1 c2; omega
      ·have := h2.2 (by omega); omega
     ·have h3 := h1.2 (by omega)
      have := h2.2 (by omega); omega
    ·rename_i hc
     split
     ·exact ⟨fun h => by omega,fun h => by omega⟩
     ·rename_i h15
      have h1 := SW hp g hx (fun h => h15 (.inr h)) (fun h => h15 (.inl h)) (out ++ [32,46,32])
      simp only [lnA,lnC,lnN] at h1
      refine ⟨fun h => ?_,fun h => ?_⟩
      ·by_cases c : out.length + 3 <= 400
       ·have := h1.1 c; omega
       ·have := h1.2 (by omega); omega
      ·have := h1.2 (by omega); omega
   ·exact ⟨fun h => by omega,fun h => by omega⟩

theorem KN {p : List Nd} (hp : xT p = true) {v : Nat} {x : Nd} (hx : p[v]? = some x) (h5 : ¬ x.kind = 5) (h1 : ¬ x.kind = 1) {out : List UInt8} (ho : out.length <= 400) :
  V 29 [wO p out,iN (v : Int)] = some (.tup [],[wO p (out ++ zq x)]) := by
 have hok := yG hp hx
 have hk := QT hok
 have hv := aQ hx
 have hl := GP hok
 have ht : ∀ s : List UInt8,s.length <= 40 -> V 54 [wO p out,.str (mk s)] = some (.tup [],[wO p (out ++ s)]) := fun s hs => GL p (by omega)
 rw [zJ]
 by_cases h2 : x.kind = 2
 ·have e : zq x = if x.n = 1 then [35,116] else [35,102] := by simp [zq,h2]
  rw [e]
  by_cases hn : x.n = 1
  ·rw [if_pos hn]; simp (disch := first | omega | (simp only [lnA,lnC,lnN,lnM,xP,vJ]; omega)) only [↓vK,vZ,↓xl,↓wJ,↓wW,↓xp,↓xc,↓xf,↓wH,↓xj,↓xh,↓xi,↓wq,↓ws,↓xg,↓w9,xK,xJ,xG,xF,Bool.and_true,lnM,vJ,↓w8 hx,zg,lit,ht]
  ·rw [if_neg hn]; simp (disch := first | omega | (simp only [lnA,lnC,lnN,lnM,xP,vJ]; omega)) only [↓vK,vZ,↓xl,↓wJ,↓wW,↓xp,↓xc,↓xf,↓wH,↓xj,↓xh,↓xi,↓wq,↓ws,↓xg,↓w9,xK,xJ,xG,xF,Bool.and_true,lnM,vJ,↓w8 hx,zg,lit,ht]
 by_cases h4 : x.kind = 4
 ·have e : zq x = x.s.data.toList := by simp [zq,h4]
  rw [e] at hl ⊢
  have hs := ht x.s.data.toList hl
  rw [QH] at hs
  simp (disch := first | omega | (simp only [lnA,lnC,lnN,lnM,xP,vJ]; omega)) only [↓vK,vZ,↓xl,↓wJ,↓wW,↓xp,↓xc,↓xf,↓wH,↓xj,↓xh,↓xi,↓wq,↓ws,↓xg,↓w9,xK,xJ,xG,xF,Bool.and_true,lnM,vJ,↓w8 hx,zg,hs]
 have hd := JH hok h4
 have hdg := Qj (n := x.n) (by omega)
 have hdn := y9 hd
 by_cases h3 : x.kind = 3
 ·have e : zq x = yc x.n := by simp [zq,h3]
  rw [e]
  simp (disch := first | omega | (simp only [lnA,lnC,lnN,lnM,xP,vJ]; omega)) only [↓vK,vZ,↓xl,↓wJ,↓wW,↓xp,↓xc,↓xf,↓wH,↓xj,↓xh,↓xi,↓wq,↓ws,↓xg,↓w9,xK,xJ,xG,xF,Bool.and_true,lnM,vJ,↓w8 hx,zg,hdg,ht]
 by_cases h6 : x.kind = 6
 ·have e : zq x = [35,102,117,110] ++ yc x.n := by simp [zq,h6]
  rw [e]
  simp (disch := first | omega | (simp only [lnA,lnC,lnN,lnM,xP,vJ]; omega)) only [↓vK,vZ,↓wJ,↓wW,↓xp,↓xc,↓xf,↓wH,↓xj,↓xh,↓xi,↓wq,↓ws,↓xg,↓wu,wu,Int.reduceSub,Int.reduceToNat,↓w9,xK,xJ,xF,Bool.and_true,lnM,lnC,lnN,oQ,wS,vJ,↓w8 hx,zg,hdg,h6,lit,xQ,xP,ht]
 by_cases h7 : x.kind = 7
 ·have e : zq x = [35,107,111,110,116] ++ yc x.n := by simp [zq,h7]
  rw [e]
  simp (disch := first | omega | (simp only [lnA,lnC,lnN,lnM,xP,vJ]; omega)) only [↓vK,vZ,↓wJ,↓wW,↓xp,↓xc,↓xf,↓wH,↓xj,↓xh,↓xi,↓wq,↓ws,↓xg,↓ww,ww,Int.reduceSub,Int.reduceToNat,↓w9,xK,xJ,xF,Bool.and_true,lnM,lnC,lnN,oQ,wS,vJ,↓w8 hx,zg,hdg,h7,lit,xQ,xP,ht]
 by_cases h8 : x.kind = 8
 ·have e : zq x = [35,112,114,105,109] ++ yc x.n := by simp [zq,h8]
  rw [e]
  simp (disch := first | omega | (simp only [lnA,lnC,lnN,lnM,xP,vJ]; omega)) only [↓vK,vZ,↓wJ,↓wW,↓xp,↓xc,↓xf,↓wH,↓xj,↓xh,↓xi,↓wq,↓ws,↓xg,↓wx,wx,Int.reduceSub,Int.reduceToNat,↓w9,xK,xJ,xF,Bool.and_true,lnM,lnC,lnN,oQ,wS,vJ,↓w8 hx,zg,hdg,h8,lit,xQ,xP,ht]
 have h9 : x.kind = 9 := by omega
 have e : zq x = [35,112,105,100] ++ yc x.n := by simp [zq,h9]
 rw [e]
 simp (disch := first | omega | (simp only [lnA,lnC,lnN,lnM,xP,vJ]; omega)) only [↓vK,vZ,↓wJ,↓wW,↓xp,↓xc,↓xf,↓wH,↓xj,↓xh,↓xi,↓wq,↓ws,↓xg,↓wy,wy,Int.reduceSub,Int.reduceToNat,↓w9,xK,xJ,xF,Bool.and_true,lnM,lnC,lnN,oQ,wS,vJ,↓w8 hx,zg,hdg,h9,lit,xQ,xP,ht]
theorem KO {p : List Nd} {v : Nat} {x : Nd} (hx : p[v]? = some x) {out : List UInt8} (ho : 400 < out.length) :
  V 29 [wO p out,iN (v : Int)] = some (.tup [],[wO p out]) := by
 have hv := aQ hx
 rw [zJ]
 simp (disch := first | omega | (simp only [lnA,lnC,lnN,lnM,xP,vJ]; omega)) only [↓vK,vZ,↓xl,↓wW,↓xp,↓xc,↓xf,↓wH,↓xj,↓xh,↓xi,↓wq,↓xg,↓w9,xK,Bool.and_true,lnM,vJ,↓w8 hx,zg]
theorem Jk {p : List Nd} (hp : xT p = true) : ∀ (g : Nat),
  (∀ (v : Nat) (out : List UInt8),v < p.length -> 2 * v + 3 <= g -> out.length <= 300010 -> V 29 [wO p out,iN (v : Int)] = some (.tup [],[wO p (wm p g none v out)])) /\
  (∀ (v : Nat) (first : Bool) (out : List UInt8),v < p.length -> 2 * v + 2 <= g -> out.length <= 300000 -> yE (v : Int) first (p.map eN) (out.map eU) = some (.tup [],[wO p (wm p g (some first) v out)]))
 | 0 => ⟨fun v out _ h _ => by omega,fun v f out _ h _ => by omega⟩
 | g + 1 => by
  obtain ⟨ihv,iht⟩ := Jk hp g
  have hl := yq hp
  refine ⟨fun v out hv hg ho => ?_,fun v first out hv hg ho => ?_⟩
  ·obtain ⟨x,hx⟩ := wt hv
   have hok := yG hp hx
   by_cases hf : out.length > 400
   ·rw [KO hx hf]; simp only [wm,if_pos hf]
   by_cases h15 : x.kind = 5 \/ x.kind = 1
   ·have h2 := iht v true (out ++ [40]) hv (by omega) (by simp; omega)
    have hlen := ((Kc hp g v (out ++ [40])).2 true)
    simp only [lnA,lnC,lnN] at hlen
    have hle : (wm p g (some true) v (out ++ [40])).length <= 200000 := by
     by_cases c : out.length + 1 <= 400
     ·have := hlen.1 c; omega
     ·have := hlen.2 (by omega); omega
    have h3 : V 55 [wO p (out ++ [40]),iN (v : Int)] = some (.tup [],[wO p (wm p g (some true) v (out ++ [40]))]) := by
     rw [Fi]; exact h2
    have t1 : V 54 [wO p out,.str (mk [40])] = some (.tup [],[wO p (out ++ [40])]) := GL p (by simp; omega)
    have t2 : V 54 [wO p (wm p g (some true) v (out ++ [40])),.str (mk [41])] = some (.tup [],[wO p (wm p g (some true) v (out ++ [40]) ++ [41])]) := GL p (by simp; omega)
    have e : wm p (g + 1) none v out = wm p g (some true) v (out ++ [40]) ++ [41] := by
     simp only [wm,if_neg hf,hx,if_pos h15]
    rw [e,zJ]
    rcases h15 with h | h
    ·simp (disch := first | omega | (simp only [lnA,lnC,lnN,lnM,xP,vJ]; omega)) only [↓vK,vZ,↓xl,↓wJ,↓wW,↓xp,↓xc,↓xf,↓wH,↓xj,↓xh,↓xi,↓wq,↓ws,↓xg,↓w9,xK,xJ,xG,xF,Bool.and_true,lnM,vJ,↓w8 hx,zg,lit,t1,t2,h3]
    ·simp (disch := first | omega | (simp only [lnA,lnC,lnN,lnM,xP,vJ]; omega)) only [↓vK,vZ,↓xl,↓wJ,↓wW,↓xp,↓xc,↓xf,↓wH,↓xj,↓xh,↓xi,↓wq,↓ws,↓xg,↓w9,xK,xJ,xG,Bool.and_true,lnM,vJ,↓w8 hx,zg,lit,t1,t2,h3]
   ·rw [KN hp hx (fun h => h15 (.inl h)) (fun h => h15 (.inr h)) (by omega)]
    simp only [wm,if_neg hf,hx,if_neg h15]
  ·obtain ⟨x,hx⟩ := wt hv
   have hok := yG hp hx
   rw [Cn]
   by_cases h5 : x.kind = 5
   ·by_cases hf : out.length <= 400
    ·have hk := yR hok h5
     obtain ⟨ka,hka⟩ := Int.eq_ofNat_of_zero_le hk.1
     obtain ⟨kb,hkb⟩ := Int.eq_ofNat_of_zero_le hk.2.2.1
     have hw : ∀ o : List UInt8,o.length <= 401 -> (wm p g none ka o).length <= 200000 := fun o ho => by
      have h := (Kc hp g ka o).1
      by_cases c : o.length <= 400
      ·have := h.1 c; omega
      ·have := h.2 (by omega); omega
     have hc : x.kind = 5 /\ out.length <= 400 := ⟨h5,hf⟩
     have e : wm p (g + 1) (some first) v out = wm p g (some false) kb (wm p g none ka (if first then out else out ++ [32])) := by
      simp only [wm,hx,if_pos hc,hka,hkb,Int.toNat_natCast]
     rw [e]
     cases first with
     | true =>
      have h1 := ihv ka out (by omega) (by omega) (by omega)
      have h2 := iht kb false (wm p g none ka out) (by omega) (by omega) (by have := hw out (by omega); omega)
      simp (disch := first | omega | (simp only [lnA,lnC,lnN,lnM,xP,vJ]; omega)) only [↓vK,vZ,↓xl,↓wJ,↓wW,↓xp,↓xc,↓xf,↓wH,↓xh,↓xi,↓wq,↓ws,↓xg,↓wu,↓wy,↓wz,wu,wy,wz,↓w9,xK,xJ,xG,Bool.and_true,Bool.not_true,Bool.not_false,lnM,vJ,↓w8 hx,zg,hka,hkb,h1,h2,if_true]
     | false =>
      have t1 : V 54 [wO p out,.str (mk [32])] = some (.tup [],[wO p (out ++ [32])]) := GL p (by simp; omega)
      have h1 := ihv ka (out ++ [32]) (by omega) (by omega) (by simp; omega)
      have h2 := iht kb false (wm p g none ka (out ++ [32])) (by omega) (by omega) (by have := hw (out ++ [32]) (by simp; omega); omega)
      simp (disch := first | omega | (simp only [lnA,lnC,lnN,lnM,xP,vJ]; omega)) only [↓vK,vZ,↓xl,↓wW,↓xp,↓xc,↓xf,↓wH,↓xh,↓xi,↓wq,↓ws,↓xg,↓wu,↓wy,↓wz,wu,wy,wz,↓w9,xK,xJ,xG,Bool.true_and,Bool.and_true,Bool.not_false,lnM,vJ,↓w8 hx,zg,lit,t1,hka,hkb,h1,h2,if_false,Bool.false_eq_true]
    ·have e : wm p (g + 1) (some first) v out = out := by
      simp only [wm,hx,if_neg (fun h : x.kind = 5 /\ out.length <= 400 => hf h.2),if_pos (show x.kind = 1 \/ x.kind = 5 from .inr h5)]
     rw [e]
     simp (disch := first | omega | (simp only [lnA,lnC,lnN,lnM,xP,vJ]; omega)) only [↓vK,vZ,↓xl,↓wJ,↓wW,↓xp,↓xc,↓xf,↓wH,↓xh,↓xi,↓wq,↓xg,↓wu,wu,↓w9,xK,xG,xI,xH,Bool.and_true,Bool.not_true,lnM,vJ,↓w8 hx,zg]
   ·by_cases h1 : x.kind = 1
    ·have e : wm p (g + 1) (some first) v out = out := by
      simp only [wm,hx,if_neg (fun h : x.kind = 5 /\ out.length <= 400 => h5 h.1),if_pos (show x.kind = 1 \/ x.kind = 5 from .inl h1)]
     rw [e]
     simp (disch := first | omega | (simp only [lnA,lnC,lnN,lnM,xP,vJ]; omega)) only [↓wJ,↓wW,↓xf,↓wq,↓wu,wu,↓w9,xK,xF,xH,Bool.and_true,lnM,vJ,↓w8 hx]
    ·have e : wm p (g + 1) (some first) v out = wm p g none v (out ++ [32,46,32]) := by
      simp only [wm,hx,if_neg (fun h : x.kind = 5 /\ out.length <= 400 => h5 h.1),if_neg (fun h : x.kind = 1 \/ x.kind = 5 => h.elim h1 h5)]
     have t1 : V 54 [wO p out,.str (mk [32,46,32])] = some (.tup [],[wO p (out ++ [32,46,32])]) := GL p (by simp; omega)
     have h2 : V 29 [wO p (out ++ [32,46,32]),iN (v : Int)] = some (.tup [],[wO p (wm p g none v (out ++ [32,46,32]))]) := by
      cases g with
      | zero => omega
      | succ g =>
      by_cases hf : (out ++ [32,46,32]).length > 400
      ·rw [KO hx hf]; simp only [wm,if_pos hf]
      ·rw [KN hp hx h5 h1 (by omega)]
       simp only [wm,if_neg hf,hx,if_neg (fun h : x.kind = 5 \/ x.kind = 1 => h.elim h5 h1)]
     rw [e]
     simp (disch := first | omega | (simp only [lnA,lnC,lnN,lnM,xP,vJ]; omega)) only [↓vK,vZ,↓xl,↓wJ,↓wW,↓xp,↓xc,↓xf,↓xh,↓xi,↓wq,↓ws,↓xg,↓wu,wu,↓w9,xK,xF,xI,Bool.and_true,lnM,vJ,↓w8 hx,lit,t1,h2]

theorem LU {p : List Nd} (hf : Bv p) (hl : p.length < 4611686018427387904) (v : Int) : V 13 [eP p,iN v] = some (.str (mk (Me p v)),[]) := by
 rw [Mo]
 unfold Me
 cases hp : xT p with
 | false => rw [if_neg (by simp)]; simp (disch := first | omega | (simp only [lnA,lnC,lnN,lnM,xP,vJ]; omega)) only [↓vK,vZ,↓xl,↓xp,↓wH,Bool.not_false,yo hf hl,hp,lit]
 | true =>
  cases hv : wi v 0 ((p.length : Int) - 1) with
  | false => rw [if_neg (by simp)]; simp (disch := first | omega | (simp only [lnA,lnC,lnN,lnM,xP,vJ]; omega)) only [↓vK,vZ,↓xl,↓wJ,↓xp,↓wH,Bool.not_true,Bool.not_false,yo hf hl,hp,zk hl v,hv,lit]
  | true =>
   have h := wi_iff.1 hv
   obtain ⟨n,rfl⟩ := Int.eq_ofNat_of_zero_le h.1
   obtain ⟨x,hx⟩ := wt (l := p) (i := n) (by omega)
   rw [if_pos ⟨rfl,rfl⟩,Int.toNat_natCast]
   by_cases h1 : x.kind = 1
   ·have e : wr p (2 * n + 1) false n [] = [40,41] := by simp [wr,hx,h1,zq]
    rw [e,if_neg (by simp)]
    simp (disch := first | omega | (simp only [lnA,lnC,lnN,lnM,xP,vJ]; omega)) only [↓vK,vZ,↓xl,↓wJ,↓wW,↓xp,↓xf,↓wH,↓wq,↓wu,wu,xK,xG,Bool.and_true,Bool.not_true,lnM,vJ,yo hf hl,hp,zk hl,hv,↓w8 hx,lit]
   ·have hw : V 29 [.op [.rs (5,0) (p.map eN),.os (1,0) []],iN (n : Int)] = some (.tup [],[wO p (wm p (2 * n + 3) none n [])]) := (Jk hp (2 * n + 3)).1 n [] (by omega) (Nat.le_refl _) (by simp)
    have ha := (J9 hp (2 * n + 3)).1 (2 * n + 1) n [] (by omega) (by omega) (by omega)
    by_cases hc : (wm p (2 * n + 3) none n []).length > 400
    ·have hc2 : (wr p (2 * n + 1) false n []).length > 400 := by
      rcases ha with ha | ⟨_,ha⟩
      ·rw [<- ha]; exact hc
      ·exact ha
     rw [if_pos hc2]
     simp (disch := first | omega | (simp only [lnA,lnC,lnN,lnM,xP,vJ]; omega)) only [↓vK,vZ,↓xl,↓wJ,↓wW,↓xp,↓xc,↓xf,↓wH,↓xh,↓xi,↓wq,↓ws,↓xg,↓wu,wu,xK,xF,Bool.and_true,Bool.not_true,lnM,vJ,yo hf hl,hp,zk hl,hv,↓w8 hx,lit,hw,zg]
    ·have ha2 : wm p (2 * n + 3) none n [] = wr p (2 * n + 1) false n [] := by
      rcases ha with ha | ⟨h,_⟩
      ·exact ha
      ·exact absurd h hc
     rw [<- ha2,if_neg hc]
     simp (disch := first | omega | (simp only [lnA,lnC,lnN,lnM,xP,vJ]; omega)) only [↓vK,vZ,↓wJ,↓wW,↓xp,↓xc,↓xf,↓wH,↓xh,↓xi,↓wq,↓ws,↓xg,↓wu,wu,xK,xJ,xF,Bool.and_true,Bool.not_true,lnM,vJ,yo hf hl,hp,zk hl,hv,↓w8 hx,hw,zg,↓Jx]
end Go.Eng
/-! words of a text,on both sides -/
namespace Go.Eng
noncomputable section
open Go.Proofs Go.Proofs.Try
set_option maxHeartbeats 4000000

def dU (x : UInt8) : Bool := decide (48 <= x.toNat) && decide (x.toNat <= 57)
def zD (x : UInt8) : Bool := nmB (x.toNat : Int) || (dU x || (x.toNat : Int) == 35)
theorem dU_iff {x : UInt8} : dU x = true ↔ 48 <= x.toNat /\ x.toNat <= 57 := by simp [dU]
theorem Tv (x : UInt8) : br (decide ((x.toNat : Int) >= 48)) (some (D.bool (decide ((x.toNat : Int) <= 57)),([] : List D))) (some (D.bool false,[])) = some (.bool (dU x),[]) := by
 unfold dU
 by_cases h1 : 48 <= x.toNat
 ·by_cases h2 : x.toNat <= 57
  ·rw [wK (decide_eq_true (by omega)),decide_eq_true (by omega),decide_eq_true h1,decide_eq_true h2]; rfl
  ·rw [wK (decide_eq_true (by omega)),decide_eq_false (by omega),decide_eq_true h1,decide_eq_false h2]; rfl
 ·rw [vQ (decide_eq_false (by omega)),decide_eq_false h1]; rfl
theorem G9 (x : UInt8) : V 59 [.int .u8 (x.toNat : Int)] = some (.bool (dU x),[]) := (Ki _).trans (Tv x)
theorem GK (x : UInt8) : V 34 [.int .u8 (x.toNat : Int)] = some (.bool (zD x),[]) := by
 rw [GT,DB (GJ _),Dp (G9 x),Tc,Tc]; rfl
def Ky (acc : Nat) (l : List UInt8) : Nat := l.foldl (fun n x => 10 * n + (x.toNat - 48)) acc
theorem Pp : ∀ (l : List UInt8) (acc k : Nat),l.all dU = true -> acc < 10 ^ k -> Ky acc l < 10 ^ (k + l.length)
 | [],acc,k,_,h => h
 | x :: l,acc,k,hl,h => by
  rw [List.all_cons,Bool.and_eq_true] at hl
  have hx := dU_iff.1 hl.1
  have := Pp l (10 * acc + (x.toNat - 48)) (k + 1) hl.2 (by rw [Nat.pow_succ]; omega)
  rw [lnC]
  have e : k + (l.length + 1) = k + 1 + l.length := by omega
  rw [e]; exact this
abbrev noW : D := .tup [iN 0,.bool false]
theorem MZ {k : Nat} (h : k <= 10) : 10 ^ k <= 10000000000 := by
 have : 10 ^ k <= 10 ^ 10 := Nat.pow_le_pow_right (by omega) h
 simpa using this
theorem MI {l : List UInt8} (hl : l.length <= 10) : ∀ (k i acc : Nat),i + k = l.length -> acc < 10 ^ i -> y0 (mk l) (acc : Int) (ni l.length) (i : Int) = some (if (l.drop i).all dU = true then .tup [iN (Ky acc (l.drop i) : Nat),.bool true] else noW,[])
 | 0,i,acc,hi,ha => by
  rw [Bz,List.drop_of_length_le (by omega)]
  simp (disch := first | omega | (simp only [lnA,lnC,lnN,lnM,xP,vJ]; omega)) only [↓wJ,xJ,vJ]
  rfl
 | k + 1,i,acc,hi,ha => by
  obtain ⟨x,hx⟩ := wt (l := l) (i := i) (by omega)
  have hp := MZ (k := i) (by omega)
  have hb := Ig hx
  have hd := G9 x
  rw [Bz,wK (xA (by omega)),xu (by rw [xP]; exact xz (by omega)),hb,Dp hd,sy hx,List.all_cons]
  cases h : dU x with
  | false => rw [Bool.not_false,xl,if_neg (by simp)]
  | true =>
   have hx2 := dU_iff.1 h
   have e1 : IntKind.wrap .u8 ((x.toNat : Int) - 48) = ((x.toNat - 48 : Nat) : Int) := by rw [Pq (by omega) (by omega)]; omega
   have e2 : w6 (w6 (10 * (acc : Int)) + w6 ((x.toNat - 48 : Nat) : Int)) = ((10 * acc + (x.toNat - 48) : Nat) : Int) := by
    rw [w64 (n := 10 * (acc : Int)) (by omega) (by omega),w64 (n := ((x.toNat - 48 : Nat) : Int)) (by omega) (by omega),w64 (by omega) (by omega)]; omega
   have ih := MI hl k (i + 1) (10 * acc + (x.toNat - 48)) (by omega) (by rw [Nat.pow_succ]; omega)
   rw [Bool.not_true,wJ,xu (by rw [xP]; exact xz (by omega)),e1,e2,xN (by omega),ih,Bool.true_and]
   rfl
def CY (l : List UInt8) : Option Nat := if l.length = 0 \/ 10 < l.length \/ (l[0]? = some 48 /\ 1 < l.length) \/ l.all dU = false then none else some (Ky 0 l)
def T8 (r : Option Nat) : D := match r with | some n => .tup [iN (n : Int),.bool true] | none => noW
theorem K8 (l : List UInt8) (hb : l.length < 4611686018427387904) : V 60 [.str (mk l),iN 10] = some (T8 (CY l),[]) := by
 have he : jJ (mk l) ⟨#[]⟩ = decide (l = []) := JS l []
 rw [Km,he,xP]
 unfold CY
 by_cases h0 : l = []
 ·subst h0; rfl
 have hz : l.length ≠ 0 := fun h => h0 (List.eq_nil_of_length_eq_zero h)
 rw [vQ (decide_eq_false h0)]
 by_cases h1 : 10 < l.length
 ·rw [wK (decide_eq_true (by simp only [ni]; omega)),if_pos (.inr (.inl h1))]; rfl
 rw [vQ (decide_eq_false (by simp only [ni]; omega))]
 obtain ⟨x,hx⟩ := wt (l := l) (i := 0) (by omega)
 have hbt : bt (mk l) 0 = (x.toNat : Int) := Ig hx
 have hl := MI (l := l) (by omega) l.length 0 0 (by omega) (by simp)
 rw [Int.natCast_zero,List.drop_zero] at hl
 rw [xu (by simp only [ni,Bool.and_eq_true,decide_eq_true_eq]; omega),hbt]
 have fin : ¬ (l[0]? = some 48 /\ 1 < l.length) -> y0 (mk l) 0 (ni l.length) 0 = some (T8 (if l.length = 0 \/ 10 < l.length \/ (l[0]? = some 48 /\ 1 < l.length) \/ l.all dU = false then none else some (Ky 0 l)),[]) := by
  intro hn
  rw [hl]
  cases ha : l.all dU with
  | false => rw [if_neg (by simp),if_pos (.inr (.inr (.inr rfl)))]; rfl
  | true => rw [if_pos rfl,if_neg (by rintro (h | h | h | h) <;> first | omega | exact hn h | cases h)]; rfl
 by_cases h48 : x.toNat = 48
 ·have hx48 : l[0]? = some 48 := by rw [hx]; congr 1; exact UInt8.toNat_inj.1 h48
  rw [wK (by simp [h48])]
  by_cases hl1 : 1 < l.length
  ·rw [wK (decide_eq_true (by simp only [ni]; omega)),if_pos (.inr (.inr (.inl ⟨hx48,hl1⟩)))]; rfl
  ·rw [vQ (decide_eq_false (by simp only [ni]; omega))]
   exact fin (fun h => hl1 h.2)
 ·have hx48 : l[0]? ≠ some 48 := by
   rw [hx]; intro h; apply h48; cases h; rfl
  rw [vQ (by simp only [beq_eq_false_iff_ne,ne_eq]; omega)]
  exact fin (fun h => hx48 h.1)
theorem Pw : ∀ (n : Nat),(BN n)[0]? ≠ some 48 \/ n = 0 := by
 intro n
 induction n using Nat.strongRecOn with
 | _ n ih =>
  by_cases h : n < 10
  ·by_cases h0 : n = 0
   ·exact .inr h0
   ·left
    rw [za h]
    intro e
    simp at e
    have := congrArg UInt8.toNat e
    simp at this
    omega
  ·left
   rw [AJ h,List.getElem?_append_left (I9 _)]
   rcases ih (n / 10) (by omega) with h1 | h1
   ·exact h1
   ·omega
theorem Jw {l : List UInt8} : ∀ (k i : Nat),Jv (mk l) i k = true -> ∀ j,i <= j -> j < i + k -> ∀ x,l[j]? = some x -> nmB (x.toNat : Int) = true
 | 0,i,_,j,h1,h2,_,_ => by omega
 | k + 1,i,h,j,h1,h2,x,hx => by
  simp only [Jv,Bool.and_eq_true] at h
  by_cases e : i = j
  ·subst e
   rw [Ig hx] at h
   exact h.1
  ·exact Jw k (i + 1) h.2 j (by omega) (by omega) x hx
theorem PJ {x : UInt8} (h : dU x = true) : nmB (x.toNat : Int) = false := by
 have := dU_iff.1 h
 unfold nmB
 rw [decide_eq_false (show ¬ (x.toNat : Int) >= 97 by omega)]
 simp only [Bool.false_and,Bool.false_or,List.any_cons,List.any_nil,Bool.or_false]
 have hne : ∀ k : Int,(k < 48 \/ 57 < k) -> ((x.toNat : Int) == k) = false := fun k hk => by simp only [beq_eq_false_iff_ne,ne_eq]; omega
 rw [hne 43 (by omega),hne 45 (by omega),hne 42 (by omega),hne 60 (by omega),hne 61 (by omega),hne 63 (by omega),hne 33 (by omega),hne 47 (by omega)]
 rfl
theorem MJ {l : List UInt8} {j : Nat} {x : UInt8} (hx : l[j]? = some x) (h : dU x = true) : DP (mk l) = false := by
 cases e : DP (mk l) with
 | false => rfl
 | true =>
  simp only [DP,Bool.and_eq_true] at e
  have := Jw _ _ e.2 j (Nat.zero_le _) (by rw [xP]; have := aQ hx; omega) x hx
  rw [PJ h] at this; cases this
end
end Go.Eng
/-! the node of a word,on both sides -/
namespace Go.Eng
noncomputable section
open Go.Proofs Go.Proofs.Try
set_option maxHeartbeats 4000000

def JJ (r : Option Nat) : Option Int := match r with | some n => if n <= 1000000000 then some (n : Int) else none | none => none
def Oe (r : Option Nat) : Option Int := match r with | some n => if 0 < n /\ n <= 1000000000 then some (-(n : Int)) else none | none => none
def PK (l : List UInt8) : Option Int := match l with
 | x :: d :: r => if x = 45 /\ dU d = true then Oe (CY (d :: r)) else JJ (CY l)
 | _ => JJ (CY l)
def Fx (r : Option Int) (l : List UInt8) : Option Nd := match r with | some n => some ⟨3,n,⟨#[]⟩,0,0⟩ | none => if DP (mk l) = true then some ⟨4,0,mk l,0,0⟩ else none
def Bf (l : List UInt8) : Option Nd := if l = [35,116] then some ⟨2,1,⟨#[]⟩,0,0⟩ else if l = [35,102] then some ⟨2,0,⟨#[]⟩,0,0⟩ else Fx (PK l) l
def Fk (r : Option Nd) (x : Nd) (b : Bool) : Prop := match r with | some y => x = y /\ b = true | none => b = false
theorem GW {l : List UInt8} {n : Nat} (h : CY l = some n) : l.length ≠ 0 /\ ¬ 10 < l.length /\ ¬ (l[0]? = some 48 /\ 1 < l.length) /\ l.all dU = true /\ n = Ky 0 l /\ n < 10000000000 := by
 unfold CY at h
 split at h
 ·cases h
 ·rename_i hn
  cases h
  have ha : l.all dU = true := by
   cases e : l.all dU with
   | true => rfl
   | false => exact absurd (.inr (.inr (.inr e))) hn
  have h10 : ¬ 10 < l.length := fun e => hn (.inr (.inl e))
  have := Pp l 0 0 ha (by simp)
  rw [Nat.zero_add] at this
  have := MZ (k := l.length) (by omega)
  exact ⟨fun e => hn (.inl e),h10,fun e => hn (.inr (.inr (.inl e))),ha,rfl,by omega⟩
theorem R9 {l : List UInt8} {n : Nat} (h : CY l = some n) : DP (mk l) = false := by
 have hs := GW h
 match l,hs with
 | x :: r,hs =>
  have : dU x = true := by have := hs.2.2.2.1; rw [List.all_cons,Bool.and_eq_true] at this; exact this.1
  exact MJ (j := 0) (x := x) rfl this
def tx (l : List UInt8) : Nd := match CY l with | some n => ⟨3,(n : Int),⟨#[]⟩,0,0⟩ | none => ⟨4,0,mk l,0,0⟩
def tb (l : List UInt8) : Bool := match CY l with | some n => decide (n <= 1000000000) | none => DP (mk l)
theorem JV (l : List UInt8) : Fk (Fx (JJ (CY l)) l) (tx l) (tb l) := by
 unfold tx tb
 cases h : CY l with
 | none =>
  cases e : DP (mk l) with
  | true => simp [JJ,Fx,Fk,e]
  | false => simp [JJ,Fx,Fk,e]
 | some n =>
  have := R9 h
  by_cases h1 : n <= 1000000000
  ·simp [JJ,Fx,Fk,h1]
  ·simp [JJ,Fx,Fk,h1,this]
theorem Ug {l : List UInt8} (hb : l.length < 4611686018427387904) :
 @Eq (Option Ret) (iy V 60 [(.str (mk l)),(iN (10))] fun x36 l37 =>
   tk9 x36 fun n41 b44 => (unn l37 (br b44
      (
       br (decide (n41 <= 1000000000))
       (
       br (decide (n41 > 0))
       (some ((.tup [(.agg [(iN (3)),(iN (w6 (1 * n41))),(.str ({ data := #[] })),(iN (0)),(iN (0))]),(.bool true)]),[]))
       (some ((.tup [(.agg [(iN (3)),(iN (w6 (1 * n41))),(.str ({ data := #[] })),(iN (0)),(iN (0))]),(.bool true)]),[])))
       (some ((.tup [(.agg [(iN (3)),(iN (w6 (1 * n41))),(.str ({ data := #[] })),(iN (0)),(iN (0))]),(.bool false)]),[])))
      (
       iy V 45 [(.str (mk l))] fun x45 l46 =>
       asB x45 fun b47 => unn l46 (some ((.tup [(.agg [(iN (4)),(iN (0)),(.str (mk l)),(iN (0)),(iN (0))]),(.bool b47)]),[])))))) (some (.tup [eN (tx l),.bool (tb l)],[])) := by
 have hn := K8 l hb
 have hnm := AE (s := mk l) (by rw [xP]; exact hb)
 unfold tx tb
 cases h : CY l with
 | none =>
  rw [h] at hn
  rw [Bm hn,wJ,Ir hnm]
 | some n =>
  have hs := (GW h).2.2.2.2.2
  rw [h] at hn
  rw [Bm hn,xl,show (1 : Int) * n = n by omega,w64 (by omega) (by omega)]
  by_cases h1 : n <= 1000000000
  ·have e : decide (n <= 1000000000) = true := decide_eq_true h1
   rw [wK (decide_eq_true (by omega))]
   by_cases h0 : n = 0
   ·subst h0; rfl
   ·rw [wK (decide_eq_true (by omega))]; simp only [e]
  ·have e : decide (n <= 1000000000) = false := decide_eq_false h1
   rw [vQ (decide_eq_false (by omega))]; simp only [e]
theorem QP {l : List UInt8} (h : ¬ (l[0]? = some 45 /\ 1 < l.length)) : PK l = JJ (CY l) := by
 match l with
 | [] => rfl
 | [x] => rfl
 | x :: d :: r => rw [PK,if_neg]; rintro ⟨e,_⟩; exact h ⟨by rw [e]; rfl,by simp⟩
theorem OI {l : List UInt8} (hb : l.length < 4611686018427387904) : ∃ x b,V 35 [.str (mk l)] = some (.tup [eN x,.bool b],[]) /\ Fk (Bf l) x b := by
 have e1 : jJ (mk l) ⟨#[35,116]⟩ = decide (l = [35,116]) := JS l _
 have e2 : jJ (mk l) ⟨#[35,102]⟩ = decide (l = [35,102]) := JS l _
 rw [Jg,e1,e2,Ug hb]
 unfold Bf
 by_cases h1 : l = [35,116]
 ·rw [wK (decide_eq_true h1),if_pos h1]; exact ⟨⟨2,1,⟨#[]⟩,0,0⟩,true,rfl,rfl,rfl⟩
 rw [vQ (decide_eq_false h1),if_neg h1]
 by_cases h2 : l = [35,102]
 ·rw [wK (decide_eq_true h2),if_pos h2]; exact ⟨⟨2,0,⟨#[]⟩,0,0⟩,true,rfl,rfl,rfl⟩
 rw [vQ (decide_eq_false h2),if_neg h2,xP]
 by_cases hn : l[0]? = some 45 /\ 1 < l.length
 ·obtain ⟨hx,hl⟩ := hn
  match l,hx,hl with
  | x :: d :: r,hx,hl =>
   have hx : x = 45 := by simpa using hx
   subst hx
   have hd := G9 d
   have hb0 : bt (mk (45 :: d :: r)) 0 = 45 := Ig (i := 0) (x := 45) rfl
   have hb1 : bt (mk (45 :: d :: r)) 1 = (d.toNat : Int) := Ig (i := 1) (x := d) rfl
   rw [wK (decide_eq_true (by simp only [ni]; omega)),xu (by simp only [ni,Bool.and_eq_true,decide_eq_true_eq]; omega),hb0,wK (by decide),xu (by simp only [ni,Bool.and_eq_true,decide_eq_true_eq]; omega),hb1,Dp hd]
   rw [PK]
   cases hdd : dU d with
   | false =>
    rw [wJ,if_neg (by simp)]
    exact ⟨_,_,rfl,JV _⟩
   | true =>
    have hnm : DP (mk (45 :: d :: r)) = false := MJ (j := 1) (x := d) rfl hdd
    have e : ByteArray.extract (mk (45 :: d :: r)) (Int.toNat 1) (45 :: d :: r).length = mk (d :: r) := by
     rw [FW]; congr 1; simp
    have hn := K8 (d :: r) (by simp at hb ⊢; omega)
    rw [xl,if_pos ⟨rfl,rfl⟩,xu (by unfold cG; simp; omega),e]
    cases hf : CY (d :: r) with
    | none =>
     rw [hf] at hn
     rw [Bm hn,wJ]
     exact ⟨⟨4,0,mk (45 :: d :: r),0,0⟩,false,rfl,by simp [Oe,Fx,hnm,Fk]⟩
    | some n =>
     have hs := (GW hf).2.2.2.2.2
     rw [hf] at hn
     rw [Bm hn,xl,show (-1 : Int) * n = -n by omega,w64 (by omega) (by omega)]
     by_cases h1 : n <= 1000000000
     ·rw [wK (decide_eq_true (by omega))]
      by_cases h0 : n = 0
      ·subst h0
       rw [vQ (by decide)]
       exact ⟨⟨3,-((0 : Nat) : Int),⟨#[]⟩,0,0⟩,false,rfl,by simp [Oe,Fx,hnm,Fk]⟩
      ·rw [wK (decide_eq_true (by omega))]
       exact ⟨⟨3,-(n : Int),⟨#[]⟩,0,0⟩,true,rfl,by rw [Oe,if_pos ⟨by omega,h1⟩]; exact ⟨rfl,rfl⟩⟩
     ·rw [vQ (decide_eq_false (by omega))]
      exact ⟨⟨3,-(n : Int),⟨#[]⟩,0,0⟩,false,rfl,by simp [Oe,Fx,hnm,Fk,h1]⟩
 ·rw [QP hn]
  refine ⟨_,_,?_,JV l⟩
  by_cases hl : 1 < l.length
  ·obtain ⟨x,hx⟩ := wt (l := l) (i := 0) (by omega)
   have hbt : bt (mk l) 0 = (x.toNat : Int) := Ig hx
   have hne : x.toNat ≠ 45 := by
    intro h; apply hn; rw [hx]; exact ⟨by congr 1; exact UInt8.toNat_inj.1 h,hl⟩
   rw [wK (decide_eq_true (by simp only [ni]; omega)),xu (by simp only [ni,Bool.and_eq_true,decide_eq_true_eq]; omega),hbt,vQ (by simp only [beq_eq_false_iff_ne,ne_eq]; omega)]
  ·rw [vQ (decide_eq_false (by simp only [ni]; omega))]
end
end Go.Eng
