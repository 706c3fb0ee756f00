/- the program and the reference on plain data, part 2 -/
import Derived.Test.YtkndfhaehnfnmaaGreatPart1
import Derived.Test.YtkndfhaehnfnmaaGreatEngC
/-! the functions as the interpreter has them -/
namespace Go.Eng
open Go.Proofs Go.Proofs.Tryz
set_option maxRecDepth 100000
theorem XP (p l d:List D)(h x:Int)(e:List D):V 244 [.op [.os (5,0) p,.os (4,0) l,.os (3,0) d,iN h],iN x,.rs (1,1) e] =
 shd (ck1 237 [.op [.os (5,0) p,.os (4,0) l,.os (3,0) d,iN h],(.agg [iN (1),iN x,iN (0),.str ({ data:=#[] })])] fun _ a b c f=>((some ((.tup []),[.op [.os (5,0) a,.os (4,0) b,.os (3,0) c,iN f]])))) fun T2:Option Ret=>shd (ck3 228 [.agg [.rs (5,0) p],iN x] fun a b=>((br (!b)
 (some ((.tup []),[.op [.os (5,0) p,.os (4,0) l,.os (3,0) d,iN (1)]]))
 (
 grd (decide (0<=0)&&decide (0<ni a.length)) (dd a 0 fun c=>
 asI .i64 c fun f=>grd (decide (0<=f)&&decide (f<ni p.length)) (dd p f.toNat fun g=>
 tk2 g fun i _ j _ _=>(br (i==4)
 (ck6 238 [.str j] fun k=>(br k
 (ck2 249 [.op [.os (5,0) p,.os (4,0) l,.os (3,0) d,iN h],.str j,.rs (1,0) a,.rs (1,1) e] fun m n o q=>(((some ((.tup []),[.op [.os (5,0) m,.os (4,0) n,.os (3,0) o,iN q]])))))
 (
 br (decide (ni a.length>5))
 (some ((.tup []),[.op [.os (5,0) p,.os (4,0) l,.os (3,0) d,iN (1)]]))
 (CX e (0) h a p l d))))
 (
 br (decide (ni a.length>5))
 (some ((.tup []),[.op [.os (5,0) p,.os (4,0) l,.os (3,0) d,iN (1)]]))
 (CX e (0) h a p l d))))))))) fun T1:Option Ret=>
 br (h != 0)
 (some ((.tup []),[.op [.os (5,0) p,.os (4,0) l,.os (3,0) d,iN h]]))
 (
 grd (decide (0<=x)&&decide (x<ni p.length)) (dd p x.toNat fun a=>
 tk2 a fun b _ c _ _=>(br (b==1)
 (
 br (b==1)
 T2
 (
 br (b==4)
 (ck6 238 [.str c] fun f=>(br f
 (some ((.tup []),[.op [.os (5,0) p,.os (4,0) l,.os (3,0) d,iN (1)]]))
 (aci 248 [.rs (1,1) e,.str c] fun g i=>((br (decide (g>=0))
 (ck1 237 [.op [.os (5,0) p,.os (4,0) l,.os (3,0) d,iN h],(.agg [iN (2),iN g,iN i,.str ({ data:=#[] })])] fun _ j k m n=>((some ((.tup []),[.op [.os (5,0) j,.os (4,0) k,.os (3,0) m,iN n]]))))
 (ck1 237 [.op [.os (5,0) p,.os (4,0) l,.os (3,0) d,iN h],(.agg [iN (3),iN (0),iN (0),.str c])] fun _ j k m n=>((some ((.tup []),[.op [.os (5,0) j,.os (4,0) k,.os (3,0) m,iN n]])))))))))
 (
 br (b != 5)
 (some ((.tup []),[.op [.os (5,0) p,.os (4,0) l,.os (3,0) d,iN (1)]]))
 T1)))
 (
 br (b==2)
 (
 br (b==2)
 T2
 (
 br (b==4)
 (ck6 238 [.str c] fun f=>(br f
 (some ((.tup []),[.op [.os (5,0) p,.os (4,0) l,.os (3,0) d,iN (1)]]))
 (aci 248 [.rs (1,1) e,.str c] fun g i=>((br (decide (g>=0))
 (ck1 237 [.op [.os (5,0) p,.os (4,0) l,.os (3,0) d,iN h],(.agg [iN (2),iN g,iN i,.str ({ data:=#[] })])] fun _ j k m n=>((some ((.tup []),[.op [.os (5,0) j,.os (4,0) k,.os (3,0) m,iN n]]))))
 (ck1 237 [.op [.os (5,0) p,.os (4,0) l,.os (3,0) d,iN h],(.agg [iN (3),iN (0),iN (0),.str c])] fun _ j k m n=>((some ((.tup []),[.op [.os (5,0) j,.os (4,0) k,.os (3,0) m,iN n]])))))))))
 (
 br (b != 5)
 (some ((.tup []),[.op [.os (5,0) p,.os (4,0) l,.os (3,0) d,iN (1)]]))
 T1)))
 (
 br (b==3)
 T2
 (
 br (b==4)
 (ck6 238 [.str c] fun f=>(br f
 (some ((.tup []),[.op [.os (5,0) p,.os (4,0) l,.os (3,0) d,iN (1)]]))
 (aci 248 [.rs (1,1) e,.str c] fun g i=>((br (decide (g>=0))
 (ck1 237 [.op [.os (5,0) p,.os (4,0) l,.os (3,0) d,iN h],(.agg [iN (2),iN g,iN i,.str ({ data:=#[] })])] fun _ j k m n=>((some ((.tup []),[.op [.os (5,0) j,.os (4,0) k,.os (3,0) m,iN n]]))))
 (ck1 237 [.op [.os (5,0) p,.os (4,0) l,.os (3,0) d,iN h],(.agg [iN (3),iN (0),iN (0),.str c])] fun _ j k m n=>((some ((.tup []),[.op [.os (5,0) j,.os (4,0) k,.os (3,0) m,iN n]])))))))))
 (
 br (b != 5)
 (some ((.tup []),[.op [.os (5,0) p,.os (4,0) l,.os (3,0) d,iN (1)]]))
 T1))))))):=by
 exact (zR Tryz.func244 rfl _).trans (by kernel_rfl)
theorem PT (p:List D)(m1 m2 m3 m4 m5 m6 m7:Int)(cp cl cd:List D) :V 133 [.op [.os (5,0) p,iN m1,iN m2,iN m3,iN m4,iN m5,iN m6,iN m7,.rs (5,0) cp,.rs (4,0) cl,.rs (3,0) cd]] =
 Xi 182 [.op [.os (5,0) p,iN m1,iN m2,iN m3,iN m4,iN m5,iN m6,iN m7,.rs (5,0) cp,.rs (4,0) cl,.rs (3,0) cd]] fun a b c d e f g h i j k l m=>(((br (!b)
 (some ((iN (7)),[.op [.os (5,0) c,iN d,iN e,iN f,iN g,iN h,iN i,iN j,.rs (5,0) k,.rs (4,0) l,.rs (3,0) m]]))
 (
 grd (decide (0<=g)&&decide (g<ni c.length)) (dd c g.toNat fun n=>
 tk2 n fun o _ _ q r=>(br (o==1)
 (some ((iN (0)),[.op [.os (5,0) c,iN (0),iN e,iN f,iN g,iN (2),iN i,iN a,.rs (5,0) k,.rs (4,0) l,.rs (3,0) m]]))
 (
 br (o != 5)
 (some ((iN (7)),[.op [.os (5,0) c,iN d,iN e,iN f,iN g,iN h,iN i,iN j,.rs (5,0) k,.rs (4,0) l,.rs (3,0) m]]))
 (adm 119 [.op [.os (5,0) c],iN q] fun s t u=>(((br (!t)
 (some ((iN (7)),[.op [.os (5,0) u,iN d,iN e,iN f,iN g,iN h,iN i,iN j,.rs (5,0) k,.rs (4,0) l,.rs (3,0) m]]))
 (
 br (ni s.length != 3)
 (some ((iN (7)),[.op [.os (5,0) u,iN d,iN e,iN f,iN g,iN h,iN i,iN j,.rs (5,0) k,.rs (4,0) l,.rs (3,0) m]]))
 (
 grd (decide (0<=0)&&decide (0<ni s.length)) (dd s 0 fun v=>
 asI .i64 v fun w=>grd (decide (0<=w)&&decide (w<ni u.length)) (dd u w.toNat fun x=>
 asAgg x fun y=>dd y 0 fun z=>
 asI .i64 z fun A=>br (A != 3)
 (some ((iN (7)),[.op [.os (5,0) u,iN d,iN e,iN f,iN g,iN h,iN i,iN j,.rs (5,0) k,.rs (4,0) l,.rs (3,0) m]]))
 (
 grd (decide (0<=0)&&decide (0<ni s.length)) (dd s 0 fun B=>
 asI .i64 B fun C=>grd (decide (0<=C)&&decide (C<ni u.length)) (dd u C.toNat fun E=>
 asAgg E fun F=>dd F 1 fun G=>
 asI .i64 G fun H=>ck6 57 [.agg [.rs (5,0) k,.rs (4,0) l,.rs (3,0) m],iN H] fun I=>(br (!I)
 (some ((iN (7)),[.op [.os (5,0) u,iN d,iN e,iN f,iN g,iN h,iN i,iN j,.rs (5,0) k,.rs (4,0) l,.rs (3,0) m]]))
 (
 grd (decide (0<=0)&&decide (0<ni s.length)) (dd s 0 fun J=>
 asI .i64 J fun K=>grd (decide (0<=K)&&decide (K<ni u.length)) (dd u K.toNat fun L=>
 asAgg L fun M=>dd M 1 fun N=>
 asI .i64 N fun O=>grd (decide (0<=1)&&decide (1<ni s.length)) (dd s 1 fun P=>
 asI .i64 P fun Q=>grd (decide (0<=2)&&decide (2<ni s.length)) (dd s 2 fun R=>
 asI .i64 R fun S=>TE 185 [.op [.os (5,0) u,iN O,iN Q,iN S,iN r,iN h,iN i,iN j,.rs (5,0) k,.rs (4,0) l,.rs (3,0) m],iN a] fun T U W X Y Z a0 a1 a2 a3 a4=>(((some ((iN (0)),[.op [.os (5,0) T,iN U,iN W,iN X,iN Y,iN Z,iN a0,iN a1,.rs (5,0) a2,.rs (4,0) a3,.rs (3,0) a4]])))))))))))))))))))))))))))):=by
 exact (zR Tryz.func133 rfl _).trans (by kernel_rfl)
theorem VH (cp cl cd p:List D)(m1 m2 m3 m4 m5 m6 m7 f:Int)(l:List D)(nx:Int):V 233 [.agg [.rs (5,0) cp,.rs (4,0) cl,.rs (3,0) cd],.op [.os (5,0) p,iN m1,iN m2,iN m3,iN m4,iN m5,iN m6,iN m7],iN f,.rs (1,0) l,iN nx] =
 grd (decide (0<=f)&&decide (f<ni p.length)) (dd p f.toNat fun a=>
 tk2 a fun b c _ d _=>(br (b==6)
 (
 grd (!decide (8=0)) (br (Int.tmod c (8) != ni l.length)
 (some ((iN (2)),[.op [.os (5,0) p,iN m1,iN m2,iN m3,iN m4,iN m5,iN m6,iN m7]]))
 (
 grd (!decide (8=0)) (br (decide (w6 (Int.tdiv c (8))>=ni cl.length))
 (some ((iN (7)),[.op [.os (5,0) p,iN m1,iN m2,iN m3,iN m4,iN m5,iN m6,iN m7]]))
 (ck9 158 [.op [.os (5,0) p],(.agg [iN (3),iN nx,.str ({ data:=#[] }),iN (0),iN (0)])] fun e g=>((ck9 210 [.op [.os (5,0) g],.rs (1,0) [iN e,iN m2,iN m3]] fun h i=>((ck9 158 [.op [.os (5,0) i],(.agg [iN (5),iN (0),.str ({ data:=#[] }),iN h,iN m4])] fun j k=>((ck9 210 [.op [.os (5,0) k],.rs (1,0) l] fun m n=>((ck9 158 [.op [.os (5,0) n],(.agg [iN (5),iN (0),.str ({ data:=#[] }),iN m,iN d])] fun o q=>((ck9 158 [.op [.os (5,0) q],(.agg [iN (1),iN (0),.str ({ data:=#[] }),iN (0),iN (0)])] fun r s=>((grd (!decide (8=0)) (some ((iN (0)),[(.op [.os (5,0) s,(iN (w6 (Int.tdiv c (8)))),iN r,iN o,iN j,iN m5,iN m6,iN m7])])))))))))))))))))))
 (
 br (b==8)
 (PN 240 [.agg [.rs (5,0) cp,.rs (4,0) cl,.rs (3,0) cd],(.op [.os (5,0) p,iN m1,iN m2,iN m3,iN m4,iN m5,iN m6,iN m7]),iN c,.rs (1,0) l,iN nx] fun e g h i j k m n o=>((some ((iN e),[.op [.os (5,0) g,iN h,iN i,iN j,iN k,iN m,iN n,iN o]]))))
 (
 br (b==7)
 (
 br (ni l.length != 1)
 (some ((iN (2)),[.op [.os (5,0) p,iN m1,iN m2,iN m3,iN m4,iN m5,iN m6,iN m7]]))
 (ado 234 [.agg [.rs (5,0) p],iN d,iN (4)] fun e g h=>((br (!h)
 (some ((iN (7)),[.op [.os (5,0) p,iN m1,iN m2,iN m3,iN m4,iN m5,iN m6,iN m7]]))
 (
 grd (decide (0<=0)&&decide (0<ni g.length)) (dd g 0 fun i=>
 asI .i64 i fun j=>grd (decide (0<=1)&&decide (1<ni g.length)) (dd g 1 fun k=>
 asI .i64 k fun m=>grd (decide (0<=2)&&decide (2<ni g.length)) (dd g 2 fun n=>
 asI .i64 n fun o=>grd (decide (0<=0)&&decide (0<ni l.length)) (dd l 0 fun q=>
 asI .i64 q fun r=>SC 95 [.op [.os (5,0) p,iN e,iN j,iN m,iN o,iN m5,iN m6,iN m7],iN r] fun s t u v w x y z=>(((some ((iN (0)),[.op [.os (5,0) s,iN t,iN u,iN v,iN w,iN x,iN y,iN z]])))))))))))))
 (some ((iN (3)),[.op [.os (5,0) p,iN m1,iN m2,iN m3,iN m4,iN m5,iN m6,iN m7]])))))):=by
 exact (zR Tryz.func233 rfl _).trans (by kernel_rfl)
theorem LQ (p:List D)(m1 m2 m3 m4 m5 m6 m7:Int)(cp cl cd:List D)(n:Int)(l:List D):V 205 [.op [.os (5,0) p,iN m1,iN m2,iN m3,iN m4,iN m5,iN m6,iN m7,.rs (5,0) cp,.rs (4,0) cl,.rs (3,0) cd],iN n,.rs (1,0) l] =
 FE 223 [iN n] fun a=>(br (a != ni l.length)
 (some ((iN (2)),[.op [.os (5,0) p,iN m1,iN m2,iN m3,iN m4,iN m5,iN m6,iN m7,.rs (5,0) cp,.rs (4,0) cl,.rs (3,0) cd]]))
 (
 br (n==18)
 (ck9 157 [.op [.os (5,0) p],(.agg [iN (3),(iN (w6 (m1+1))),.str ({ data:=#[] }),iN (0),iN (0)])] fun b c=>((ck9 222 [.op [.os (5,0) c],.rs (1,0) [iN b,iN m2,iN m3,iN m4]] fun d e=>((ck9 157 [.op [.os (5,0) e],(.agg [iN (7),iN (0),.str ({ data:=#[] }),iN d,iN (0)])] fun f g=>((grd (decide (0<=0)&&decide (0<ni l.length)) (dd l 0 fun h=>
 asI .i64 h fun i=>Lf 184 [.op [.os (5,0) g,iN m1,iN m2,iN m3,iN m4,iN m5,iN m6,iN m7,.rs (5,0) cp,.rs (4,0) cl,.rs (3,0) cd],iN i,.rs (1,0) [iN f]] fun j k m o q r s t u v w x=>((some ((iN j),[.op [.os (5,0) k,iN m,iN o,iN q,iN r,iN s,iN t,iN u,.rs (5,0) v,.rs (4,0) w,.rs (3,0) x]])))))))))))
 (
 br (decide (n>12))
 (ck9 222 [.op [.os (5,0) p],.rs (1,0) l] fun b c=>((some ((iN (0)),[.op [.os (5,0) c,iN m1,iN m2,iN m3,iN m4,iN (1),iN n,iN b,.rs (5,0) cp,.rs (4,0) cl,.rs (3,0) cd]]))))
 (acj 224 [.op [.os (5,0) p],iN n,.rs (1,0) l] fun b c d=>(((br (c==3)
 (some ((iN (4)),[.op [.os (5,0) d,iN m1,iN m2,iN m3,iN m4,iN m5,iN m6,iN m7,.rs (5,0) cp,.rs (4,0) cl,.rs (3,0) cd]]))
 (
 br (c==4)
 (some ((iN (5)),[.op [.os (5,0) d,iN m1,iN m2,iN m3,iN m4,iN m5,iN m6,iN m7,.rs (5,0) cp,.rs (4,0) cl,.rs (3,0) cd]]))
 (TE 185 [.op [.os (5,0) d,iN m1,iN m2,iN m3,iN m4,iN m5,iN m6,iN m7,.rs (5,0) cp,.rs (4,0) cl,.rs (3,0) cd],iN b] fun e f g h i j k m o q r=>(((some ((iN (0)),[(.op [.os (5,0) e,(iN (w6 (f+1))),iN g,iN h,iN i,iN j,iN k,iN m,.rs (5,0) o,.rs (4,0) q,.rs (3,0) r])]))))))))))))):=by
 exact (zR Tryz.func205 rfl _).trans (by kernel_rfl)
theorem NA (p:List D)(m1 m2 m3 m4 m5 m6 m7:Int)(cp cl cd:List D)(s:ByteArray):V 187 [.op [.os (5,0) p,iN m1,iN m2,iN m3,iN m4,iN m5,iN m6,iN m7,.rs (5,0) cp,.rs (4,0) cl,.rs (3,0) cd],.str s] =
 FE 125 [.agg [.rs (5,0) cp,.rs (4,0) cl,.rs (3,0) cd],.str s] fun a=>(br (decide (a>=0))
 (
 grd (decide (0<=a)&&decide (a<ni cd.length)) (dd cd a.toNat fun b=>
 tk3 b fun _ c d=>(ck9 157 [.op [.os (5,0) p],(.agg [iN (1),iN (0),.str ({ data:=#[] }),iN (0),iN (0)])] fun e f=>((ck9 157 [.op [.os (5,0) f],(.agg [iN (6),(iN (w6 (w6 (8*c)+d))),.str ({ data:=#[] }),iN e,iN (0)])] fun g h=>((TE 185 [.op [.os (5,0) h,iN m1,iN m2,iN m3,iN m4,iN m5,iN m6,iN m7,.rs (5,0) cp,.rs (4,0) cl,.rs (3,0) cd],iN g] fun i j k l m n o q r t u=>(((some ((iN (0)),[.op [.os (5,0) i,iN j,iN k,iN l,iN m,iN n,iN o,iN q,.rs (5,0) r,.rs (4,0) t,.rs (3,0) u]])))))))))))
 (FE 208 [.str s] fun b=>(br (b==0)
 (some ((iN (1)),[.op [.os (5,0) p,iN m1,iN m2,iN m3,iN m4,iN m5,iN m6,iN m7,.rs (5,0) cp,.rs (4,0) cl,.rs (3,0) cd]]))
 (ck9 157 [.op [.os (5,0) p],(.agg [iN (8),iN b,.str ({ data:=#[] }),iN (0),iN (0)])] fun c d=>((TE 185 [.op [.os (5,0) d,iN m1,iN m2,iN m3,iN m4,iN m5,iN m6,iN m7,.rs (5,0) cp,.rs (4,0) cl,.rs (3,0) cd],iN c] fun e f g h i j k l m n o=>(((some ((iN (0)),[.op [.os (5,0) e,iN f,iN g,iN h,iN i,iN j,iN k,iN l,.rs (5,0) m,.rs (4,0) n,.rs (3,0) o]])))))))))):=by
 exact (zR Tryz.func187 rfl _).trans (by kernel_rfl)
theorem Pc (p0:ByteArray)(p1 p2:List D)(p3 p4:Int)(p5 p6 p7:List D):Dz p0 p1 p2 p3 p4 p5 p6 p7 =
 br (decide (p3<ni p7.length))
 (
 br (p4==0)
 (
 grd (decide (0<=p3)&&decide (p3<ni p7.length)) (dd p7 p3.toNat fun a=>
 asAgg a fun b=>dd b 0 fun c=>
 asS c fun d=>br (kJ d p0)
 (Dz p0 p1 p2 (w6 (p3+1)) (2) p5 p6 p7)
 (Dz p0 p1 p2 (w6 (p3+1)) p4 p5 p6 p7)))
 (
 grd (decide (ni (List.length (p7++[D.agg [D.str p0,iN (ni p6.length),iN (ni p1.length)]]))<=LIM)) (nam (p7++[D.agg [D.str p0,iN (ni p6.length),iN (ni p1.length)]]) fun a=>
 ck2 236 [.op [.os (5,0) p5,.os (4,0) p6,.os (3,0) a,iN p4],.rs (1,0) p2,(.rs (1,1) [.rs (1,0) p1])] fun b c d e=>(((ck1 237 [.op [.os (5,0) b,.os (4,0) c,.os (3,0) d,iN e],(.agg [iN (8),iN (0),iN (0),.str ({ data:=#[] })])] fun _ f g h i=>((some ((.tup []),[.op [.os (5,0) f,.os (4,0) g,.os (3,0) h,iN i]])))))))))
 (
 grd (decide (ni (List.length (p7++[D.agg [D.str p0,iN (ni p6.length),iN (ni p1.length)]]))<=LIM)) (nam (p7++[D.agg [D.str p0,iN (ni p6.length),iN (ni p1.length)]]) fun a=>
 ck2 236 [.op [.os (5,0) p5,.os (4,0) p6,.os (3,0) a,iN p4],.rs (1,0) p2,(.rs (1,1) [.rs (1,0) p1])] fun b c d e=>(((ck1 237 [.op [.os (5,0) b,.os (4,0) c,.os (3,0) d,iN e],(.agg [iN (8),iN (0),iN (0),.str ({ data:=#[] })])] fun _ f g h i=>((some ((.tup []),[.op [.os (5,0) f,.os (4,0) g,.os (3,0) h,iN i]])))))))):=by
 exact (zQ _ _ _).trans (by kernel_rfl)
theorem TW (a0_:List D):V 3 [.rs (1,0) a0_] =
 ck6 12 [.rs (1,0) a0_] fun a=>(br a
 (some ((.bool true),[]))
 (afr 13 [.rs (1,0) a0_] fun b c d e f g h i j k l _=>((((ck6 14 [.agg [.rs (5,0) b,.rs (4,0) c,.rs (3,0) d],(.agg [.rs (5,0) e,iN f,iN g,iN h,iN i,iN j,iN k,iN l])] fun m=>(ck6 15 [.agg [.rs (5,0) b,.rs (4,0) c,.rs (3,0) d],(.agg [.rs (5,0) e,iN f,iN g,iN h,iN i,iN j,iN k,iN l])] fun n=>(br (!m==n)
 (some ((.bool false),[]))
 (ck6 15 [.agg [.rs (5,0) b,.rs (4,0) c,.rs (3,0) d],(.agg [.rs (5,0) e,iN f,iN g,iN h,iN i,iN j,iN k,iN l])] fun o=>(br (!o)
 (some ((.bool true),[]))
 (
 br (decide (ni e.length>2000))
 (some ((.bool true),[]))
 (Gy a0_ (0) b c d e f g h i j k l e f g h i j k l)))))))))))):=by
 exact (zR Tryz.func3 rfl _).trans (by kernel_rfl)
theorem Zt (a0_:ByteArray):V 227 [.str a0_] =
 br (decide (ni (ByteArray.size a0_)>1))
 (
 grd (decide (0<=0)&&decide (0<ni (ByteArray.size a0_))) (br (bt a0_ (0)==45)
 (
 grd (df (ByteArray.size a0_) (some (1)) none) (br (decide (ni (ByteArray.size (ByteArray.extract a0_ (Int.toNat (1)) (ByteArray.size a0_)))>10))
 (some ((.tup [iN (0),.bool false]),[]))
 (
 br (ni (ByteArray.size (ByteArray.extract a0_ (Int.toNat (1)) (ByteArray.size a0_)))==0)
 (some ((.tup [iN (0),.bool false]),[]))
 (CG a0_ (ByteArray.extract a0_ (Int.toNat (1)) (ByteArray.size a0_)) (0) (0)))))
 (
 br (decide (ni (ByteArray.size a0_)>10))
 (some ((.tup [iN (0),.bool false]),[]))
 (
 br (ni (ByteArray.size a0_)==0)
 (some ((.tup [iN (0),.bool false]),[]))
 (CG a0_ a0_ (0) (0))))))
 (
 br (decide (ni (ByteArray.size a0_)>10))
 (some ((.tup [iN (0),.bool false]),[]))
 (
 br (ni (ByteArray.size a0_)==0)
 (some ((.tup [iN (0),.bool false]),[]))
 (CG a0_ a0_ (0) (0)))):=by
 exact (zR Tryz.func227 rfl _).trans (by kernel_rfl)
theorem TP (a0_:Int):V 223 [iN a0_] =
 ck6 58 [iN a0_,iN (1),iN (19)] fun a=>(br (!a)
 (some ((iN (-1)),[]))
 (
 grd (decide (0<=w6 (a0_-1))&&decide (w6 (a0_-1)<ni 19)) (dd ([iN (2),iN (2),iN (2),iN (2),iN (2),iN (2),iN (1),iN (1),iN (1),iN (1),iN (2),iN (1),iN (1),iN (0),iN (2),iN (0),iN (1),iN (1),iN (1)]) (Int.toNat (w6 (a0_-1))) fun b=>
 asI .i64 b fun c=>some ((iN c),[])))):=by
 exact (zR Tryz.func223 rfl _).trans (by kernel_rfl)
theorem IL (p0:List D)(p1 p2:Int)(p3:List D):Eu p0 p1 p2 p3 =
 br (decide (p2>=0))
 (
 grd (decide (0<=p2)&&decide (p2<ni p0.length)) (dd p0 p2.toNat fun a=>
 asI .i64 a fun b=>ck9 94 [.op [.os (5,0) p3],iN b,iN p1] fun c d=>((Eu p0 c (w6 (p2-1)) d))))
 (some ((iN p1),[.op [.os (5,0) p3]])):=by
 exact (zQ _ _ _).trans (by kernel_rfl)
theorem RK (a0_:ByteArray):V 238 [.str a0_] =
 br (kJ a0_ { data:=#[113,117,111,116,101] })
 (some ((.bool true),[]))
 (
 br (kJ a0_ { data:=#[105,102] })
 (some ((.bool true),[]))
 (
 br (kJ a0_ { data:=#[102,110] })
 (some ((.bool true),[]))
 (
 br (kJ a0_ { data:=#[100,111] })
 (some ((.bool true),[]))
 (
 br (kJ a0_ { data:=#[108,101,116] })
 (some ((.bool true),[]))
 (some ((.bool (kJ a0_ { data:=#[100,101,102,105,110,101] })),[])))))):=by
 exact (zR Tryz.func238 rfl _).trans (by kernel_rfl)
theorem XJ (p l:List D):V 210 [.op [.os (5,0) p],.rs (1,0) l] =
 ck9 158 [.op [.os (5,0) p],(.agg [iN (1),iN (0),.str ({ data:=#[] }),iN (0),iN (0)])] fun a b=>((GD l a (w6 (ni l.length-1)) b)):=by
 exact (zR Tryz.func210 rfl _).trans (by kernel_rfl)
theorem Qw (p q l:List D):V 137 [.op [.os (5,0) p],.agg [.rs (5,0) q],.rs (1,0) l] =
 grd (decide (0<=ni q.length)&&decide (ni q.length<=LIM)) (Dk 189 [.agg [.rs (5,0) q],.rs (1,0) l] fun a=>(AF q (ni q.length) (0) (List.replicate (Int.toNat (ni q.length)) (iN (0))) a p)):=by
 exact (zR Tryz.func137 rfl _).trans (by kernel_rfl)
theorem Vv (a0_0 a1_:List D):V 65 [.agg [.rs (5,0) a0_0],.rs (1,0) a1_] =
 ck6 55 [.agg [.rs (5,0) a0_0]] fun a=>(br a
 (ck6 135 [.rs (1,0) a1_,(.fn 136 [(.bp [.rs (5,0) a0_0])])] fun b=>(some ((.bool (!b)),[])))
 (some ((.bool false),[]))):=by
 exact (zR Tryz.func65 rfl _).trans (by kernel_rfl)
theorem SJ (a0_0:List D):V 68 [.agg [.rs (5,0) a0_0]] =
 Dk 67 [(iN (ni a0_0.length))] fun a=>(Ae a0_0 (ni a0_0.length) (0) a):=by
 exact (zR Tryz.func68 rfl _).trans (by kernel_rfl)
theorem SI (p:List D)(n:Int)(l:List D):V 224 [.op [.os (5,0) p],iN n,.rs (1,0) l] =
 AI n l l (ni l.length) (0) p:=by
 exact (zR Tryz.func224 rfl _).trans (by kernel_rfl)
theorem Qv (p:List D)(v:Int):V 119 [.op [.os (5,0) p],iN v] =
 Dw v [] p:=by
 exact (zR Tryz.func119 rfl _).trans (by kernel_rfl)

end Go.Eng
/-! the functions as the interpreter has them -/
namespace Go.Eng
open Go.Proofs Go.Proofs.Tryz
set_option maxRecDepth 100000
theorem aa0 (a0_0 a0_1 a0_2 a1_0:List D)(a1_1 a1_2 a1_3 a1_4 a1_5 a1_6 a1_7:Int):V 64 [.agg [.rs (5,0) a0_0,.rs (4,0) a0_1,.rs (3,0) a0_2],.agg [.rs (5,0) a1_0,iN a1_1,iN a1_2,iN a1_3,iN a1_4,iN a1_5,iN a1_6,iN a1_7]] =
 ck5 63 [.agg [.rs (5,0) a1_0,iN a1_1,iN a1_2,iN a1_3,iN a1_4,iN a1_5,iN a1_6,iN a1_7]] fun a b c d e f g h=>((grd (decide (0<=a1_1)&&decide (a1_1<ni a0_1.length)) (dd a0_1 a1_1.toNat fun i=>
 tk1 i fun j k l m=>(br (j==7)
 (Lf 132 [.op [.os (5,0) a,iN b,iN c,iN d,iN e,iN f,iN g,iN h,.rs (5,0) a0_0,.rs (4,0) a0_1,.rs (3,0) a0_2],iN l] fun n o p q r s t u v _ _ _=>((br (n==0)
 (
 br (decide (ni o.length>3000))
 (ck5 92 [.agg [.rs (5,0) a1_0,iN a1_1,iN a1_2,iN a1_3,iN a1_4,iN a1_5,iN a1_6,iN a1_7],iN (6)] fun w x y z A B C E=>((some ((.agg [.os (5,0) w,iN x,iN y,iN z,iN A,iN B,iN C,iN E]),[]))))
 (
 br (n != 0)
 (ck5 92 [.agg [.rs (5,0) a1_0,iN a1_1,iN a1_2,iN a1_3,iN a1_4,iN a1_5,iN a1_6,iN a1_7],iN n] fun w x y z A B C E=>((some ((.agg [.os (5,0) w,iN x,iN y,iN z,iN A,iN B,iN C,iN E]),[]))))
 (some ((.agg [.os (5,0) o,iN p,iN q,iN r,iN s,iN t,iN u,iN v]),[]))))
 (
 br (n != 0)
 (ck5 92 [.agg [.rs (5,0) a1_0,iN a1_1,iN a1_2,iN a1_3,iN a1_4,iN a1_5,iN a1_6,iN a1_7],iN n] fun w x y z A B C E=>((some ((.agg [.os (5,0) w,iN x,iN y,iN z,iN A,iN B,iN C,iN E]),[]))))
 (some ((.agg [.os (5,0) o,iN p,iN q,iN r,iN s,iN t,iN u,iN v]),[]))))))
 (
 br (j==8)
 (Lf 133 [.op [.os (5,0) a,iN b,iN c,iN d,iN e,iN f,iN g,iN h,.rs (5,0) a0_0,.rs (4,0) a0_1,.rs (3,0) a0_2]] fun n o p q r s t u v _ _ _=>((br (n==0)
 (
 br (decide (ni o.length>3000))
 (ck5 92 [.agg [.rs (5,0) a1_0,iN a1_1,iN a1_2,iN a1_3,iN a1_4,iN a1_5,iN a1_6,iN a1_7],iN (6)] fun w x y z A B C E=>((some ((.agg [.os (5,0) w,iN x,iN y,iN z,iN A,iN B,iN C,iN E]),[]))))
 (
 br (n != 0)
 (ck5 92 [.agg [.rs (5,0) a1_0,iN a1_1,iN a1_2,iN a1_3,iN a1_4,iN a1_5,iN a1_6,iN a1_7],iN n] fun w x y z A B C E=>((some ((.agg [.os (5,0) w,iN x,iN y,iN z,iN A,iN B,iN C,iN E]),[]))))
 (some ((.agg [.os (5,0) o,iN p,iN q,iN r,iN s,iN t,iN u,iN v]),[]))))
 (
 br (n != 0)
 (ck5 92 [.agg [.rs (5,0) a1_0,iN a1_1,iN a1_2,iN a1_3,iN a1_4,iN a1_5,iN a1_6,iN a1_7],iN n] fun w x y z A B C E=>((some ((.agg [.os (5,0) w,iN x,iN y,iN z,iN A,iN B,iN C,iN E]),[]))))
 (some ((.agg [.os (5,0) o,iN p,iN q,iN r,iN s,iN t,iN u,iN v]),[]))))))
 (Lf 134 [.op [.os (5,0) a,iN b,iN c,iN d,iN e,iN f,iN g,iN h,.rs (5,0) a0_0,.rs (4,0) a0_1,.rs (3,0) a0_2],.agg [iN j,iN k,iN l,.str m]] fun n o p q r s t u v _ _ _=>((br (n==0)
 (
 br (decide (ni o.length>3000))
 (ck5 92 [.agg [.rs (5,0) a1_0,iN a1_1,iN a1_2,iN a1_3,iN a1_4,iN a1_5,iN a1_6,iN a1_7],iN (6)] fun w x y z A B C E=>((some ((.agg [.os (5,0) w,iN x,iN y,iN z,iN A,iN B,iN C,iN E]),[]))))
 (
 br (n != 0)
 (ck5 92 [.agg [.rs (5,0) a1_0,iN a1_1,iN a1_2,iN a1_3,iN a1_4,iN a1_5,iN a1_6,iN a1_7],iN n] fun w x y z A B C E=>((some ((.agg [.os (5,0) w,iN x,iN y,iN z,iN A,iN B,iN C,iN E]),[]))))
 (some ((.agg [.os (5,0) o,iN p,iN q,iN r,iN s,iN t,iN u,iN v]),[]))))
 (
 br (n != 0)
 (ck5 92 [.agg [.rs (5,0) a1_0,iN a1_1,iN a1_2,iN a1_3,iN a1_4,iN a1_5,iN a1_6,iN a1_7],iN n] fun w x y z A B C E=>((some ((.agg [.os (5,0) w,iN x,iN y,iN z,iN A,iN B,iN C,iN E]),[]))))
 (some ((.agg [.os (5,0) o,iN p,iN q,iN r,iN s,iN t,iN u,iN v]),[]))))))))))):=by
 exact (zR Tryz.func64 rfl _).trans (by kernel_rfl)
theorem RJ (a0_0:List D)(a0_1 a0_2 a1_:Int):V 214 [.op [.rs (1,0) a0_0,iN a0_1,iN a0_2],iN a1_] =
 br (decide (a1_<=0))
 (PO 75 [.op [.rs (1,0) a0_0,iN a0_1,iN a0_2],(.rs (1,0) [.str ({ data:=#[49] }),.str ({ data:=#[120] }),.str ({ data:=#[121] }),.str ({ data:=#[45,50] }),.str ({ data:=#[35,116] }),.str ({ data:=#[40,41] }),.str ({ data:=#[102] }),.str ({ data:=#[40,113,117,111,116,101,32,97,41] }),.str ({ data:=#[48] })])] fun a b c d=>((some ((.str a),[.op [.rs (1,0) b,iN c,iN d]]))))
 (PO 214 [.op [.rs (1,0) a0_0,iN a0_1,iN a0_2],(iN (w6 (a1_-1)))] fun a b c d=>((PO 214 [.op [.rs (1,0) b,iN c,iN d],(iN (w6 (a1_-1)))] fun e f g h=>((ck7 76 [.op [.rs (1,0) f,iN g,iN h],iN (9)] fun i j k l=>((br (i==0)
 (grd (decide (ni (ByteArray.size { data:=#[40,105,102,32] }+ByteArray.size a)<=LIM)) (grd (decide (ni (ByteArray.size ({ data:=#[40,105,102,32] }++a)+ByteArray.size { data:=#[32] })<=LIM)) (grd (decide (ni (ByteArray.size ({ data:=#[40,105,102,32] }++a++{ data:=#[32] })+ByteArray.size e)<=LIM)) (grd (decide (ni (ByteArray.size ({ data:=#[40,105,102,32] }++a++{ data:=#[32] }++e)+ByteArray.size { data:=#[32] })<=LIM)) (PO 214 [.op [.rs (1,0) j,iN k,iN l],(iN (w6 (a1_-2)))] fun m n o p=>((grd (decide (ni (ByteArray.size ({ data:=#[40,105,102,32] }++a++{ data:=#[32] }++e++{ data:=#[32] })+ByteArray.size m)<=LIM)) (grd (decide (ni (ByteArray.size ({ data:=#[40,105,102,32] }++a++{ data:=#[32] }++e++{ data:=#[32] }++m)+ByteArray.size { data:=#[41] })<=LIM)) (some ((.str ({ data:=#[40,105,102,32] }++a++{ data:=#[32] }++e++{ data:=#[32] }++m++{ data:=#[41] })),[.op [.rs (1,0) n,iN o,iN p]]))))))))))
 (
 br (i==1)
 (grd (decide (ni (ByteArray.size { data:=#[40,102,110,32,40,120,32,121,41,32] }+ByteArray.size a)<=LIM)) (grd (decide (ni (ByteArray.size ({ data:=#[40,102,110,32,40,120,32,121,41,32] }++a)+ByteArray.size { data:=#[41] })<=LIM)) (some ((.str ({ data:=#[40,102,110,32,40,120,32,121,41,32] }++a++{ data:=#[41] })),[.op [.rs (1,0) j,iN k,iN l]]))))
 (
 br (i==2)
 (grd (decide (ni (ByteArray.size { data:=#[40,108,101,116,32,120,32] }+ByteArray.size a)<=LIM)) (grd (decide (ni (ByteArray.size ({ data:=#[40,108,101,116,32,120,32] }++a)+ByteArray.size { data:=#[32] })<=LIM)) (grd (decide (ni (ByteArray.size ({ data:=#[40,108,101,116,32,120,32] }++a++{ data:=#[32] })+ByteArray.size e)<=LIM)) (grd (decide (ni (ByteArray.size ({ data:=#[40,108,101,116,32,120,32] }++a++{ data:=#[32] }++e)+ByteArray.size { data:=#[41] })<=LIM)) (some ((.str ({ data:=#[40,108,101,116,32,120,32] }++a++{ data:=#[32] }++e++{ data:=#[41] })),[.op [.rs (1,0) j,iN k,iN l]]))))))
 (
 br (i==3)
 (grd (decide (ni (ByteArray.size { data:=#[40,100,111,32] }+ByteArray.size a)<=LIM)) (grd (decide (ni (ByteArray.size ({ data:=#[40,100,111,32] }++a)+ByteArray.size { data:=#[32] })<=LIM)) (grd (decide (ni (ByteArray.size ({ data:=#[40,100,111,32] }++a++{ data:=#[32] })+ByteArray.size e)<=LIM)) (grd (decide (ni (ByteArray.size ({ data:=#[40,100,111,32] }++a++{ data:=#[32] }++e)+ByteArray.size { data:=#[41] })<=LIM)) (some ((.str ({ data:=#[40,100,111,32] }++a++{ data:=#[32] }++e++{ data:=#[41] })),[.op [.rs (1,0) j,iN k,iN l]]))))))
 (
 br (i==4)
 (grd (decide (ni (ByteArray.size { data:=#[40,112,114,105,110,116,32] }+ByteArray.size a)<=LIM)) (grd (decide (ni (ByteArray.size ({ data:=#[40,112,114,105,110,116,32] }++a)+ByteArray.size { data:=#[41] })<=LIM)) (some ((.str ({ data:=#[40,112,114,105,110,116,32] }++a++{ data:=#[41] })),[.op [.rs (1,0) j,iN k,iN l]]))))
 (
 br (i==5)
 (grd (decide (ni (ByteArray.size { data:=#[40,40,102,110,32,40,121,41,32] }+ByteArray.size a)<=LIM)) (grd (decide (ni (ByteArray.size ({ data:=#[40,40,102,110,32,40,121,41,32] }++a)+ByteArray.size { data:=#[41,32] })<=LIM)) (grd (decide (ni (ByteArray.size ({ data:=#[40,40,102,110,32,40,121,41,32] }++a++{ data:=#[41,32] })+ByteArray.size e)<=LIM)) (grd (decide (ni (ByteArray.size ({ data:=#[40,40,102,110,32,40,121,41,32] }++a++{ data:=#[41,32] }++e)+ByteArray.size { data:=#[41] })<=LIM)) (some ((.str ({ data:=#[40,40,102,110,32,40,121,41,32] }++a++{ data:=#[41,32] }++e++{ data:=#[41] })),[.op [.rs (1,0) j,iN k,iN l]]))))))
 (
 br (i==6)
 (PO 75 [.op [.rs (1,0) j,iN k,iN l],(.rs (1,0) [.str ({ data:=#[43] }),.str ({ data:=#[45] }),.str ({ data:=#[42] }),.str ({ data:=#[60] }),.str ({ data:=#[61] }),.str ({ data:=#[99,111,110,115] }),.str ({ data:=#[101,113,63] })])] fun m n o p=>((grd (decide (ni (ByteArray.size { data:=#[40] }+ByteArray.size m)<=LIM)) (grd (decide (ni (ByteArray.size ({ data:=#[40] }++m)+ByteArray.size { data:=#[32] })<=LIM)) (grd (decide (ni (ByteArray.size ({ data:=#[40] }++m++{ data:=#[32] })+ByteArray.size a)<=LIM)) (grd (decide (ni (ByteArray.size ({ data:=#[40] }++m++{ data:=#[32] }++a)+ByteArray.size { data:=#[32] })<=LIM)) (grd (decide (ni (ByteArray.size ({ data:=#[40] }++m++{ data:=#[32] }++a++{ data:=#[32] })+ByteArray.size e)<=LIM)) (grd (decide (ni (ByteArray.size ({ data:=#[40] }++m++{ data:=#[32] }++a++{ data:=#[32] }++e)+ByteArray.size { data:=#[41] })<=LIM)) (some ((.str ({ data:=#[40] }++m++{ data:=#[32] }++a++{ data:=#[32] }++e++{ data:=#[41] })),[.op [.rs (1,0) n,iN o,iN p]]))))))))))
 (
 br (i==7)
 (PO 75 [.op [.rs (1,0) j,iN k,iN l],(.rs (1,0) [.str ({ data:=#[99,97,114] }),.str ({ data:=#[99,100,114] }),.str ({ data:=#[110,117,108,108,63] }),.str ({ data:=#[112,97,105,114,63] }),.str ({ data:=#[110,111,116] }),.str ({ data:=#[99,97,108,108,99,99] })])] fun m n o p=>((grd (decide (ni (ByteArray.size { data:=#[40] }+ByteArray.size m)<=LIM)) (grd (decide (ni (ByteArray.size ({ data:=#[40] }++m)+ByteArray.size { data:=#[32] })<=LIM)) (grd (decide (ni (ByteArray.size ({ data:=#[40] }++m++{ data:=#[32] })+ByteArray.size a)<=LIM)) (grd (decide (ni (ByteArray.size ({ data:=#[40] }++m++{ data:=#[32] }++a)+ByteArray.size { data:=#[41] })<=LIM)) (some ((.str ({ data:=#[40] }++m++{ data:=#[32] }++a++{ data:=#[41] })),[.op [.rs (1,0) n,iN o,iN p]]))))))))
 (some ((.str a),[.op [.rs (1,0) j,iN k,iN l]])))))))))))))))):=by
 exact (zR Tryz.func214 rfl _).trans (by kernel_rfl)
theorem aaY (a0_0:List D)(a0_1 a0_2 a0_3 a0_4 a0_5 a0_6 a0_7:Int):V 18 [.agg [.rs (5,0) a0_0,iN a0_1,iN a0_2,iN a0_3,iN a0_4,iN a0_5,iN a0_6,iN a0_7]] =
 br (a0_5==1)
 (grd (decide (ni 4<=LIM)) (ck6 65 [.agg [.rs (5,0) a0_0],.rs (1,0) [iN a0_2,iN a0_3,iN a0_4,iN a0_7]] fun a=>(br (!a)
 (ck5 63 [.agg [.rs (5,0) a0_0,iN a0_1,iN a0_2,iN a0_3,iN a0_4,iN a0_5,iN a0_6,iN a0_7]] fun b c d e f g h i=>((some ((.agg [.os (5,0) b,iN c,iN d,iN e,iN f,iN g,iN h,iN i]),[]))))
 (adt 66 [.agg [.rs (5,0) a0_0],.rs (1,0) [iN a0_2,iN a0_3,iN a0_4,iN a0_7]] fun b c=>(((grd (decide (0<=0)&&decide (0<ni c.length)) (dd c 0 fun d=>
 asI .i64 d fun e=>grd (decide (0<=1)&&decide (1<ni c.length)) (dd c 1 fun f=>
 asI .i64 f fun g=>grd (decide (0<=2)&&decide (2<ni c.length)) (dd c 2 fun h=>
 asI .i64 h fun i=>grd (decide (0<=3)&&decide (3<ni c.length)) (dd c 3 fun j=>
 asI .i64 j fun k=>some ((.agg [.os (5,0) b,iN a0_1,iN e,iN g,iN i,iN a0_5,iN a0_6,iN k]),[]))))))))))))
 (
 br (a0_5==2)
 (grd (decide (ni 4<=LIM)) (ck6 65 [.agg [.rs (5,0) a0_0],.rs (1,0) [iN a0_2,iN a0_3,iN a0_4,iN a0_7]] fun a=>(br (!a)
 (ck5 63 [.agg [.rs (5,0) a0_0,iN a0_1,iN a0_2,iN a0_3,iN a0_4,iN a0_5,iN a0_6,iN a0_7]] fun b c d e f g h i=>((some ((.agg [.os (5,0) b,iN c,iN d,iN e,iN f,iN g,iN h,iN i]),[]))))
 (adt 66 [.agg [.rs (5,0) a0_0],.rs (1,0) [iN a0_2,iN a0_3,iN a0_4,iN a0_7]] fun b c=>(((grd (decide (0<=0)&&decide (0<ni c.length)) (dd c 0 fun d=>
 asI .i64 d fun e=>grd (decide (0<=1)&&decide (1<ni c.length)) (dd c 1 fun f=>
 asI .i64 f fun g=>grd (decide (0<=2)&&decide (2<ni c.length)) (dd c 2 fun h=>
 asI .i64 h fun i=>br (a0_5==2)
 (
 grd (decide (0<=3)&&decide (3<ni c.length)) (dd c 3 fun j=>
 asI .i64 j fun k=>some ((.agg [.os (5,0) b,iN a0_1,iN e,iN g,iN i,iN a0_5,iN a0_6,iN k]),[])))
 (some ((.agg [.os (5,0) b,iN a0_1,iN e,iN g,iN i,iN a0_5,iN a0_6,iN a0_7]),[]))))))))))))
 (ck6 65 [.agg [.rs (5,0) a0_0],.rs (1,0) [iN a0_2,iN a0_3,iN a0_4]] fun a=>(br (!a)
 (ck5 63 [.agg [.rs (5,0) a0_0,iN a0_1,iN a0_2,iN a0_3,iN a0_4,iN a0_5,iN a0_6,iN a0_7]] fun b c d e f g h i=>((some ((.agg [.os (5,0) b,iN c,iN d,iN e,iN f,iN g,iN h,iN i]),[]))))
 (adt 66 [.agg [.rs (5,0) a0_0],.rs (1,0) [iN a0_2,iN a0_3,iN a0_4]] fun b c=>(((grd (decide (0<=0)&&decide (0<ni c.length)) (dd c 0 fun d=>
 asI .i64 d fun e=>grd (decide (0<=1)&&decide (1<ni c.length)) (dd c 1 fun f=>
 asI .i64 f fun g=>grd (decide (0<=2)&&decide (2<ni c.length)) (dd c 2 fun h=>
 asI .i64 h fun i=>br (a0_5==2)
 (
 grd (decide (0<=3)&&decide (3<ni c.length)) (dd c 3 fun j=>
 asI .i64 j fun k=>some ((.agg [.os (5,0) b,iN a0_1,iN e,iN g,iN i,iN a0_5,iN a0_6,iN k]),[])))
 (some ((.agg [.os (5,0) b,iN a0_1,iN e,iN g,iN i,iN a0_5,iN a0_6,iN a0_7]),[])))))))))))):=by
 exact (zR Tryz.func18 rfl _).trans (by kernel_rfl)
theorem PI (p0:ByteArray)(p1:Nat)(p2 p3 p4:Int)(p5 p6 p7 p8:List D):Cy p0 p1 p2 p3 p4 p5 p6 p7 p8 =
 br (decide (p2<ni (ByteArray.size p0)))
 (grd (decide (0<=p2)&&decide (p2<ni (ByteArray.size p0))) (ck6 211 [.int .u8 (bt p0 p2)] fun a=>(br a
 (Cy p0 p1 (w6 (p2+1)) p3 p4 p5 p6 p7 p8)
 (grd (df (ByteArray.size p0) (some p4) (some p2)) (TG 212 [(.str (ByteArray.extract p0 p4.toNat p2.toNat))] fun b c d e f g=>(((br (!g)
 (ck8 147 [.agg [.rs (5,0) p5]] fun h=>((some ((.tup [.agg [.os (5,0) h],.os (1,0) p6,iN (3),iN p4]),[]))))
 (
 grd (decide (0<=p3)&&decide (p3<ni p1)&&decide (0+p1<=List.length p7)) (dd p7 (0+Int.toNat p3) fun h=>
 asAgg h fun i=>dd i 1 fun j=>
 jH (1,0) j fun k=>asAgg h fun l=>ck9 158 [.op [.os (5,0) p8],.agg [iN b,iN c,.str d,iN e,iN f]] fun m n=>((grd (decide (ni (List.length (k++[iN m]))<=LIM)) (nam (k++[iN m]) fun o=>
 grd (decide (0<=p3)&&decide (p3<ni p1)&&decide (0+p1<=List.length (List.set p7 (0+Int.toNat p3) (D.agg (List.take 1 l++[D.dead]++List.drop 2 l))))) (dd (List.set p7 (0+Int.toNat p3) (D.agg (List.take 1 l++[D.dead]++List.drop 2 l))) (0+Int.toNat p3) fun p=>
 asAgg p fun q=>nam (List.set (List.set p7 (0+Int.toNat p3) (D.agg (List.take 1 l++[D.dead]++List.drop 2 l))) (0+Int.toNat p3)
 (D.agg
 (List.take 1 q ++
 [D.os
 (TypeInfo.size (Tables.types (Program.toTables Tryz.prog))[3],
 match rZ Tryz.prog (3) with
 |true=>0
 |false=>1)
 o] ++
 List.drop 2 q))) fun r=>
 AC p0 p1 p2 p5 p6 r n))))))))))))))
 (grd (df (ByteArray.size p0) (some p4) (some p2)) (TG 212 [(.str (ByteArray.extract p0 p4.toNat p2.toNat))] fun a b c d e f=>(((br (!f)
 (ck8 147 [.agg [.rs (5,0) p5]] fun g=>((some ((.tup [.agg [.os (5,0) g],.os (1,0) p6,iN (3),iN p4]),[]))))
 (
 grd (decide (0<=p3)&&decide (p3<ni p1)&&decide (0+p1<=List.length p7)) (dd p7 (0+Int.toNat p3) fun g=>
 asAgg g fun h=>dd h 1 fun i=>
 jH (1,0) i fun j=>asAgg g fun k=>ck9 158 [.op [.os (5,0) p8],.agg [iN a,iN b,.str c,iN d,iN e]] fun l m=>((grd (decide (ni (List.length (j++[iN l]))<=LIM)) (nam (j++[iN l]) fun n=>
 grd (decide (0<=p3)&&decide (p3<ni p1)&&decide (0+p1<=List.length (List.set p7 (0+Int.toNat p3) (D.agg (List.take 1 k++[D.dead]++List.drop 2 k))))) (dd (List.set p7 (0+Int.toNat p3) (D.agg (List.take 1 k++[D.dead]++List.drop 2 k))) (0+Int.toNat p3) fun o=>
 asAgg o fun p=>nam (List.set (List.set p7 (0+Int.toNat p3) (D.agg (List.take 1 k++[D.dead]++List.drop 2 k))) (0+Int.toNat p3)
 (D.agg
 (List.take 1 p ++
 [D.os
 (TypeInfo.size (Tables.types (Program.toTables Tryz.prog))[3],
 match rZ Tryz.prog (3) with
 |true=>0
 |false=>1)
 n] ++
 List.drop 2 p))) fun q=>
 AC p0 p1 p2 p5 p6 q m))))))))))):=by
 exact (zQ _ _ _).trans (by kernel_rfl)
theorem TV (a0_0:List D)(a1_:Int)(a2_:List D):V 235 [.agg [.rs (5,0) a0_0],iN a1_,.rs (1,0) a2_] =
 grd (decide (0<=0)&&decide (0<ni a2_.length)) (dd a2_ 0 fun a=>
 asI .i64 a fun b=>grd (decide (0<=b)&&decide (b<ni a0_0.length)) (dd a0_0 b.toNat fun c=>
 tk2 c fun d e _ _ _=>(br (a1_==6)
 (
 grd (decide (0<=0)&&decide (0<ni a2_.length)) (dd a2_ 0 fun f=>
 asI .i64 f fun g=>grd (decide (0<=1)&&decide (1<ni a2_.length)) (dd a2_ 1 fun h=>
 asI .i64 h fun i=>some ((.agg [iN (5),iN (0),.str ({ data:=#[] }),iN g,iN i]),[]))))
 (
 br (a1_==9)
 (JU 241 [.bool (d==1)] fun f g h i j=>((some ((.agg [iN f,iN g,.str h,iN i,iN j]),[]))))
 (
 br (a1_==10)
 (JU 241 [.bool (d==5)] fun f g h i j=>((some ((.agg [iN f,iN g,.str h,iN i,iN j]),[]))))
 (
 br (a1_==11)
 (
 grd (decide (0<=0)&&decide (0<ni a2_.length)) (dd a2_ 0 fun f=>
 asI .i64 f fun g=>grd (decide (0<=1)&&decide (1<ni a2_.length)) (dd a2_ 1 fun h=>
 asI .i64 h fun i=>ck6 242 [.agg [.rs (5,0) a0_0],iN g,iN i] fun j=>(JU 241 [.bool j] fun k l m n o=>((some ((.agg [iN k,iN l,.str m,iN n,iN o]),[])))))))
 (
 br (a1_==12)
 (
 br (d==2)
 (JU 241 [.bool (e==0)] fun f g h i j=>((some ((.agg [iN f,iN g,.str h,iN i,iN j]),[]))))
 (JU 241 [.bool false] fun f g h i j=>((some ((.agg [iN f,iN g,.str h,iN i,iN j]),[])))))
 (
 grd (decide (0<=1)&&decide (1<ni a2_.length)) (dd a2_ 1 fun f=>
 asI .i64 f fun g=>grd (decide (0<=g)&&decide (g<ni a0_0.length)) (dd a0_0 g.toNat fun h=>
 asAgg h fun i=>dd i 1 fun j=>
 asI .i64 j fun k=>JU 243 [iN a1_,iN e,iN k] fun l m n o p=>((some ((.agg [iN l,iN m,.str n,iN o,iN p]),[]))))))))))))):=by
 exact (zR Tryz.func235 rfl _).trans (by kernel_rfl)
theorem IP (p0:Int)(p1 p2:List D)(p3 p4:Int)(p5:List D):AI p0 p1 p2 p3 p4 p5 =
 br (decide (p4<p3))
 (
 grd (decide (0<=p4)&&decide (p4<ni p2.length)) (dd p2 p4.toNat fun a=>
 asI .i64 a fun b=>br (decide (p0<=5))
 (
 grd (decide (0<=b)&&decide (b<ni p5.length)) (dd p5 b.toNat fun c=>
 asAgg c fun d=>dd d 0 fun e=>
 asI .i64 e fun f=>br (f != 3)
 (some ((.tup [iN (-1),iN (3)]),[.op [.os (5,0) p5]]))
 (
 br (p0==7)
 (
 grd (decide (0<=b)&&decide (b<ni p5.length)) (dd p5 b.toNat fun g=>
 asAgg g fun h=>dd h 0 fun i=>
 asI .i64 i fun j=>br (j != 5)
 (some ((.tup [iN (-1),iN (3)]),[.op [.os (5,0) p5]]))
 (AI p0 p1 p2 p3 (w6 (p4+1)) p5)))
 (
 br (p0==8)
 (
 grd (decide (0<=b)&&decide (b<ni p5.length)) (dd p5 b.toNat fun g=>
 asAgg g fun h=>dd h 0 fun i=>
 asI .i64 i fun j=>br (j != 5)
 (some ((.tup [iN (-1),iN (3)]),[.op [.os (5,0) p5]]))
 (AI p0 p1 p2 p3 (w6 (p4+1)) p5)))
 (AI p0 p1 p2 p3 (w6 (p4+1)) p5)))))
 (
 br (p0==7)
 (
 grd (decide (0<=b)&&decide (b<ni p5.length)) (dd p5 b.toNat fun c=>
 asAgg c fun d=>dd d 0 fun e=>
 asI .i64 e fun f=>br (f != 5)
 (some ((.tup [iN (-1),iN (3)]),[.op [.os (5,0) p5]]))
 (AI p0 p1 p2 p3 (w6 (p4+1)) p5)))
 (
 br (p0==8)
 (
 grd (decide (0<=b)&&decide (b<ni p5.length)) (dd p5 b.toNat fun c=>
 asAgg c fun d=>dd d 0 fun e=>
 asI .i64 e fun f=>br (f != 5)
 (some ((.tup [iN (-1),iN (3)]),[.op [.os (5,0) p5]]))
 (AI p0 p1 p2 p3 (w6 (p4+1)) p5)))
 (AI p0 p1 p2 p3 (w6 (p4+1)) p5)))))
 (
 br (p0==7)
 (
 grd (decide (0<=0)&&decide (0<ni p1.length)) (dd p1 0 fun a=>
 asI .i64 a fun b=>grd (decide (0<=b)&&decide (b<ni p5.length)) (dd p5 b.toNat fun c=>
 asAgg c fun d=>dd d 3 fun e=>
 asI .i64 e fun f=>some ((.tup [iN f,iN (0)]),[.op [.os (5,0) p5]]))))
 (
 br (p0==8)
 (
 grd (decide (0<=0)&&decide (0<ni p1.length)) (dd p1 0 fun a=>
 asI .i64 a fun b=>grd (decide (0<=b)&&decide (b<ni p5.length)) (dd p5 b.toNat fun c=>
 asAgg c fun d=>dd d 4 fun e=>
 asI .i64 e fun f=>some ((.tup [iN f,iN (0)]),[.op [.os (5,0) p5]]))))
 (JU 235 [.agg [.rs (5,0) p5],iN p0,.rs (1,0) p1] fun a b c d e=>((ck6 58 [iN b,iN (-1000000000),iN (1000000000)] fun f=>(br (!f)
 (some ((.tup [iN (-1),iN (4)]),[.op [.os (5,0) p5]]))
 (ck9 157 [.op [.os (5,0) p5],.agg [iN a,iN b,.str c,iN d,iN e]] fun g h=>((some ((.tup [iN g,iN (0)]),[.op [.os (5,0) h]])))))))))):=by
 exact (zQ _ _ _).trans (by kernel_rfl)
theorem FI (p0 p1 p2 p3 p4 p5 p6 p7 p8:Int)(p9 p10 p11 p12:List D):CT p0 p1 p2 p3 p4 p5 p6 p7 p8 p9 p10 p11 p12 =
 br (decide (p1>0))
 (
 grd (decide (0<=p0)&&decide (p0<ni p12.length)) (dd p12 p0.toNat fun a=>
 asAgg a fun b=>dd b 0 fun c=>
 asI .i64 c fun d=>br (d != 5)
 (some ((.tup [iN (0),.bool false]),[.op [.os (5,0) p12,iN p2,iN p3,iN p4,iN p5,iN p6,iN p7,iN p8,.rs (5,0) p9,.rs (4,0) p10,.rs (3,0) p11]]))
 (
 grd (decide (0<=p0)&&decide (p0<ni p12.length)) (dd p12 p0.toNat fun e=>
 asAgg e fun f=>dd f 4 fun g=>
 asI .i64 g fun h=>CT h (w6 (p1-1)) p2 p3 p4 p5 p6 p7 p8 p9 p10 p11 p12))))
 (
 grd (decide (0<=p0)&&decide (p0<ni p12.length)) (dd p12 p0.toNat fun a=>
 asAgg a fun b=>dd b 0 fun c=>
 asI .i64 c fun d=>br (d != 5)
 (some ((.tup [iN (0),.bool false]),[.op [.os (5,0) p12,iN p2,iN p3,iN p4,iN p5,iN p6,iN p7,iN p8,.rs (5,0) p9,.rs (4,0) p10,.rs (3,0) p11]]))
 (
 grd (decide (0<=p0)&&decide (p0<ni p12.length)) (dd p12 p0.toNat fun e=>
 asAgg e fun f=>dd f 3 fun g=>
 asI .i64 g fun h=>some ((.tup [iN h,.bool true]),[.op [.os (5,0) p12,iN p2,iN p3,iN p4,iN p5,iN p6,iN p7,iN p8,.rs (5,0) p9,.rs (4,0) p10,.rs (3,0) p11]]))))):=by
 exact (zQ _ _ _).trans (by kernel_rfl)
theorem VI (a0_0:List D)(a1_ a2_:Int):V 234 [.agg [.rs (5,0) a0_0],iN a1_,iN a2_] =
 ck3 228 [.agg [.rs (5,0) a0_0],iN a1_] fun a b=>((br (!b)
 (some ((.tup [iN (0),.os (1,0) [],.bool false]),[]))
 (
 br (ni a.length != a2_)
 (some ((.tup [iN (0),.os (1,0) [],.bool false]),[]))
 (
 grd (decide (0<=0)&&decide (0<ni a.length)) (dd a 0 fun c=>
 asI .i64 c fun d=>grd (decide (0<=d)&&decide (d<ni a0_0.length)) (dd a0_0 d.toNat fun e=>
 asAgg e fun f=>dd f 0 fun g=>
 asI .i64 g fun h=>br (h != 3)
 (some ((.tup [iN (0),.os (1,0) [],.bool false]),[]))
 (
 grd (decide (0<=0)&&decide (0<ni a.length)) (dd a 0 fun i=>
 asI .i64 i fun j=>grd (decide (0<=j)&&decide (j<ni a0_0.length)) (dd a0_0 j.toNat fun k=>
 asAgg k fun l=>dd l 1 fun m=>
 asI .i64 m fun n=>grd (df a.length (some (1)) none) (some ((.tup [iN n,(.os (1,0) (part a (some (Int.toNat (1),List.length a-Int.toNat (1))))),.bool true]),[]))))))))))):=by
 exact (zR Tryz.func234 rfl _).trans (by kernel_rfl)
theorem Ya (a0_0:List D)(a0_1 a0_2 a0_3 a0_4 a0_5 a0_6 a0_7 a1_:Int):V 97 [.agg [.rs (5,0) a0_0,iN a0_1,iN a0_2,iN a0_3,iN a0_4,iN a0_5,iN a0_6,iN a0_7],iN a1_] =
 ck5 85 [.agg [.rs (5,0) a0_0,iN a0_1,iN a0_2,iN a0_3,iN a0_4,iN a0_5,iN a0_6,iN a0_7]] fun a _ b c d _ _ _=>((some ((.agg [.os (5,0) a,iN (0),iN b,iN c,iN d,iN (3),iN a1_,iN (0)]),[]))):=by
 exact (zR Tryz.func97 rfl _).trans (by kernel_rfl)
theorem XR (p l d:List D)(h x:Int):V 230 [.op [.os (5,0) p,.os (4,0) l,.os (3,0) d,iN h],iN x] =
 grd (decide (0<=x)&&decide (x<ni p.length)) (dd p x.toNat fun a=>
 tk2 a fun b _ c _ _=>(br (b==4)
 (ck6 238 [.str c] fun e=>(some ((.tup [.str c,.bool (!e)]),[.op [.os (5,0) p,.os (4,0) l,.os (3,0) d,iN h]])))
 (some ((.tup [.str c,.bool false]),[.op [.os (5,0) p,.os (4,0) l,.os (3,0) d,iN h]])))):=by
 exact (zR Tryz.func230 rfl _).trans (by kernel_rfl)
theorem Qy (p:List D)(m1 m2 m3 m4 m5 m6 m7:Int)(cp cl cd:List D)(v:Int):V 185 [.op [.os (5,0) p,iN m1,iN m2,iN m3,iN m4,iN m5,iN m6,iN m7,.rs (5,0) cp,.rs (4,0) cl,.rs (3,0) cd],iN v] =
 ck9 94 [.op [.os (5,0) p],iN v,iN m2] fun a b=>((some ((.tup []),[.op [.os (5,0) b,iN m1,iN a,iN m3,iN m4,iN m5,iN m6,iN m7,.rs (5,0) cp,.rs (4,0) cl,.rs (3,0) cd]]))):=by
 exact (zR Tryz.func185 rfl _).trans (by kernel_rfl)
theorem adC (a0_:List D)(a1_:Int):V 16 [.rs (1,0) a0_,iN a1_] =
 br (decide (a1_<ni a0_.length))
 (
 grd (decide (0<=a1_)&&decide (a1_<ni a0_.length)) (dd a0_ a1_.toNat fun a=>
 asI .u8 a fun b=>some ((iN (w6 b)),[])))
 (grd (!decide (256=0)) (some ((iN (Int.tmod (w6 (w6 (a1_*7)+ni a0_.length)) (256))),[]))):=by
 exact (zR Tryz.func16 rfl _).trans (by kernel_rfl)
theorem NC (a0_:Int):V 202 [iN a0_] =
 br (decide (a0_<0))
 (YX 202 [(iN (w6 (0-a0_)))] fun a=>(grd (decide (ni (ByteArray.size { data:=#[45] }+ByteArray.size a)<=LIM)) (some ((.str ({ data:=#[45] }++a)),[]))))
 (
 br (a0_==0)
 (some ((.str ({ data:=#[48] })),[]))
 (Fp a0_ ({ data:=#[] }))):=by
 exact (zR Tryz.func202 rfl _).trans (by kernel_rfl)
theorem Vt (a0_0 a0_1 a0_2:List D)(a1_:Int):V 57 [.agg [.rs (5,0) a0_0,.rs (4,0) a0_1,.rs (3,0) a0_2],iN a1_] =
 ck6 58 [iN a1_,iN (0),(iN (w6 (ni a0_1.length-1)))] fun a=>(some ((.bool a),[])):=by
 exact (zR Tryz.func57 rfl _).trans (by kernel_rfl)
theorem VJ (a0_0 a1_:List D):V 149 [.agg [.rs (5,0) a0_0],.rs (1,0) a1_] =
 grd (decide (0<=ni a0_0.length)&&decide (ni a0_0.length<=LIM)) (Ee a1_ (0) a0_0 (List.replicate (Int.toNat (ni a0_0.length)) (D.bool false))):=by
 exact (zR Tryz.func149 rfl _).trans (by kernel_rfl)
theorem Zr (a0_0:List D)(a1_:Int):V 61 [.agg [.rs (5,0) a0_0],iN a1_] =
 ck6 62 [iN a1_,iN (0),(iN (w6 (ni a0_0.length-1)))] fun a=>(some ((.bool a),[])):=by
 exact (zR Tryz.func61 rfl _).trans (by kernel_rfl)
theorem Zp (a0_:List D):V 51 [.rs (1,0) a0_] =
 Iq a0_ (w6 (17000+ni a0_.length)) (0):=by
 exact (zR Tryz.func51 rfl _).trans (by kernel_rfl)
theorem Ub (a0_0:List D)(a1_:Int):V 228 [.agg [.rs (5,0) a0_0],iN a1_] =
 Fm a1_ a0_0 []:=by
 exact (zR Tryz.func228 rfl _).trans (by kernel_rfl)
theorem Xz (a0_:ByteArray):V 128 [.str a0_] =
 EU a0_ (0):=by
 exact (zR Tryz.func128 rfl _).trans (by kernel_rfl)

end Go.Eng
/-! the functions as the interpreter has them -/
namespace Go.Eng
open Go.Proofs Go.Proofs.Tryz
set_option maxRecDepth 100000
theorem Pg (p:List D)(m1 m2 m3 m4 m5 m6 m7:Int)(cp cl cd:List D)(io im ii:Int)(is:ByteArray):V 134 [.op [.os (5,0) p,iN m1,iN m2,iN m3,iN m4,iN m5,iN m6,iN m7,.rs (5,0) cp,.rs (4,0) cl,.rs (3,0) cd],.agg [iN io,iN im,iN ii,.str is]] =
 br (io==1)
 (ck9 93 [.op [.os (5,0) p],(.agg [.rs (5,0) cp]),iN im] fun a b=>((TE 185 [.op [.os (5,0) b,iN m1,iN m2,iN m3,iN m4,iN m5,iN m6,iN m7,.rs (5,0) cp,.rs (4,0) cl,.rs (3,0) cd],iN a] fun c d e f g h i j k l m=>(((ck6 57 [.agg [.rs (5,0) k,.rs (4,0) l,.rs (3,0) m],(iN (w6 (m1+1)))] fun n=>(br (!n)
 (some ((iN (7)),[.op [.os (5,0) c,iN d,iN e,iN f,iN g,iN h,iN i,iN j,.rs (5,0) k,.rs (4,0) l,.rs (3,0) m]]))
 (some ((iN (0)),[(.op [.os (5,0) c,(iN (w6 (m1+1))),iN e,iN f,iN g,iN h,iN i,iN j,.rs (5,0) k,.rs (4,0) l,.rs (3,0) m])])))))))))
 (
 br (io==2)
 (Lf 186 [.op [.os (5,0) p,iN m1,iN m2,iN m3,iN m4,iN m5,iN m6,iN m7,.rs (5,0) cp,.rs (4,0) cl,.rs (3,0) cd],iN im,iN ii] fun a b c d e f g h i j k l=>((br (a==0)
 (ck6 57 [.agg [.rs (5,0) j,.rs (4,0) k,.rs (3,0) l],(iN (w6 (m1+1)))] fun m=>(br (!m)
 (some ((iN (7)),[.op [.os (5,0) b,iN c,iN d,iN e,iN f,iN g,iN h,iN i,.rs (5,0) j,.rs (4,0) k,.rs (3,0) l]]))
 (some ((iN a),[(.op [.os (5,0) b,(iN (w6 (m1+1))),iN d,iN e,iN f,iN g,iN h,iN i,.rs (5,0) j,.rs (4,0) k,.rs (3,0) l])]))))
 (some ((iN a),[(.op [.os (5,0) b,(iN (w6 (m1+1))),iN d,iN e,iN f,iN g,iN h,iN i,.rs (5,0) j,.rs (4,0) k,.rs (3,0) l])])))))
 (
 br (io==3)
 (Lf 187 [.op [.os (5,0) p,iN m1,iN m2,iN m3,iN m4,iN m5,iN m6,iN m7,.rs (5,0) cp,.rs (4,0) cl,.rs (3,0) cd],.str is] fun a b c d e f g h i j k l=>((br (a==0)
 (ck6 57 [.agg [.rs (5,0) j,.rs (4,0) k,.rs (3,0) l],(iN (w6 (m1+1)))] fun m=>(br (!m)
 (some ((iN (7)),[.op [.os (5,0) b,iN c,iN d,iN e,iN f,iN g,iN h,iN i,.rs (5,0) j,.rs (4,0) k,.rs (3,0) l]]))
 (some ((iN a),[(.op [.os (5,0) b,(iN (w6 (m1+1))),iN d,iN e,iN f,iN g,iN h,iN i,.rs (5,0) j,.rs (4,0) k,.rs (3,0) l])]))))
 (some ((iN a),[(.op [.os (5,0) b,(iN (w6 (m1+1))),iN d,iN e,iN f,iN g,iN h,iN i,.rs (5,0) j,.rs (4,0) k,.rs (3,0) l])])))))
 (
 br (io==5)
 (ck6 57 [.agg [.rs (5,0) cp,.rs (4,0) cl,.rs (3,0) cd],iN im] fun a=>(br (!a)
 (some ((iN (7)),[.op [.os (5,0) p,iN m1,iN m2,iN m3,iN m4,iN m5,iN m6,iN m7,.rs (5,0) cp,.rs (4,0) cl,.rs (3,0) cd]]))
 (some ((iN (0)),[.op [.os (5,0) p,iN im,iN m2,iN m3,iN m4,iN m5,iN m6,iN m7,.rs (5,0) cp,.rs (4,0) cl,.rs (3,0) cd]]))))
 (
 br (io==6)
 (ck9 157 [.op [.os (5,0) p],(
 .agg [iN (6),(iN (w6 (w6 (8*im)+ii))),.str ({ data:=#[] }),iN m3,iN (0)])] fun a b=>((TE 185 [.op [.os (5,0) b,iN m1,iN m2,iN m3,iN m4,iN m5,iN m6,iN m7,.rs (5,0) cp,.rs (4,0) cl,.rs (3,0) cd],iN a] fun c d e f g h i j k l m=>(((ck6 57 [.agg [.rs (5,0) k,.rs (4,0) l,.rs (3,0) m],(iN (w6 (m1+1)))] fun n=>(br (!n)
 (some ((iN (7)),[.op [.os (5,0) c,iN d,iN e,iN f,iN g,iN h,iN i,iN j,.rs (5,0) k,.rs (4,0) l,.rs (3,0) m]]))
 (some ((iN (0)),[(.op [.os (5,0) c,(iN (w6 (m1+1))),iN e,iN f,iN g,iN h,iN i,iN j,.rs (5,0) k,.rs (4,0) l,.rs (3,0) m])])))))))))
 (Xi 182 [.op [.os (5,0) p,iN m1,iN m2,iN m3,iN m4,iN m5,iN m6,iN m7,.rs (5,0) cp,.rs (4,0) cl,.rs (3,0) cd]] fun a b c d e f g h i j k l m=>(((br (!b)
 (some ((iN (7)),[.op [.os (5,0) c,iN d,iN e,iN f,iN g,iN h,iN i,iN j,.rs (5,0) k,.rs (4,0) l,.rs (3,0) m]]))
 (
 grd (decide (0<=a)&&decide (a<ni c.length)) (dd c a.toNat fun n=>
 tk2 n fun o q _ _ _=>(br (io==4)
 (
 br (o==2)
 (
 br (q==0)
 (ck6 57 [.agg [.rs (5,0) k,.rs (4,0) l,.rs (3,0) m],iN im] fun r=>(br (!r)
 (some ((iN (7)),[.op [.os (5,0) c,iN d,iN e,iN f,iN g,iN h,iN i,iN j,.rs (5,0) k,.rs (4,0) l,.rs (3,0) m]]))
 (some ((iN (0)),[.op [.os (5,0) c,iN im,iN e,iN f,iN g,iN h,iN i,iN j,.rs (5,0) k,.rs (4,0) l,.rs (3,0) m]]))))
 (ck6 57 [.agg [.rs (5,0) k,.rs (4,0) l,.rs (3,0) m],(iN (w6 (m1+1)))] fun r=>(br (!r)
 (some ((iN (7)),[.op [.os (5,0) c,iN d,iN e,iN f,iN g,iN h,iN i,iN j,.rs (5,0) k,.rs (4,0) l,.rs (3,0) m]]))
 (some ((iN (0)),[(.op [.os (5,0) c,(iN (w6 (m1+1))),iN e,iN f,iN g,iN h,iN i,iN j,.rs (5,0) k,.rs (4,0) l,.rs (3,0) m])])))))
 (ck6 57 [.agg [.rs (5,0) k,.rs (4,0) l,.rs (3,0) m],(iN (w6 (m1+1)))] fun r=>(br (!r)
 (some ((iN (7)),[.op [.os (5,0) c,iN d,iN e,iN f,iN g,iN h,iN i,iN j,.rs (5,0) k,.rs (4,0) l,.rs (3,0) m]]))
 (some ((iN (0)),[(.op [.os (5,0) c,(iN (w6 (m1+1))),iN e,iN f,iN g,iN h,iN i,iN j,.rs (5,0) k,.rs (4,0) l,.rs (3,0) m])])))))
 (ck6 57 [.agg [.rs (5,0) k,.rs (4,0) l,.rs (3,0) m],(iN (w6 (m1+1)))] fun r=>(br (!r)
 (some ((iN (7)),[.op [.os (5,0) c,iN d,iN e,iN f,iN g,iN h,iN i,iN j,.rs (5,0) k,.rs (4,0) l,.rs (3,0) m]]))
 (some ((iN (0)),[(.op [.os (5,0) c,(iN (w6 (m1+1))),iN e,iN f,iN g,iN h,iN i,iN j,.rs (5,0) k,.rs (4,0) l,.rs (3,0) m])]))))))))))))))):=by
 exact (zR Tryz.func134 rfl _).trans (by kernel_rfl)
theorem XZ (a0_0:List D)(a0_1 a0_2:Int):V 52 [.op [.rs (1,0) a0_0,iN a0_1,iN a0_2]] =
 aet 112 [.op [.rs (1,0) a0_0,iN a0_1,iN a0_2]] fun a b c d e f g h i j k l m n=>(((((ck7 76 [.op [.rs (1,0) l,iN m,iN n],iN (30)] fun o p q r=>((br (o==0)
 (ck7 76 [.op [.rs (1,0) p,iN q,iN r],iN (50)] fun s t u v=>((ck7 122 [.op [.rs (1,0) t,iN u,iN v],(.rs (1,0) [iN (-1),iN (0),(iN (w6 (ni b.length-1))),(iN (ni b.length)),iN s])] fun w x y z=>((some ((.tup [.agg [.rs (5,0) a,.rs (4,0) b,.rs (3,0) c],(.agg [.rs (5,0) d,iN w,iN f,iN g,iN h,iN i,iN j,iN k])]),[.op [.rs (1,0) x,iN y,iN z]]))))))
 (
 br (o==1)
 (ck7 76 [.op [.rs (1,0) p,iN q,iN r],iN (5)] fun s t u v=>((some ((.tup [.agg [.rs (5,0) a,.rs (4,0) b,.rs (3,0) c],(.agg [.rs (5,0) d,iN e,iN f,iN g,iN h,iN s,iN j,iN k])]),[.op [.rs (1,0) t,iN u,iN v]]))))
 (
 br (o==2)
 (ck7 76 [.op [.rs (1,0) p,iN q,iN r],iN (21)] fun s t u v=>((some ((.tup [.agg [.rs (5,0) a,.rs (4,0) b,.rs (3,0) c],(.agg [.rs (5,0) d,iN e,iN f,iN g,iN h,iN i,iN s,iN k])]),[.op [.rs (1,0) t,iN u,iN v]]))))
 (
 br (o==3)
 (ck7 91 [.op [.rs (1,0) p,iN q,iN r],(.agg [.rs (5,0) d])] fun s t u v=>((some ((.tup [.agg [.rs (5,0) a,.rs (4,0) b,.rs (3,0) c],(.agg [.rs (5,0) d,iN e,iN f,iN g,iN h,iN i,iN j,iN s])]),[.op [.rs (1,0) t,iN u,iN v]]))))
 (
 br (o==4)
 (ck7 91 [.op [.rs (1,0) p,iN q,iN r],(.agg [.rs (5,0) d])] fun s t u v=>((some ((.tup [.agg [.rs (5,0) a,.rs (4,0) b,.rs (3,0) c],(.agg [.rs (5,0) d,iN e,iN s,iN g,iN h,iN i,iN j,iN k])]),[.op [.rs (1,0) t,iN u,iN v]]))))
 (
 br (o==5)
 (ck7 91 [.op [.rs (1,0) p,iN q,iN r],(.agg [.rs (5,0) d])] fun s t u v=>((some ((.tup [.agg [.rs (5,0) a,.rs (4,0) b,.rs (3,0) c],(.agg [.rs (5,0) d,iN e,iN f,iN s,iN h,iN i,iN j,iN k])]),[.op [.rs (1,0) t,iN u,iN v]]))))
 (
 br (o==6)
 (ck7 91 [.op [.rs (1,0) p,iN q,iN r],(.agg [.rs (5,0) d])] fun s t u v=>((some ((.tup [.agg [.rs (5,0) a,.rs (4,0) b,.rs (3,0) c],(.agg [.rs (5,0) d,iN e,iN f,iN g,iN s,iN i,iN j,iN k])]),[.op [.rs (1,0) t,iN u,iN v]]))))
 (
 br (o==7)
 (adr 74 [.op [.rs (1,0) p,iN q,iN r]] fun s t u v w x=>(((some ((.tup [.agg [.os (5,0) s,.os (4,0) t,.os (3,0) u],(.agg [.rs (5,0) d,iN e,iN f,iN g,iN h,iN i,iN j,iN k])]),[.op [.rs (1,0) v,iN w,iN x]])))))
 (
 br (o==8)
 (ads 90 [.op [.rs (1,0) p,iN q,iN r]] fun s t u v=>(((some ((.tup [.agg [.rs (5,0) a,.rs (4,0) b,.rs (3,0) c],(.agg [.os (5,0) s,iN e,iN f,iN g,iN h,iN i,iN j,iN k])]),[.op [.rs (1,0) t,iN u,iN v]])))))
 (some ((.tup [.agg [.rs (5,0) a,.rs (4,0) b,.rs (3,0) c],(.agg [.rs (5,0) d,iN e,iN f,iN g,iN h,iN i,iN j,iN k])]),[.op [.rs (1,0) p,iN q,iN r]]))))))))))))))))):=by
 exact (zR Tryz.func52 rfl _).trans (by kernel_rfl)
theorem XI (a0_0:List D)(a0_1 a0_2:Int):V 90 [.op [.rs (1,0) a0_0,iN a0_1,iN a0_2]] =
 ads 154 [.op [.rs (1,0) a0_0,iN a0_1,iN a0_2]] fun a b c d=>(((br (decide (ni a.length>0))
 (Xj 155 [.op [.rs (1,0) b,iN c,iN d],iN (12)] fun e f g h=>((br e
 (ck7 76 [.op [.rs (1,0) f,iN g,iN h],(iN (ni a.length))] fun i j k l=>((grd (decide (0<=i)&&decide (i<ni a.length)) (dd a i.toNat fun m=>
 asAgg m fun n=>unc n fun o p=>asI .i64 o fun q=>unc p fun r s=>asI .i64 r fun t=>unc s fun u v=>asS u fun w=>unc v fun x y=>asI .i64 x fun z=>unc y fun A B=>asI .i64 A fun C=>unn B (YZ 156 [.op [.rs (1,0) j,iN k,iN l],.agg [iN q,iN t,.str w,iN z,iN C]] fun E F G H I J K L=>(((grd (decide (0<=i)&&decide (i<ni a.length)) (dd a i.toNat fun _=>
 nam (List.set a i.toNat (D.agg [iN E,iN F,D.str G,iN H,iN I])) fun M=>
 Xj 155 [(
 .op [.rs (1,0) J,iN K,iN L]),iN (60)] fun N O P Q=>((br N
 (ck7 76 [.op [.rs (1,0) O,iN P,iN Q],iN (2)] fun R S T U=>((grd (decide (0<=w6 (3000+R))&&decide (w6 (3000+R)<=LIM)) (CJ (0) S T U (List.replicate (Int.toNat (w6 (3000+R))) (D.agg [iN (0),iN (0),D.str { data:=#[] },iN (0),iN (0)]))))))
 (some ((.agg [.os (5,0) M]),[.op [.rs (1,0) O,iN P,iN Q]])))))))))))))
 (Xj 155 [.op [.rs (1,0) f,iN g,iN h],iN (60)] fun i j k l=>((br i
 (ck7 76 [.op [.rs (1,0) j,iN k,iN l],iN (2)] fun m n o p=>((grd (decide (0<=w6 (3000+m))&&decide (w6 (3000+m)<=LIM)) (CJ (0) n o p (List.replicate (Int.toNat (w6 (3000+m))) (D.agg [iN (0),iN (0),D.str { data:=#[] },iN (0),iN (0)]))))))
 (some ((.agg [.os (5,0) a]),[.op [.rs (1,0) j,iN k,iN l]]))))))))
 (Xj 155 [.op [.rs (1,0) b,iN c,iN d],iN (60)] fun e f g h=>((br e
 (ck7 76 [.op [.rs (1,0) f,iN g,iN h],iN (2)] fun i j k l=>((grd (decide (0<=w6 (3000+i))&&decide (w6 (3000+i)<=LIM)) (CJ (0) j k l (List.replicate (Int.toNat (w6 (3000+i))) (D.agg [iN (0),iN (0),D.str { data:=#[] },iN (0),iN (0)]))))))
 (some ((.agg [.os (5,0) a]),[.op [.rs (1,0) f,iN g,iN h]])))))))):=by
 exact (zR Tryz.func90 rfl _).trans (by kernel_rfl)
theorem Yc (a0_0 a0_1 a0_2 a1_0:List D)(a1_1 a1_2 a1_3 a1_4 a1_5 a1_6 a1_7:Int):V 153 [.agg [.rs (5,0) a0_0,.rs (4,0) a0_1,.rs (3,0) a0_2],.agg [.rs (5,0) a1_0,iN a1_1,iN a1_2,iN a1_3,iN a1_4,iN a1_5,iN a1_6,iN a1_7]] =
 ck5 85 [.agg [.rs (5,0) a1_0,iN a1_1,iN a1_2,iN a1_3,iN a1_4,iN a1_5,iN a1_6,iN a1_7]] fun a b c d e f g h=>((grd (decide (0<=a1_1)&&decide (a1_1<ni a0_1.length)) (dd a0_1 a1_1.toNat fun i=>
 tk1 i fun j k l m=>(PN 196 [.agg [.rs (5,0) a0_0,.rs (4,0) a0_1,.rs (3,0) a0_2],(.op [.os (5,0) a,iN b,iN c,iN d,iN e,iN f,iN g,iN h]),.agg [iN j,iN k,iN l,.str m]] fun n o p q r s t u v=>((br (n != 0)
 (ck5 97 [.agg [.rs (5,0) a1_0,iN a1_1,iN a1_2,iN a1_3,iN a1_4,iN a1_5,iN a1_6,iN a1_7],iN n] fun w x y z A B C E=>((some ((.agg [.os (5,0) w,iN x,iN y,iN z,iN A,iN B,iN C,iN E]),[]))))
 (ck6 62 [iN p,iN (0),(iN (w6 (ni a0_1.length-1)))] fun w=>(br (!w)
 (ck5 97 [.agg [.rs (5,0) a1_0,iN a1_1,iN a1_2,iN a1_3,iN a1_4,iN a1_5,iN a1_6,iN a1_7],iN (7)] fun x y z A B C E F=>((some ((.agg [.os (5,0) x,iN y,iN z,iN A,iN B,iN C,iN E,iN F]),[]))))
 (
 br (decide (ni o.length>3000))
 (ck5 97 [.agg [.rs (5,0) a1_0,iN a1_1,iN a1_2,iN a1_3,iN a1_4,iN a1_5,iN a1_6,iN a1_7],iN (6)] fun x y z A B C E F=>((some ((.agg [.os (5,0) x,iN y,iN z,iN A,iN B,iN C,iN E,iN F]),[]))))
 (some ((.agg [.os (5,0) o,iN p,iN q,iN r,iN s,iN t,iN u,iN v]),[]))))))))))):=by
 exact (zR Tryz.func153 rfl _).trans (by kernel_rfl)
theorem DU (p0:List D)(p1:Int)(p2 p3 p4:List D)(p5 p6 p7 p8 p9 p10 p11 p12 p13 p14 p15 p16 p17 p18:Int)(p19 p20:List D):Bm p0 p1 p2 p3 p4 p5 p6 p7 p8 p9 p10 p11 p12 p13 p14 p15 p16 p17 p18 p19 p20 =
 FE 16 [.rs (1,0) p0,iN (1)] fun a=>(grd (!decide (30=0)) (br (decide (p1<Int.tmod a (30)))
 (ck5 17 [(.agg [.rs (5,0) p2,(.rs (
 4,0) p3),.rs (3,0) p4]),(.agg [.rs (5,0) p19,iN p5,iN p6,iN p7,iN p8,iN p9,iN p10,iN p11])] fun b c d e f g h i=>((ck5 17 [.agg [.rs (5,0) p2,.rs (4,0) p3,.rs (3,0) p4],(.agg [.rs (5,0) p20,iN p12,iN p13,iN p14,iN p15,iN p16,iN p17,iN p18])] fun j k l m n o p q=>((FE 16 [.rs (1,0) p0,(iN (w6 (p1+2)))] fun r=>(grd (!decide (3=0)) (br (Int.tmod r (3)==0)
 (ck5 18 [.agg [.rs (5,0) j,iN k,iN l,iN m,iN n,iN o,iN p,iN q]] fun s t u v w x y z=>((Bm p0 (w6 (p1+1)) p2 p3 p4 c d e f g h i t u v w x y z b s)))
 (Bm p0 (w6 (p1+1)) p2 p3 p4 c d e f g h i k l m n o p q b j))))))))
 (aaP 19 [.agg [.rs (5,0) p2,.rs (4,0) p3,.rs (3,0) p4],(.agg [.rs (5,0) p19,iN p5,iN p6,iN p7,iN p8,iN p9,iN p10,iN p11])] fun b c=>((aaP 19 [.agg [.rs (5,0) p2,.rs (4,0) p3,.rs (3,0) p4],(.agg [.rs (5,0) p20,iN p12,iN p13,iN p14,iN p15,iN p16,iN p17,iN p18])] fun d e=>((br c
 (
 br e
 (some ((.bool (kJ b d)),[]))
 (some ((.bool false),[])))
 (some ((.bool false),[]))))))))):=by
 exact (zQ _ _ _).trans (by kernel_rfl)
theorem SM (a0_0 a0_1 a0_2 a1_0:List D)(a2_:Int):V 171 [.agg [.rs (5,0) a0_0,.rs (4,0) a0_1,.rs (3,0) a0_2],.agg [.rs (5,0) a1_0],iN a2_] =
 ck6 59 [.agg [.rs (5,0) a0_0,.rs (4,0) a0_1,.rs (3,0) a0_2]] fun a=>(br (!a)
 (some ((.tup [.agg [.os (5,0) [],iN (0),iN (0),iN (0),iN (0),iN (0),iN (0),iN (0)],.bool false]),[]))
 (ck6 60 [.agg [.rs (5,0) a1_0]] fun b=>(br (!b)
 (some ((.tup [.agg [.os (5,0) [],iN (0),iN (0),iN (0),iN (0),iN (0),iN (0),iN (0)],.bool false]),[]))
 (ck6 61 [.agg [.rs (5,0) a1_0],iN a2_] fun c=>(br (!c)
 (some ((.tup [.agg [.os (5,0) [],iN (0),iN (0),iN (0),iN (0),iN (0),iN (0),iN (0)],.bool false]),[]))
 (
 br (decide (w6 (ni a1_0.length+2)>3000))
 (some ((.tup [.agg [.os (5,0) [],iN (0),iN (0),iN (0),iN (0),iN (0),iN (0),iN (0)],.bool false]),[]))
 (
 grd (decide (0<=a2_)&&decide (a2_<ni a1_0.length)) (dd a1_0 a2_.toNat fun d=>
 tk2 d fun e f _ g _=>(br (e != 6)
 (some ((.tup [.agg [.os (5,0) [],iN (0),iN (0),iN (0),iN (0),iN (0),iN (0),iN (0)],.bool false]),[]))
 (
 grd (!decide (8=0)) (br (Int.tmod f (8) != 0)
 (some ((.tup [.agg [.os (5,0) [],iN (0),iN (0),iN (0),iN (0),iN (0),iN (0),iN (0)],.bool false]),[]))
 (
 grd (!decide (8=0)) (br (decide (w6 (Int.tdiv f (8))>=ni a0_1.length))
 (some ((.tup [.agg [.os (5,0) [],iN (0),iN (0),iN (0),iN (0),iN (0),iN (0),iN (0)],.bool false]),[]))
 (ck8 147 [.agg [.rs (5,0) a1_0]] fun h=>((ck9 158 [.op [.os (5,0) h],(.agg [iN (1),iN (0),.str ({ data:=#[] }),iN (0),iN (0)])] fun i j=>((ck9 158 [.op [.os (5,0) j],(.agg [iN (5),iN (0),.str ({ data:=#[] }),iN i,iN g])] fun k l=>((grd (!decide (8=0)) (some ((.tup [(.agg [.os (5,0) l,(iN (w6 (Int.tdiv f (8)))),iN i,iN k,iN i,iN (0),iN (0),iN (0)]),.bool true]),[])))))))))))))))))))))):=by
 exact (zR Tryz.func171 rfl _).trans (by kernel_rfl)
theorem GE (p0:Int)(p1:List D)(p2 p3:Int):CE p0 p1 p2 p3 =
 br (decide (p0<4))
 (PO 192 [.op [.rs (1,0) p1,iN p2,iN p3]] fun a b c d=>((adp 191 [.agg [.rs (5,0) []],.str a] fun e f g _=>(((adq 193 [.agg [.rs (5,0) e],.rs (1,0) f] fun h i j k _=>(((br (g==0)
 (
 br (k==0)
 (some ((.agg [.os (5,0) h,.os (4,0) i,.os (3,0) j]),[.op [.rs (1,0) b,iN c,iN d]]))
 (CE (w6 (p0+1)) b c d))
 (CE (w6 (p0+1)) b c d))))))))))
 (adp 191 [.agg [.rs (5,0) []],.str ({ data:=#[40,112,114,105,110,116,32,49,41] })] fun a b _ _=>(((adq 193 [.agg [.rs (5,0) a],.rs (1,0) b] fun c d e _ _=>(((some ((.agg [.os (5,0) c,.os (4,0) d,.os (3,0) e]),[.op [.rs (1,0) p1,iN p2,iN p3]])))))))):=by
 exact (zQ _ _ _).trans (by kernel_rfl)
theorem aa3 (a0_0 a0_1 a0_2 a1_0:List D)(a1_1 a1_2 a1_3 a1_4 a1_5 a1_6 a1_7:Int):V 89 [.agg [.rs (5,0) a0_0,.rs (4,0) a0_1,.rs (3,0) a0_2],.agg [.rs (5,0) a1_0,iN a1_1,iN a1_2,iN a1_3,iN a1_4,iN a1_5,iN a1_6,iN a1_7]] =
 ck6 15 [.agg [.rs (5,0) a0_0,.rs (4,0) a0_1,.rs (3,0) a0_2],(.agg [.rs (5,0) a1_0,iN a1_1,iN a1_2,iN a1_3,iN a1_4,iN a1_5,iN a1_6,iN a1_7])] fun a=>(br (!a)
 (some ((.agg [.os (5,0) [],iN (0),iN (0),iN (0),iN (0),iN (3),iN (7),iN (0)]),[]))
 (
 br (a1_5 != 0)
 (ck5 85 [.agg [.rs (5,0) a1_0,iN a1_1,iN a1_2,iN a1_3,iN a1_4,iN a1_5,iN a1_6,iN a1_7]] fun b c d e f g h i=>((some ((.agg [.os (5,0) b,iN c,iN d,iN e,iN f,iN g,iN h,iN i]),[]))))
 (ck5 153 [.agg [.rs (5,0) a0_0,.rs (4,0) a0_1,.rs (3,0) a0_2],(.agg [.rs (5,0) a1_0,iN a1_1,iN a1_2,iN a1_3,iN a1_4,iN a1_5,iN a1_6,iN a1_7])] fun b c d e f g h i=>((some ((.agg [.os (5,0) b,iN c,iN d,iN e,iN f,iN g,iN h,iN i]),[])))))):=by
 exact (zR Tryz.func89 rfl _).trans (by kernel_rfl)
theorem XF (a0_0:List D)(a0_1 a0_2:Int):V 143 [.op [.rs (1,0) a0_0,iN a0_1,iN a0_2]] =
 grd (!decide (33<0)) (grd (!decide (45<0)) (br (decide (a0_1<ni a0_0.length))
 (
 grd (decide (0<=a0_1)&&decide (a0_1<ni a0_0.length)) (dd a0_0 a0_1.toNat fun a=>
 asI .u8 a fun b=>some ((iN (w6 (ni (BitVec.toNat (BitVec.ofInt (IntKind.bits IntKind.i64) (w6 (w6 (ni (BitVec.toNat (BitVec.ofInt (IntKind.bits IntKind.i64) (w6 (ni (BitVec.toNat (BitVec.ofInt (IntKind.bits IntKind.i64) (Int.fdiv (w6 (w6 (a0_2*6364136223846793005)+1442695040888963407)) (2 ^ min (Int.toNat (33)) (IntKind.bits IntKind.i64))) ^^^ BitVec.ofInt (IntKind.bits IntKind.i64) (Int.fdiv (w6 (w6 (a0_2*6364136223846793005)+1442695040888963407)) (2 ^ min (Int.toNat (45)) (IntKind.bits IntKind.i64))))))) &&& BitVec.ofInt (IntKind.bits IntKind.i64) (255))))+w6 b)) &&& BitVec.ofInt (IntKind.bits IntKind.i64) (255)))))),[(.op [.rs (1,0) a0_0,(iN (w6 (a0_1+1))),(iN (w6 (w6 (a0_2*6364136223846793005)+1442695040888963407)))])])))
 (some ((iN (w6 (ni (BitVec.toNat (BitVec.ofInt (IntKind.bits IntKind.i64) (w6 (ni (BitVec.toNat (BitVec.ofInt (IntKind.bits IntKind.i64) (Int.fdiv (w6 (w6 (a0_2*6364136223846793005)+1442695040888963407)) (2 ^ min (Int.toNat (33)) (IntKind.bits IntKind.i64))) ^^^ BitVec.ofInt (IntKind.bits IntKind.i64) (Int.fdiv (w6 (w6 (a0_2*6364136223846793005)+1442695040888963407)) (2 ^ min (Int.toNat (45)) (IntKind.bits IntKind.i64))))))) &&& BitVec.ofInt (IntKind.bits IntKind.i64) (255)))))),[(.op [.rs (1,0) a0_0,iN a0_1,(iN (w6 (w6 (a0_2*6364136223846793005)+1442695040888963407)))])])))):=by
 exact (zR Tryz.func143 rfl _).trans (by kernel_rfl)
theorem LF (p0 p1:Int)(p2:List D):Iu p0 p1 p2 =
 br (decide (p1>0))
 (
 grd (decide (0<=p0)&&decide (p0<ni p2.length)) (dd p2 p0.toNat fun a=>
 asAgg a fun b=>dd b 0 fun c=>
 asI .i64 c fun d=>br (d==5)
 (
 grd (decide (0<=p0)&&decide (p0<ni p2.length)) (dd p2 p0.toNat fun e=>
 asAgg e fun f=>dd f 4 fun g=>
 asI .i64 g fun h=>Iu h (w6 (p1-1)) p2))
 (
 grd (decide (0<=p0)&&decide (p0<ni p2.length)) (dd p2 p0.toNat fun e=>
 asAgg e fun f=>dd f 0 fun g=>
 asI .i64 g fun h=>br (h != 5)
 (some ((.tup [iN (0),.bool false]),[]))
 (
 grd (decide (0<=p0)&&decide (p0<ni p2.length)) (dd p2 p0.toNat fun i=>
 asAgg i fun j=>dd j 3 fun k=>
 asI .i64 k fun l=>some ((.tup [iN l,.bool true]),[])))))))
 (
 grd (decide (0<=p0)&&decide (p0<ni p2.length)) (dd p2 p0.toNat fun a=>
 asAgg a fun b=>dd b 0 fun c=>
 asI .i64 c fun d=>br (d != 5)
 (some ((.tup [iN (0),.bool false]),[]))
 (
 grd (decide (0<=p0)&&decide (p0<ni p2.length)) (dd p2 p0.toNat fun e=>
 asAgg e fun f=>dd f 3 fun g=>
 asI .i64 g fun h=>some ((.tup [iN h,.bool true]),[]))))):=by
 exact (zQ _ _ _).trans (by kernel_rfl)
theorem Ku (p0:Int)(p1 p2 p3:List D):GA p0 p1 p2 p3 =
 br (decide (p0<ni p3.length))
 (
 grd (decide (0<=p0)&&decide (p0<ni p3.length)) (dd p3 p0.toNat fun a=>
 tk3 a fun b c d=>(ck6 128 [.str b] fun e=>(br (!e)
 (some ((.bool false),[]))
 (FE 129 [.agg [.rs (5,0) p1,.rs (4,0) p2,.rs (3,0) p3],.str b] fun f=>(br (f != p0)
 (some ((.bool false),[]))
 (ck6 62 [iN c,iN (0),(iN (w6 (ni p2.length-1)))] fun g=>(br (!g)
 (some ((.bool false),[]))
 (ck6 62 [iN d,iN (0),iN (4)] fun h=>(br (!h)
 (some ((.bool false),[]))
 (GA (w6 (p0+1)) p1 p2 p3)))))))))))
 (some ((.bool true),[])):=by
 exact (zQ _ _ _).trans (by kernel_rfl)
theorem FJ (p0 p1:Int)(p2:List D)(p3 p4:Int)(p5:List D):CU p0 p1 p2 p3 p4 p5 =
 br (decide (p1<p0))
 (YZ 197 [.op [.rs (1,0) p2,iN p3,iN p4],iN p1] fun a b c d e f g h=>(((ck9 158 [.op [.os (5,0) p5],.agg [iN a,iN b,.str c,iN d,iN e]] fun _ i=>((CU p0 (w6 (p1+1)) f g h i))))))
 (some ((.agg [.os (5,0) p5]),[.op [.rs (1,0) p2,iN p3,iN p4]])):=by
 exact (zQ _ _ _).trans (by kernel_rfl)
theorem aa2 (a0_0:List D)(a1_:ByteArray):V 191 [.agg [.rs (5,0) a0_0],.str a1_] =
 ck6 60 [.agg [.rs (5,0) a0_0]] fun a=>(br (!a)
 (some ((.tup [.agg [.os (5,0) []],.os (1,0) [],iN (6),iN (0)]),[]))
 (
 br (decide (ni (ByteArray.size a1_)>400))
 (ck8 147 [.agg [.rs (5,0) a0_0]] fun b=>((some ((.tup [.agg [.os (5,0) b],.os (1,0) [],iN (1),iN (0)]),[]))))
 (ck8 147 [.agg [.rs (5,0) a0_0]] fun b=>((AH a1_ (0) a0_0 [] ([D.agg
 [iN (0),
 D.os
 (TypeInfo.size (Tables.types (Program.toTables Tryz.prog))[3],
 match rZ Tryz.prog (3) with
 |true=>0
 |false=>1)
 []]]) b))))):=by
 exact (zR Tryz.func191 rfl _).trans (by kernel_rfl)
theorem aaW (a0_0:List D)(a1_ a2_:Int):V 242 [.agg [.rs (5,0) a0_0],iN a1_,iN a2_] =
 ck6 55 [.agg [.rs (5,0) a0_0]] fun a=>(br (!a)
 (some ((.bool false),[]))
 (ck6 56 [.agg [.rs (5,0) a0_0],iN a1_] fun b=>(br (!b)
 (some ((.bool false),[]))
 (ck6 56 [.agg [.rs (5,0) a0_0],iN a2_] fun c=>(br (!c)
 (some ((.bool false),[]))
 (Dk 247 [.agg [.rs (5,0) a0_0]] fun d=>(grd (decide (0<=a1_)&&decide (a1_<ni d.length)) (dd d a1_.toNat fun e=>
 asI .i64 e fun f=>grd (decide (0<=a2_)&&decide (a2_<ni d.length)) (dd d a2_.toNat fun g=>
 asI .i64 g fun h=>some ((.bool (f==h)),[])))))))))):=by
 exact (zR Tryz.func242 rfl _).trans (by kernel_rfl)
theorem Kr (p0:List D)(p1 p2:Int)(p3:List D):Gv p0 p1 p2 p3 =
 br (decide (p2<p1))
 (
 grd (decide (0<=p2)&&decide (p2<ni p0.length)) (dd p0 p2.toNat fun a=>
 tk2 a fun b c d e f=>(ck6 126 [.agg [iN b,iN c,.str d,iN e,iN f],iN p2] fun g=>(br (!g)
 (some ((.bool false),[]))
 (Gv p0 p1 (w6 (p2+1)) p3)))))
 (some ((.bool (decide (ni p3.length<=3000))),[])):=by
 exact (zQ _ _ _).trans (by kernel_rfl)
theorem Ry (a0_:Int):V 177 [.int .u8 a0_] =
 br (decide (a0_>=97))
 (
 br (decide (a0_<=122))
 (some ((.bool true),[]))
 (grd (decide (0<8)) (ck6 203 [.rs (1,0) [.int .u8 (43),.int .u8 (45),.int .u8 (42),.int .u8 (60),.int .u8 (61),.int .u8 (63),.int .u8 (33),.int .u8 (47)],.int .u8 a0_] fun a=>(some ((.bool a),[])))))
 (grd (decide (0<8)) (ck6 203 [.rs (1,0) [.int .u8 (43),.int .u8 (45),.int .u8 (42),.int .u8 (60),.int .u8 (61),.int .u8 (63),.int .u8 (33),.int .u8 (47)],.int .u8 a0_] fun a=>(some ((.bool a),[])))):=by
 exact (zR Tryz.func177 rfl _).trans (by kernel_rfl)
theorem ZA (a0_0:List D)(a0_1 a0_2:Int)(a1_0 a1_1 a1_2 a2_0:List D)(a2_1 a2_2 a2_3 a2_4 a2_5 a2_6 a2_7 a3_:Int):V 172 [.op [.rs (1,0) a0_0,iN a0_1,iN a0_2],.agg [.rs (5,0) a1_0,.rs (4,0) a1_1,.rs (3,0) a1_2],.agg [.os (5,0) a2_0,iN a2_1,iN a2_2,iN a2_3,iN a2_4,iN a2_5,iN a2_6,iN a2_7],iN a3_] =
 FM a3_ (0) a0_0 a0_1 a0_2 a1_0 a1_1 a1_2 a2_1 a2_2 a2_3 a2_4 a2_5 a2_6 a2_7 (0) (0) (0) (0) (0) (0) (0) a2_0:=by
 exact (zR Tryz.func172 rfl _).trans (by kernel_rfl)
theorem JQ (p0:List D)(p1:Int)(p2 p3:List D):Ee p0 p1 p2 p3 =
 br (decide (p1<ni p0.length))
 (
 grd (decide (0<=p1)&&decide (p1<ni p0.length)) (dd p0 p1.toNat fun a=>
 asI .i64 a fun b=>grd (decide (0<=b)&&decide (b<ni p3.length)) (dd p3 b.toNat fun _=>
 nam (List.set p3 b.toNat (D.bool true)) fun c=>
 Ee p0 (w6 (p1+1)) p2 c)))
 (BG (w6 (ni p2.length-1)) p2 p3):=by
 exact (zQ _ _ _).trans (by kernel_rfl)
theorem Pd (p q:List D)(v:Int):V 93 [.op [.os (5,0) p],.agg [.rs (5,0) q],iN v] =
 aaO 137 [.op [.os (5,0) p],(.agg [.rs (5,0) q]),.rs (1,0) [iN v]] fun a b=>((grd (decide (0<=v)&&decide (v<ni a.length)) (dd a v.toNat fun c=>
 asI .i64 c fun d=>some ((iN d),[.op [.os (5,0) b]])))):=by
 exact (zR Tryz.func93 rfl _).trans (by kernel_rfl)
theorem Pe (p:List D)(m1 m2 m3 m4 m5 m6 m7:Int)(cp cl cd:List D)(v n:Int):V 207 [.op [.os (5,0) p,iN m1,iN m2,iN m3,iN m4,iN m5,iN m6,iN m7,.rs (5,0) cp,.rs (4,0) cl,.rs (3,0) cd],iN v,iN n] =
 CT v n m1 m2 m3 m4 m5 m6 m7 cp cl cd p:=by
 exact (zR Tryz.func207 rfl _).trans (by kernel_rfl)
theorem Xm (a0_:ByteArray):V 124 [.str a0_] =
 ck6 58 [(iN (ni (ByteArray.size a0_))),iN (1),iN (12)] fun a=>(br (!a)
 (some ((.bool false),[]))
 (EH a0_ (ni (ByteArray.size a0_)) (0))):=by
 exact (zR Tryz.func124 rfl _).trans (by kernel_rfl)
theorem Lz (p0:List D)(p1:ByteArray)(p2:Int):FK p0 p1 p2 =
 br (decide (p2<ni p0.length))
 (Ir p0 p1 p2 (0))
 (some ((.tup [iN (-1),iN (0)]),[])):=by
 exact (zQ _ _ _).trans (by kernel_rfl)
theorem aa1 (r:Int)(p:List D):V 136 [iN r,.bp [.rs (5,0) p]] =
 ck6 56 [.agg [.rs (5,0) p],iN r] fun a=>(some ((.bool (!a)),[])):=by
 exact (zR Tryz.func136 rfl _).trans (by kernel_rfl)
theorem Xp (a0_:Int):V 67 [iN a0_] =
 br (decide (a0_<0))
 (some ((.os (1,0) []),[]))
 (Gx a0_ []):=by
 exact (zR Tryz.func67 rfl _).trans (by kernel_rfl)
theorem SU (a0_0:List D):V 252 [.agg [.rs (5,0) a0_0]] =
 Cw (0) a0_0 [] []:=by
 exact (zR Tryz.func252 rfl _).trans (by kernel_rfl)

end Go.Eng
/-! the functions as the interpreter has them -/
namespace Go.Eng
open Go.Proofs Go.Proofs.Tryz
set_option maxRecDepth 100000
theorem aa7 (cp cl cd p:List D)(m1 m2 m3 m4 m5 m6 m7 io im ii:Int)(is:ByteArray):V 196 [.agg [.rs (5,0) cp,.rs (4,0) cl,.rs (3,0) cd],.op [.os (5,0) p,iN m1,iN m2,iN m3,iN m4,iN m5,iN m6,iN m7],.agg [iN io,iN im,iN ii,.str is]] =
 br (io==1)
 (ck9 96 [.op [.os (5,0) p],(.agg [.rs (5,0) cp]),iN im] fun a b=>((SC 95 [.op [.os (5,0) b,iN m1,iN m2,iN m3,iN m4,iN m5,iN m6,iN m7],iN a] fun c _ d e f g h i=>(((some ((iN (0)),[(.op [.os (5,0) c,(iN (w6 (m1+1))),iN d,iN e,iN f,iN g,iN h,iN i])])))))))
 (
 br (io==2)
 (aaQ 216 [.agg [.rs (5,0) p],iN m3,iN im] fun a b=>((br (!b)
 (some ((iN (7)),[.op [.os (5,0) p,iN m1,iN m2,iN m3,iN m4,iN m5,iN m6,iN m7]]))
 (aaQ 216 [.agg [.rs (5,0) p],iN a,iN ii] fun c d=>((br (!d)
 (some ((iN (7)),[.op [.os (5,0) p,iN m1,iN m2,iN m3,iN m4,iN m5,iN m6,iN m7]]))
 (SC 95 [.op [.os (5,0) p,iN m1,iN m2,iN m3,iN m4,iN m5,iN m6,iN m7],iN c] fun e _ f g h i j k=>(((some ((iN (0)),[(.op [.os (5,0) e,(iN (w6 (m1+1))),iN f,iN g,iN h,iN i,iN j,iN k])])))))))))))
 (
 br (io==3)
 (PN 217 [.agg [.rs (5,0) cp,.rs (4,0) cl,.rs (3,0) cd],(.op [.os (5,0) p,iN m1,iN m2,iN m3,iN m4,iN m5,iN m6,iN m7]),.str is] fun a b c d e f g h i=>((br (a != 0)
 (some ((iN a),[.op [.os (5,0) b,iN c,iN d,iN e,iN f,iN g,iN h,iN i]]))
 (some ((iN (0)),[(.op [.os (5,0) b,(iN (w6 (m1+1))),iN d,iN e,iN f,iN g,iN h,iN i])])))))
 (
 br (io==4)
 (YW 218 [.op [.os (5,0) p,iN m1,iN m2,iN m3,iN m4,iN m5,iN m6,iN m7]] fun a b c d e f g h i j=>(((br (!b)
 (some ((iN (7)),[.op [.os (5,0) c,iN d,iN e,iN f,iN g,iN h,iN i,iN j]]))
 (
 grd (decide (0<=a)&&decide (a<ni c.length)) (dd c a.toNat fun k=>
 tk2 k fun l m _ _ _=>(br (l==2)
 (
 br (m==0)
 (some ((iN (0)),[.op [.os (5,0) c,iN im,iN e,iN f,iN g,iN h,iN i,iN j]]))
 (some ((iN (0)),[(.op [.os (5,0) c,(iN (w6 (m1+1))),iN e,iN f,iN g,iN h,iN i,iN j])])))
 (some ((iN (0)),[(.op [.os (5,0) c,(iN (w6 (m1+1))),iN e,iN f,iN g,iN h,iN i,iN j])])))))))))
 (
 br (io==5)
 (some ((iN (0)),[.op [.os (5,0) p,iN im,iN m2,iN m3,iN m4,iN m5,iN m6,iN m7]]))
 (
 br (io==6)
 (ck9 158 [.op [.os (5,0) p],(.agg [iN (6),(iN (w6 (w6 (8*im)+ii))),.str ({ data:=#[] }),iN m3,iN (0)])] fun a b=>((SC 95 [.op [.os (5,0) b,iN m1,iN m2,iN m3,iN m4,iN m5,iN m6,iN m7],iN a] fun c _ d e f g h i=>(((some ((iN (0)),[(.op [.os (5,0) c,(iN (w6 (m1+1))),iN d,iN e,iN f,iN g,iN h,iN i])])))))))
 (
 br (io==7)
 (PN 219 [.agg [.rs (5,0) cp,.rs (4,0) cl,.rs (3,0) cd],(.op [.os (5,0) p,iN m1,iN m2,iN m3,iN m4,iN m5,iN m6,iN m7]),iN ii,(iN (w6 (m1+1)))] fun a b c d e f g h i=>((some ((iN a),[.op [.os (5,0) b,iN c,iN d,iN e,iN f,iN g,iN h,iN i]]))))
 (
 br (io==8)
 (PN 220 [.op [.os (5,0) p,iN m1,iN m2,iN m3,iN m4,iN m5,iN m6,iN m7]] fun a b c d e f g h i=>((some ((iN a),[.op [.os (5,0) b,iN c,iN d,iN e,iN f,iN g,iN h,iN i]]))))
 (
 br (io==9)
 (YW 218 [.op [.os (5,0) p,iN m1,iN m2,iN m3,iN m4,iN m5,iN m6,iN m7]] fun _ a b c d e f g h i=>(((br (!a)
 (some ((iN (7)),[.op [.os (5,0) b,iN c,iN d,iN e,iN f,iN g,iN h,iN i]]))
 (some ((iN (0)),[(.op [.os (5,0) b,(iN (w6 (m1+1))),iN d,iN e,iN f,iN g,iN h,iN i])]))))))
 (some ((iN (0)),[(.op [.os (5,0) p,(iN (w6 (m1+1))),iN m2,iN m3,iN m4,iN m5,iN m6,iN m7])])))))))))):=by
 exact (zR Tryz.func196 rfl _).trans (by kernel_rfl)
theorem Yb (cp cl cd p:List D)(m1 m2 m3 m4 m5 m6 m7 n:Int)(l:List D)(nx:Int):V 240 [.agg [.rs (5,0) cp,.rs (4,0) cl,.rs (3,0) cd],.op [.os (5,0) p,iN m1,iN m2,iN m3,iN m4,iN m5,iN m6,iN m7],iN n,.rs (1,0) l,iN nx] =
 FE 245 [iN n] fun a=>(br (ni l.length != a)
 (some ((iN (2)),[.op [.os (5,0) p,iN m1,iN m2,iN m3,iN m4,iN m5,iN m6,iN m7]]))
 (
 br (n==18)
 (ck9 158 [.op [.os (5,0) p],(.agg [iN (3),iN nx,.str ({ data:=#[] }),iN (0),iN (0)])] fun b c=>((ck9 210 [.op [.os (5,0) c],.rs (1,0) [iN b,iN m2,iN m3,iN m4]] fun d e=>((ck9 158 [.op [.os (5,0) e],(.agg [iN (7),iN (0),.str ({ data:=#[] }),iN d,iN (0)])] fun f g=>((grd (decide (0<=0)&&decide (0<ni l.length)) (dd l 0 fun h=>
 asI .i64 h fun i=>PN 233 [.agg [.rs (5,0) cp,.rs (4,0) cl,.rs (3,0) cd],(.op [.os (5,0) g,iN m1,iN m2,iN m3,iN m4,iN m5,iN m6,iN m7]),iN i,.rs (1,0) [iN f],iN nx] fun j k m o q r s t u=>((some ((iN j),[.op [.os (5,0) k,iN m,iN o,iN q,iN r,iN s,iN t,iN u]])))))))))))
 (
 br (decide (n>12))
 (ck9 210 [.op [.os (5,0) p],.rs (1,0) l] fun b c=>((some ((iN (0)),[.op [.os (5,0) c,iN m1,iN m2,iN m3,iN m4,iN (1),iN n,iN b]]))))
 (acj 246 [.op [.os (5,0) p],iN n,.rs (1,0) l] fun b c d=>(((br (c==3)
 (some ((iN (4)),[.op [.os (5,0) d,iN m1,iN m2,iN m3,iN m4,iN m5,iN m6,iN m7]]))
 (
 br (c==4)
 (some ((iN (5)),[.op [.os (5,0) d,iN m1,iN m2,iN m3,iN m4,iN m5,iN m6,iN m7]]))
 (SC 95 [.op [.os (5,0) d,iN m1,iN m2,iN m3,iN m4,iN m5,iN m6,iN m7],iN b] fun e _ f g h i j k=>(((some ((iN (0)),[.op [.os (5,0) e,iN nx,iN f,iN g,iN h,iN i,iN j,iN k]]))))))))))))):=by
 exact (zR Tryz.func240 rfl _).trans (by kernel_rfl)
theorem Uf (cp cl cd p:List D)(m1 m2 m3 m4 m5 m6 m7:Int)(s:ByteArray):V 217 [.agg [.rs (5,0) cp,.rs (4,0) cl,.rs (3,0) cd],.op [.os (5,0) p,iN m1,iN m2,iN m3,iN m4,iN m5,iN m6,iN m7],.str s] =
 FE 129 [.agg [.rs (5,0) cp,.rs (4,0) cl,.rs (3,0) cd],.str s] fun a=>(br (decide (a>=0))
 (ck9 158 [.op [.os (5,0) p],(.agg [iN (1),iN (0),.str ({ data:=#[] }),iN (0),iN (0)])] fun b c=>((grd (decide (0<=a)&&decide (a<ni cd.length)) (dd cd a.toNat fun d=>
 asAgg d fun e=>dd e 1 fun f=>
 asI .i64 f fun g=>grd (decide (0<=a)&&decide (a<ni cd.length)) (dd cd a.toNat fun h=>
 asAgg h fun i=>dd i 2 fun j=>
 asI .i64 j fun k=>ck9 158 [.op [.os (5,0) c],(.agg [iN (6),(iN (w6 (w6 (8*g)+k))),.str ({ data:=#[] }),iN b,iN (0)])] fun l m=>((SC 95 [.op [.os (5,0) m,iN m1,iN m2,iN m3,iN m4,iN m5,iN m6,iN m7],iN l] fun n o q r t u v w=>(((some ((iN (0)),[.op [.os (5,0) n,iN o,iN q,iN r,iN t,iN u,iN v,iN w]])))))))))))
 (FE 232 [.str s] fun b=>(br (b==0)
 (some ((iN (1)),[.op [.os (5,0) p,iN m1,iN m2,iN m3,iN m4,iN m5,iN m6,iN m7]]))
 (ck9 158 [.op [.os (5,0) p],(.agg [iN (8),iN b,.str ({ data:=#[] }),iN (0),iN (0)])] fun c d=>((SC 95 [.op [.os (5,0) d,iN m1,iN m2,iN m3,iN m4,iN m5,iN m6,iN m7],iN c] fun e f g h i j k l=>(((some ((iN (0)),[.op [.os (5,0) e,iN f,iN g,iN h,iN i,iN j,iN k,iN l]])))))))))):=by
 exact (zR Tryz.func217 rfl _).trans (by kernel_rfl)
theorem Zu (p l d:List D)(h:Int)(n x e:List D):V 254 [.op [.os (5,0) p,.os (4,0) l,.os (3,0) d,iN h],.rs (1,0) n,.rs (1,0) x,.rs (1,1) e] =
 ck1 237 [(.op [.os (5,0) p,(.os (
 4,0) l),.os (3,0) d,iN h]),(.agg [iN (6),iN (0),(iN (ni n.length)),.str ({ data:=#[] })])] fun a b c f g=>((ck1 237 [.op [.os (5,0) b,.os (4,0) c,.os (3,0) f,iN g],(.agg [iN (5),iN (0),iN (0),.str ({ data:=#[] })])] fun i j k m o=>((ck2 253 [.op [.os (5,0) j,.os (4,0) k,.os (3,0) m,iN o],iN a] fun q r s t=>(((grd (decide (ni (List.length ([D.rs (1,0) n]++e))<=LIM)) (nam ([D.rs (1,0) n]++e) fun u=>
 ck2 236 [.op [.os (5,0) q,.os (4,0) r,.os (3,0) s,iN t],.rs (1,0) x,.rs (1,1) u] fun v w y z=>(((ck1 237 [.op [.os (5,0) v,.os (4,0) w,.os (3,0) y,iN z],(.agg [iN (8),iN (0),iN (0),.str ({ data:=#[] })])] fun _ A B C E=>((ck2 253 [.op [.os (5,0) A,.os (4,0) B,.os (3,0) C,iN E],iN i] fun F G H I=>(((some ((.tup []),[.op [.os (5,0) F,.os (4,0) G,.os (3,0) H,iN I]]))))))))))))))))):=by
 exact (zR Tryz.func254 rfl _).trans (by kernel_rfl)
theorem Vx (a0_0:List D)(a0_1 a0_2 a1_:Int):V 76 [.op [.rs (1,0) a0_0,iN a0_1,iN a0_2],iN a1_] =
 br (decide (a1_<=0))
 (some ((iN (0)),[.op [.rs (1,0) a0_0,iN a0_1,iN a0_2]]))
 (
 br (decide (a1_<=256))
 (ck7 143 [.op [.rs (1,0) a0_0,iN a0_1,iN a0_2]] fun a b c d=>((grd (!decide (a1_=0)) (some ((iN (Int.tmod a a1_)),[.op [.rs (1,0) b,iN c,iN d]])))))
 (ck7 143 [.op [.rs (1,0) a0_0,iN a0_1,iN a0_2]] fun a b c d=>((ck7 143 [.op [.rs (1,0) b,iN c,iN d]] fun e f g h=>((ck7 143 [.op [.rs (1,0) f,iN g,iN h]] fun i j k l=>((ck7 143 [.op [.rs (1,0) j,iN k,iN l]] fun m n o p=>((grd (!decide (a1_=0)) (some ((iN (Int.tmod (w6 (w6 (w6 (w6 (a*16777216)+w6 (e*65536))+w6 (i*256))+m)) a1_)),[.op [.rs (1,0) n,iN o,iN p]])))))))))))):=by
 exact (zR Tryz.func76 rfl _).trans (by kernel_rfl)
theorem Lp (p0:Int)(p1 p2:List D):Cr p0 p1 p2 =
 br (decide (p0>=0))
 (
 grd (decide (0<=p0)&&decide (p0<ni p2.length)) (dd p2 p0.toNat fun a=>
 asB a fun b=>br (!b)
 (Cr (w6 (p0-1)) p1 p2)
 (
 grd (decide (0<=p0)&&decide (p0<ni p1.length)) (dd p1 p0.toNat fun c=>
 tk2 c fun d _ _ e f=>(br (d==5)
 (
 grd (decide (0<=e)&&decide (e<ni p2.length)) (dd p2 e.toNat fun _=>
 nam (List.set p2 e.toNat (D.bool true)) fun g=>
 grd (decide (0<=f)&&decide (f<ni g.length)) (dd g f.toNat fun _=>
 nam (List.set g f.toNat (D.bool true)) fun h=>
 Cr (w6 (p0-1)) p1 h)))
 (
 br (d==6)
 (
 br (d==6)
 (
 grd (decide (0<=e)&&decide (e<ni p2.length)) (dd p2 e.toNat fun _=>
 nam (List.set p2 e.toNat (D.bool true)) fun g=>
 Cr (w6 (p0-1)) p1 g))
 (Cr (w6 (p0-1)) p1 p2))
 (
 br (d==7)
 (
 grd (decide (0<=e)&&decide (e<ni p2.length)) (dd p2 e.toNat fun _=>
 nam (List.set p2 e.toNat (D.bool true)) fun g=>
 Cr (w6 (p0-1)) p1 g))
 (Cr (w6 (p0-1)) p1 p2))))))))
 (some ((.os (1,0) p2),[])):=by
 exact (zQ _ _ _).trans (by kernel_rfl)
theorem RC (a0_0 a0_1 a0_2:List D)(a1_:ByteArray):V 78 [.agg [.rs (5,0) a0_0,.rs (4,0) a0_1,.rs (3,0) a0_2],.str a1_] =
 FE 129 [.agg [.rs (5,0) a0_0,.rs (4,0) a0_1,.rs (3,0) a0_2],.str a1_] fun a=>(ck6 59 [.agg [.rs (5,0) a0_0,.rs (4,0) a0_1,.rs (3,0) a0_2]] fun b=>(br (!b)
 (some ((.tup [.agg [.os (5,0) [],iN (0),iN (0),iN (0),iN (0),iN (0),iN (0),iN (0)],.bool false]),[]))
 (
 br (decide (a<0))
 (some ((.tup [.agg [.os (5,0) [],iN (0),iN (0),iN (0),iN (0),iN (0),iN (0),iN (0)],.bool false]),[]))
 (
 grd (decide (0<=a)&&decide (a<ni a0_2.length)) (dd a0_2 a.toNat fun c=>
 asAgg c fun d=>dd d 2 fun e=>
 asI .i64 e fun f=>br (f != 0)
 (some ((.tup [.agg [.os (5,0) [],iN (0),iN (0),iN (0),iN (0),iN (0),iN (0),iN (0)],.bool false]),[]))
 (
 grd (decide (0<=a)&&decide (a<ni a0_2.length)) (dd a0_2 a.toNat fun g=>
 asAgg g fun h=>dd h 1 fun i=>
 asI .i64 i fun j=>some ((.tup [(.agg [(.os (5,0) [.agg [iN (1),iN (0),.str ({ data:=#[] }),iN (0),iN (0)],(.agg [iN (5),iN (0),.str ({ data:=#[] }),iN (0),iN (0)])]),iN j,iN (0),iN (1),iN (0),iN (0),iN (0),iN (0)]),.bool true]),[])))))))):=by
 exact (zR Tryz.func78 rfl _).trans (by kernel_rfl)
theorem Ef (p0:List D)(p1 p2:Int)(p3 p4 p5:List D):DV p0 p1 p2 p3 p4 p5 =
 br (decide (p1<ni p0.length))
 (
 grd (decide (0<=p1)&&decide (p1<ni p0.length)) (dd p0 p1.toNat fun a=>
 asI .i64 a fun b=>ck2 215 [.op [.os (5,0) p3,.os (4,0) p4,.os (3,0) p5,iN p2],iN b] fun c d e f=>(((br (f==3)
 (some ((.tup [.agg [.os (5,0) [],.os (4,0) [],.os (3,0) []],iN (3),iN (0)]),[]))
 (
 br (f != 0)
 (some ((.tup [.agg [.os (5,0) [],.os (4,0) [],.os (3,0) []],iN f,iN p1]),[]))
 (DV p0 (w6 (p1+1)) f c d e)))))))
 (ck6 59 [.agg [.rs (5,0) p3,.rs (4,0) p4,.rs (3,0) p5]] fun a=>(br (!a)
 (some ((.tup [.agg [.os (5,0) [],.os (4,0) [],.os (3,0) []],iN (3),iN (0)]),[]))
 (some ((.tup [.agg [.os (5,0) p3,.os (4,0) p4,.os (3,0) p5],iN (0),(iN (ni p0.length))]),[])))):=by
 exact (zQ _ _ _).trans (by kernel_rfl)
theorem XO (p l d:List D)(h io im ii:Int)(is:ByteArray):V 237 [.op [.os (5,0) p,.os (4,0) l,.os (3,0) d,iN h],.agg [iN io,iN im,iN ii,.str is]] =
 br (h==0)
 (
 br (ni l.length==400)
 (some ((iN (0)),[.op [.os (5,0) p,.os (4,0) l,.os (3,0) d,iN (3)]]))
 (
 br (h != 0)
 (some ((iN (0)),[.op [.os (5,0) p,.os (4,0) l,.os (3,0) d,iN h]]))
 (
 grd (decide (ni (List.length (l++[D.agg [iN io,iN im,iN ii,D.str is]]))<=LIM)) (nam (l++[D.agg [iN io,iN im,iN ii,D.str is]]) fun a=>
 some ((iN (w6 (ni a.length-1))),[.op [.os (5,0) p,.os (4,0) a,.os (3,0) d,iN h]])))))
 (
 br (h != 0)
 (some ((iN (0)),[.op [.os (5,0) p,.os (4,0) l,.os (3,0) d,iN h]]))
 (
 grd (decide (ni (List.length (l++[D.agg [iN io,iN im,iN ii,D.str is]]))<=LIM)) (nam (l++[D.agg [iN io,iN im,iN ii,D.str is]]) fun a=>
 some ((iN (w6 (ni a.length-1))),[.op [.os (5,0) p,.os (4,0) a,.os (3,0) d,iN h]])))):=by
 exact (zR Tryz.func237 rfl _).trans (by kernel_rfl)
theorem JP (p0:List D)(p1 p2:Int)(p3 p4 p5 p6:List D):Cz p0 p1 p2 p3 p4 p5 p6 =
 br (decide (p1<ni p0.length))
 (
 br (p2==0)
 (
 grd (decide (0<=p1)&&decide (p1<ni p0.length)) (dd p0 p1.toNat fun a=>
 asI .i64 a fun b=>adn 230 [.op [.os (5,0) p4,.os (4,0) p5,.os (3,0) p6,iN p2],iN b] fun c d e f g h=>(((br (!d)
 (
 grd (decide (ni (List.length (p3++[D.str c]))<=LIM)) (nam (p3++[D.str c]) fun i=>
 Cz p0 (w6 (p1+1)) (1) i e f g))
 (
 grd (decide (ni (List.length (p3++[D.str c]))<=LIM)) (nam (p3++[D.str c]) fun i=>
 Cz p0 (w6 (p1+1)) h i e f g)))))))
 (Cm (0) p2 p3 p4 p5 p6))
 (Cm (0) p2 p3 p4 p5 p6):=by
 exact (zQ _ _ _).trans (by kernel_rfl)
theorem JW (p:List D)(m1 m2 m3 m4 m5 m6 m7:Int)(cp cl cd:List D) :V 182 [.op [.os (5,0) p,iN m1,iN m2,iN m3,iN m4,iN m5,iN m6,iN m7,.rs (5,0) cp,.rs (4,0) cl,.rs (3,0) cd]] =
 grd (decide (0<=m2)&&decide (m2<ni p.length)) (dd p m2.toNat fun a=>
 tk2 a fun b _ _ c d=>(br (b != 5)
 (some ((.tup [iN (0),.bool false]),[.op [.os (5,0) p,iN m1,iN m2,iN m3,iN m4,iN m5,iN m6,iN m7,.rs (5,0) cp,.rs (4,0) cl,.rs (3,0) cd]]))
 (some ((.tup [iN c,.bool true]),[.op [.os (5,0) p,iN m1,iN d,iN m3,iN m4,iN m5,iN m6,iN m7,.rs (5,0) cp,.rs (4,0) cl,.rs (3,0) cd]])))):=by
 exact (zR Tryz.func182 rfl _).trans (by kernel_rfl)
theorem Xq (a0_0:List D)(a0_1 a0_2 a0_3 a0_4 a0_5 a0_6 a0_7 a1_:Int):V 92 [.agg [.rs (5,0) a0_0,iN a0_1,iN a0_2,iN a0_3,iN a0_4,iN a0_5,iN a0_6,iN a0_7],iN a1_] =
 ck5 63 [.agg [.rs (5,0) a0_0,iN a0_1,iN a0_2,iN a0_3,iN a0_4,iN a0_5,iN a0_6,iN a0_7]] fun a _ b c d _ _ _=>((some ((.agg [.os (5,0) a,iN (0),iN b,iN c,iN d,iN (3),iN a1_,iN (0)]),[]))):=by
 exact (zR Tryz.func92 rfl _).trans (by kernel_rfl)
theorem XL (a0_:ByteArray):V 212 [.str a0_] =
 br (kJ a0_ { data:=#[35,116] })
 (some ((.tup [.agg [iN (2),iN (1),.str ({ data:=#[] }),iN (0),iN (0)],.bool true]),[]))
 (
 br (kJ a0_ { data:=#[35,102] })
 (some ((.tup [.agg [iN (2),iN (0),.str ({ data:=#[] }),iN (0),iN (0)],.bool true]),[]))
 (aaQ 227 [.str a0_] fun a b=>((br b
 (some ((.tup [.agg [iN (3),iN a,.str ({ data:=#[] }),iN (0),iN (0)],.bool true]),[]))
 (ck6 128 [.str a0_] fun c=>(some ((.tup [.agg [iN (4),iN (0),.str a0_,iN (0),iN (0)],.bool c]),[]))))))):=by
 exact (zR Tryz.func212 rfl _).trans (by kernel_rfl)
theorem VG :V 239 [] =
 some ((.os (1,0) [.str ({ data:=#[] }),.str ({ data:=#[43] }),.str ({ data:=#[45] }),.str ({ data:=#[42] }),.str ({ data:=#[60] }),.str ({ data:=#[61] }),.str ({ data:=#[99,111,110,115] }),.str ({ data:=#[99,97,114] }),.str ({ data:=#[99,100,114] }),.str ({ data:=#[110,117,108,108,63] }),.str ({ data:=#[112,97,105,114,63] }),.str ({ data:=#[101,113,63] }),.str ({ data:=#[110,111,116] }),.str ({ data:=#[112,114,105,110,116] }),.str ({ data:=#[115,101,108,102] }),.str ({ data:=#[115,101,110,100] }),.str ({ data:=#[114,101,99,118] }),.str ({ data:=#[115,112,97,119,110] }),.str ({ data:=#[99,97,108,108,99,99] }),.str ({ data:=#[103,111] })]),[]):=by
 exact (zR Tryz.func239 rfl _).trans (by kernel_rfl)
theorem aa5 (p l d:List D)(h x:Int):V 253 [.op [.os (5,0) p,.os (4,0) l,.os (3,0) d,iN h],iN x] =
 br (h==0)
 (
 grd (decide (0<=x)&&decide (x<ni l.length)) (dd l x.toNat fun a=>
 asAgg a fun b=>nam (List.set l x.toNat (D.agg (List.take 1 b++[iN (ni l.length)]++List.drop 2 b))) fun c=>
 some ((.tup []),[.op [.os (5,0) p,.os (4,0) c,.os (3,0) d,iN h]])))
 (some ((.tup []),[.op [.os (5,0) p,.os (4,0) l,.os (3,0) d,iN h]])):=by
 exact (zR Tryz.func253 rfl _).trans (by kernel_rfl)
theorem XX (a0_0:List D)(a0_1 a0_2 a0_3 a0_4 a0_5 a0_6 a0_7:Int):V 85 [.agg [.rs (5,0) a0_0,iN a0_1,iN a0_2,iN a0_3,iN a0_4,iN a0_5,iN a0_6,iN a0_7]] =
 ck8 147 [.agg [.rs (5,0) a0_0]] fun a=>((some ((.agg [.os (5,0) a,iN a0_1,iN a0_2,iN a0_3,iN a0_4,iN a0_5,iN a0_6,iN a0_7]),[]))):=by
 exact (zR Tryz.func85 rfl _).trans (by kernel_rfl)
theorem SG (p:List D)(a b:Int):V 94 [.op [.os (5,0) p],iN a,iN b] =
 ck9 157 [.op [.os (5,0) p],(.agg [iN (5),iN (0),.str ({ data:=#[] }),iN a,iN b])] fun c d=>((some ((iN c),[.op [.os (5,0) d]]))):=by
 exact (zR Tryz.func94 rfl _).trans (by kernel_rfl)
theorem aaZ (a0_0 a1_:List D):V 66 [.agg [.rs (5,0) a0_0],.rs (1,0) a1_] =
 aaO 137 [.op [.os (5,0) []],(.agg [.rs (5,0) a0_0]),.rs (1,0) a1_] fun a b=>((Jv a1_ (ni a1_.length) (0) a [] b)):=by
 exact (zR Tryz.func66 rfl _).trans (by kernel_rfl)
theorem Zj (a0_0 a0_1 a0_2:List D)(a1_:ByteArray):V 125 [.agg [.rs (5,0) a0_0,.rs (4,0) a0_1,.rs (3,0) a0_2],.str a1_] =
 FE 178 [.rs (3,0) a0_2,(.fn 179 [(.bp [.str a1_])])] fun a=>(some ((iN a),[])):=by
 exact (zR Tryz.func125 rfl _).trans (by kernel_rfl)
theorem Xr (a0_0:List D)(a1_:Int):V 56 [.agg [.rs (5,0) a0_0],iN a1_] =
 ck6 58 [iN a1_,iN (0),(iN (w6 (ni a0_0.length-1)))] fun a=>(some ((.bool a),[])):=by
 exact (zR Tryz.func56 rfl _).trans (by kernel_rfl)
theorem Gp (a0_:List D):V 181 [.rs (5,0) a0_] =
 xh a0_
 (some ((.os (5,0) []),[]))
 (
 grd (decide (ni (List.length ([]++a0_))<=LIM)) (nam ([]++a0_) fun a=>
 some ((.os (5,0) a),[]))):=by
 exact (zR Tryz.func181 rfl _).trans (by kernel_rfl)
theorem TU (a0_0:List D):V 131 [.agg [.rs (5,0) a0_0]] =
 afq 181 [.rs (5,0) a0_0] fun a=>(some ((.agg [.os (5,0) a]),[])):=by
 exact (zR Tryz.func131 rfl _).trans (by kernel_rfl)
theorem adB (a:ByteArray)(b c:Int)(s:ByteArray):V 179 [.agg [.str a,iN b,iN c],.bp [.str s]] =
 some ((.bool (kJ a s)),[]):=by
 exact (zR Tryz.func179 rfl _).trans (by kernel_rfl)
theorem Zy (a0_0:List D)(a1_ a2_:Int):V 216 [.agg [.rs (5,0) a0_0],iN a1_,iN a2_] =
 Iu a1_ a2_ a0_0:=by
 exact (zR Tryz.func216 rfl _).trans (by kernel_rfl)
theorem Vp (a0_0:List D):V 247 [.agg [.rs (5,0) a0_0]] =
 Al a0_0 (ni a0_0.length) (0) [] []:=by
 exact (zR Tryz.func247 rfl _).trans (by kernel_rfl)
theorem XD (a0_0:List D):V 60 [.agg [.rs (5,0) a0_0]] =
 GB (0) a0_0:=by
 exact (zR Tryz.func60 rfl _).trans (by kernel_rfl)

end Go.Eng
/-! the functions as the interpreter has them -/
namespace Go.Eng
open Go.Proofs Go.Proofs.Tryz
set_option maxRecDepth 100000
theorem Gw (p0:List D)(p1 p2:Int)(p3 p4 p5:List D):AF p0 p1 p2 p3 p4 p5 =
 br (decide (p2<p1))
 (
 grd (decide (0<=p2)&&decide (p2<ni p0.length)) (dd p0 p2.toNat fun a=>
 tk2 a fun b c d e f=>(grd (decide (0<=p2)&&decide (p2<ni p3.length)) (dd p3 p2.toNat fun _=>
 nam (List.set p3 p2.toNat (iN (-1))) fun g=>
 grd (decide (0<=p2)&&decide (p2<ni p4.length)) (dd p4 p2.toNat fun h=>
 asB h fun i=>br (!i)
 (AF p0 p1 (w6 (p2+1)) g p4 p5)
 (
 br (b==5)
 (
 grd (decide (0<=e)&&decide (e<ni g.length)) (dd g e.toNat fun j=>
 asI .i64 j fun k=>grd (decide (0<=f)&&decide (f<ni g.length)) (dd g f.toNat fun l=>
 asI .i64 l fun m=>ck9 157 [.op [.os (5,0) p5],.agg [iN b,iN c,.str d,iN k,iN m]] fun n o=>((grd (decide (0<=p2)&&decide (p2<ni g.length)) (dd g p2.toNat fun _=>
 nam (List.set g p2.toNat (iN n)) fun p=>
 AF p0 p1 (w6 (p2+1)) p p4 o))))))
 (
 br (b==6)
 (
 br (b==6)
 (
 grd (decide (0<=e)&&decide (e<ni g.length)) (dd g e.toNat fun j=>
 asI .i64 j fun k=>ck9 157 [.op [.os (5,0) p5],.agg [iN b,iN c,.str d,iN k,iN f]] fun l m=>((grd (decide (0<=p2)&&decide (p2<ni g.length)) (dd g p2.toNat fun _=>
 nam (List.set g p2.toNat (iN l)) fun n=>
 AF p0 p1 (w6 (p2+1)) n p4 m)))))
 (ck9 157 [.op [.os (5,0) p5],.agg [iN b,iN c,.str d,iN e,iN f]] fun j k=>((grd (decide (0<=p2)&&decide (p2<ni g.length)) (dd g p2.toNat fun _=>
 nam (List.set g p2.toNat (iN j)) fun l=>
 AF p0 p1 (w6 (p2+1)) l p4 k)))))
 (
 br (b==7)
 (
 grd (decide (0<=e)&&decide (e<ni g.length)) (dd g e.toNat fun j=>
 asI .i64 j fun k=>ck9 157 [.op [.os (5,0) p5],.agg [iN b,iN c,.str d,iN k,iN f]] fun l m=>((grd (decide (0<=p2)&&decide (p2<ni g.length)) (dd g p2.toNat fun _=>
 nam (List.set g p2.toNat (iN l)) fun n=>
 AF p0 p1 (w6 (p2+1)) n p4 m)))))
 (ck9 157 [.op [.os (5,0) p5],.agg [iN b,iN c,.str d,iN e,iN f]] fun j k=>((grd (decide (0<=p2)&&decide (p2<ni g.length)) (dd g p2.toNat fun _=>
 nam (List.set g p2.toNat (iN j)) fun l=>
 AF p0 p1 (w6 (p2+1)) l p4 k))))))))))))
 (some ((.os (1,0) p3),[.op [.os (5,0) p5]])):=by
 exact (zQ _ _ _).trans (by kernel_rfl)
theorem KG (p0:List D)(p1:Int)(p2 p3 p4:List D):BV p0 p1 p2 p3 p4 =
 br (decide (p1<ni p2.length))
 (
 grd (decide (0<=p1)&&decide (p1<ni p0.length)) (dd p0 p1.toNat fun a=>
 asB a fun b=>br (!b)
 (BV p0 (w6 (p1+1)) p2 p3 p4)
 (
 grd (decide (0<=p1)&&decide (p1<ni p2.length)) (dd p2 p1.toNat fun c=>
 tk2 c fun d e f g h=>(br (d==5)
 (
 grd (decide (0<=g)&&decide (g<ni p3.length)) (dd p3 g.toNat fun i=>
 asI .i64 i fun j=>grd (decide (0<=h)&&decide (h<ni p3.length)) (dd p3 h.toNat fun k=>
 asI .i64 k fun l=>ck9 158 [.op [.os (5,0) p4],.agg [iN d,iN e,.str f,iN j,iN l]] fun m n=>((grd (decide (0<=p1)&&decide (p1<ni p3.length)) (dd p3 p1.toNat fun _=>
 nam (List.set p3 p1.toNat (iN m)) fun o=>
 BV p0 (w6 (p1+1)) p2 o n))))))
 (
 br (d==6)
 (
 br (d==6)
 (
 grd (decide (0<=g)&&decide (g<ni p3.length)) (dd p3 g.toNat fun i=>
 asI .i64 i fun j=>ck9 158 [.op [.os (5,0) p4],.agg [iN d,iN e,.str f,iN j,iN h]] fun k l=>((grd (decide (0<=p1)&&decide (p1<ni p3.length)) (dd p3 p1.toNat fun _=>
 nam (List.set p3 p1.toNat (iN k)) fun m=>
 BV p0 (w6 (p1+1)) p2 m l)))))
 (ck9 158 [.op [.os (5,0) p4],.agg [iN d,iN e,.str f,iN g,iN h]] fun i j=>((grd (decide (0<=p1)&&decide (p1<ni p3.length)) (dd p3 p1.toNat fun _=>
 nam (List.set p3 p1.toNat (iN i)) fun k=>
 BV p0 (w6 (p1+1)) p2 k j)))))
 (
 br (d==7)
 (
 grd (decide (0<=g)&&decide (g<ni p3.length)) (dd p3 g.toNat fun i=>
 asI .i64 i fun j=>ck9 158 [.op [.os (5,0) p4],.agg [iN d,iN e,.str f,iN j,iN h]] fun k l=>((grd (decide (0<=p1)&&decide (p1<ni p3.length)) (dd p3 p1.toNat fun _=>
 nam (List.set p3 p1.toNat (iN k)) fun m=>
 BV p0 (w6 (p1+1)) p2 m l)))))
 (ck9 158 [.op [.os (5,0) p4],.agg [iN d,iN e,.str f,iN g,iN h]] fun i j=>((grd (decide (0<=p1)&&decide (p1<ni p3.length)) (dd p3 p1.toNat fun _=>
 nam (List.set p3 p1.toNat (iN i)) fun k=>
 BV p0 (w6 (p1+1)) p2 k j)))))))))))
 (some ((.os (1,0) p3),[.op [.os (5,0) p4]])):=by
 exact (zQ _ _ _).trans (by kernel_rfl)
theorem XU (p:List D)(m1 m2 m3 m4 m5 m6 m7:Int) :V 220 [.op [.os (5,0) p,iN m1,iN m2,iN m3,iN m4,iN m5,iN m6,iN m7]] =
 YW 218 [.op [.os (5,0) p,iN m1,iN m2,iN m3,iN m4,iN m5,iN m6,iN m7]] fun a b c d e f g h i j=>(((br (!b)
 (some ((iN (7)),[.op [.os (5,0) c,iN d,iN e,iN f,iN g,iN h,iN i,iN j]]))
 (
 grd (decide (0<=g)&&decide (g<ni c.length)) (dd c g.toNat fun k=>
 tk2 k fun l _ _ m n=>(br (l==1)
 (some ((iN (0)),[.op [.os (5,0) c,iN (0),iN e,iN f,iN g,iN (2),iN i,iN a]]))
 (
 br (l != 5)
 (some ((iN (7)),[.op [.os (5,0) c,iN d,iN e,iN f,iN g,iN h,iN i,iN j]]))
 (ado 234 [.agg [.rs (5,0) c],iN m,iN (3)] fun o q r=>((br (!r)
 (some ((iN (7)),[.op [.os (5,0) c,iN d,iN e,iN f,iN g,iN h,iN i,iN j]]))
 (
 grd (decide (0<=0)&&decide (0<ni q.length)) (dd q 0 fun s=>
 asI .i64 s fun t=>grd (decide (0<=1)&&decide (1<ni q.length)) (dd q 1 fun u=>
 asI .i64 u fun v=>SC 95 [.op [.os (5,0) c,iN o,iN t,iN v,iN n,iN h,iN i,iN j],iN a] fun w x y z A B C E=>(((some ((iN (0)),[.op [.os (5,0) w,iN x,iN y,iN z,iN A,iN B,iN C,iN E]]))))))))))))))))):=by
 exact (zR Tryz.func220 rfl _).trans (by kernel_rfl)
theorem LG (p0 p1:Int)(p2:List D)(p3 p4:Int)(p5 p6 p7:List D)(p8 p9 p10 p11 p12 p13 p14 p15 p16 p17 p18 p19 p20 p21:Int)(p22:List D):FM p0 p1 p2 p3 p4 p5 p6 p7 p8 p9 p10 p11 p12 p13 p14 p15 p16 p17 p18 p19 p20 p21 p22 =
 br (decide (p1<p0))
 (
 br (p12==1)
 (YZ 201 [.op [.rs (1,0) p2,iN p3,iN p4]] fun a b c d e f g h=>(((ck5 32 [.agg [.rs (5,0) p5,.rs (4,0) p6,.rs (3,0) p7],(.agg [.rs (5,0) p22,iN p8,iN p9,iN p10,iN p11,iN p12,iN p13,iN p14]),(.agg [.rs (5,0) [.agg [(iN a),iN b,.str c,iN d,iN e]]]),iN (0)] fun i j k l m n o p=>((FM p0 (w6 (p1+1)) f g h p5 p6 p7 j k l m n o p p15 p16 p17 p18 p19 p20 p21 i))))))
 (ck5 89 [.agg [.rs (5,0) p5,.rs (4,0) p6,.rs (3,0) p7],(.agg [.rs (5,0) p22,iN p8,iN p9,iN p10,iN p11,iN p12,iN p13,iN p14])] fun a b c d e f g h=>((FM p0 (w6 (p1+1)) p2 p3 p4 p5 p6 p7 b c d e f g h p15 p16 p17 p18 p19 p20 p21 a))))
 (some ((.agg [.os (5,0) p22,iN p8,iN p9,iN p10,iN p11,iN p12,iN p13,iN p14]),[.op [.rs (1,0) p2,iN p3,iN p4]])):=by
 exact (zQ _ _ _).trans (by kernel_rfl)
theorem aaX (a0_0 a0_1 a0_2 a1_0:List D)(a1_1 a1_2 a1_3 a1_4 a1_5 a1_6 a1_7:Int):V 17 [.agg [.rs (5,0) a0_0,.rs (4,0) a0_1,.rs (3,0) a0_2],.agg [.rs (5,0) a1_0,iN a1_1,iN a1_2,iN a1_3,iN a1_4,iN a1_5,iN a1_6,iN a1_7]] =
 ck6 14 [.agg [.rs (5,0) a0_0,.rs (4,0) a0_1,.rs (3,0) a0_2],(.agg [.rs (5,0) a1_0,iN a1_1,iN a1_2,iN a1_3,iN a1_4,iN a1_5,iN a1_6,iN a1_7])] fun a=>(br (!a)
 (some ((.agg [.os (5,0) [],iN (0),iN (0),iN (0),iN (0),iN (3),iN (7),iN (0)]),[]))
 (
 br (a1_5 != 0)
 (ck5 63 [.agg [.rs (5,0) a1_0,iN a1_1,iN a1_2,iN a1_3,iN a1_4,iN a1_5,iN a1_6,iN a1_7]] fun b c d e f g h i=>((some ((.agg [.os (5,0) b,iN c,iN d,iN e,iN f,iN g,iN h,iN i]),[]))))
 (ck5 64 [.agg [.rs (5,0) a0_0,.rs (4,0) a0_1,.rs (3,0) a0_2],(.agg [.rs (5,0) a1_0,iN a1_1,iN a1_2,iN a1_3,iN a1_4,iN a1_5,iN a1_6,iN a1_7])] fun b c d e f g h i=>((some ((.agg [.os (5,0) b,iN c,iN d,iN e,iN f,iN g,iN h,iN i]),[])))))):=by
 exact (zR Tryz.func17 rfl _).trans (by kernel_rfl)
theorem JR (p0:Int)(p1 p2:List D):BG p0 p1 p2 =
 br (decide (p0>=0))
 (
 grd (decide (0<=p0)&&decide (p0<ni p1.length)) (dd p1 p0.toNat fun a=>
 tk2 a fun b _ _ c d=>(grd (decide (0<=p0)&&decide (p0<ni p2.length)) (dd p2 p0.toNat fun e=>
 asB e fun f=>br (!f)
 (BG (w6 (p0-1)) p1 p2)
 (
 br (b==5)
 (
 grd (decide (0<=c)&&decide (c<ni p2.length)) (dd p2 c.toNat fun _=>
 nam (List.set p2 c.toNat (D.bool true)) fun g=>
 grd (decide (0<=d)&&decide (d<ni g.length)) (dd g d.toNat fun _=>
 nam (List.set g d.toNat (D.bool true)) fun h=>
 BG (w6 (p0-1)) p1 h)))
 (
 br (b==6)
 (
 br (b==6)
 (
 grd (decide (0<=c)&&decide (c<ni p2.length)) (dd p2 c.toNat fun _=>
 nam (List.set p2 c.toNat (D.bool true)) fun g=>
 BG (w6 (p0-1)) p1 g))
 (BG (w6 (p0-1)) p1 p2))
 (
 br (b==7)
 (
 grd (decide (0<=c)&&decide (c<ni p2.length)) (dd p2 c.toNat fun _=>
 nam (List.set p2 c.toNat (D.bool true)) fun g=>
 BG (w6 (p0-1)) p1 g))
 (BG (w6 (p0-1)) p1 p2))))))))
 (some ((.os (1,0) p2),[])):=by
 exact (zQ _ _ _).trans (by kernel_rfl)
theorem Rz (a0_:List D):V 13 [.rs (1,0) a0_] =
 afp 51 [.rs (1,0) a0_] fun a b c=>((aet 52 [.op [.rs (1,0) a,iN b,iN c]] fun d e f g h i j k l m n o p q=>(((((ck7 53 [.op [.rs (1,0) o,iN p,iN q]] fun r _ _ _=>((some ((.tup [.agg [.rs (5,0) d,.rs (4,0) e,.rs (3,0) f],(.agg [.rs (5,0) g,iN h,iN i,iN j,iN k,iN l,iN m,iN n]),iN r]),[])))))))))):=by
 exact (zR Tryz.func13 rfl _).trans (by kernel_rfl)
theorem JO (p0:List D)(p1 p2:Int)(p3 p4 p5 p6:List D):CX p0 p1 p2 p3 p4 p5 p6 =
 br (decide (p1<ni p3.length))
 (
 grd (decide (0<=p1)&&decide (p1<ni p3.length)) (dd p3 p1.toNat fun a=>
 asI .i64 a fun b=>ck2 244 [.op [.os (5,0) p4,.os (4,0) p5,.os (3,0) p6,iN p2],iN b,.rs (1,1) p0] fun c d e f=>(((CX p0 (w6 (p1+1)) f p3 c d e)))))
 (ck1 237 [.op [.os (5,0) p4,.os (4,0) p5,.os (3,0) p6,iN p2],(.agg [iN (7),iN (0),(iN (w6 (ni p3.length-1))),.str ({ data:=#[] })])] fun _ a b c d=>((some ((.tup []),[.op [.os (5,0) a,.os (4,0) b,.os (3,0) c,iN d]])))):=by
 exact (zQ _ _ _).trans (by kernel_rfl)
theorem JL (p0:List D)(p1 p2:Int)(p3 p4 p5:List D):Ga p0 p1 p2 p3 p4 p5 =
 br (decide (p2<p1))
 (
 grd (decide (0<=p2)&&decide (p2<ni p0.length)) (dd p0 p2.toNat fun a=>
 tk3 a fun b c d=>(ck6 124 [.str b] fun e=>(br (!e)
 (some ((.bool false),[]))
 (FE 125 [.agg [.rs (5,0) p3,.rs (4,0) p4,.rs (3,0) p5],.str b] fun f=>(br (f != p2)
 (some ((.bool false),[]))
 (ck6 58 [iN c,iN (0),(iN (w6 (ni p4.length-1)))] fun g=>(br (!g)
 (some ((.bool false),[]))
 (ck6 58 [iN d,iN (0),iN (4)] fun h=>(br (!h)
 (some ((.bool false),[]))
 (Ga p0 p1 (w6 (p2+1)) p3 p4 p5)))))))))))
 (some ((.bool true),[])):=by
 exact (zQ _ _ _).trans (by kernel_rfl)
theorem Mz (p0 p1:Int)(p2:List D)(p3 p4:Int):Jp p0 p1 p2 p3 p4 =
 br (decide (p1<p0))
 (YZ 197 [.op [.rs (1,0) p2,iN p3,iN p4],iN p1] fun a b c d e f g h=>(((ck9 158 [.op [.os (5,0) []],.agg [iN a,iN b,.str c,iN d,iN e]] fun _ i=>((CU p0 (w6 (p1+1)) f g h i))))))
 (some ((.agg [.os (5,0) []]),[.op [.rs (1,0) p2,iN p3,iN p4]])):=by
 exact (zQ _ _ _).trans (by kernel_rfl)
theorem RH (a0_:Int):V 180 [.int .u8 a0_] =
 br (decide (a0_>=97))
 (
 br (decide (a0_<=122))
 (some ((.bool true),[]))
 (
 br (a0_==43)
 (some ((.bool true),[]))
 (
 br (a0_==45)
 (some ((.bool true),[]))
 (
 br (a0_==42)
 (some ((.bool true),[]))
 (
 br (a0_==60)
 (some ((.bool true),[]))
 (
 br (a0_==61)
 (some ((.bool true),[]))
 (
 br (a0_==63)
 (some ((.bool true),[]))
 (
 br (a0_==33)
 (some ((.bool true),[]))
 (some ((.bool (a0_==47)),[]))))))))))
 (
 br (a0_==43)
 (some ((.bool true),[]))
 (
 br (a0_==45)
 (some ((.bool true),[]))
 (
 br (a0_==42)
 (some ((.bool true),[]))
 (
 br (a0_==60)
 (some ((.bool true),[]))
 (
 br (a0_==61)
 (some ((.bool true),[]))
 (
 br (a0_==63)
 (some ((.bool true),[]))
 (
 br (a0_==33)
 (some ((.bool true),[]))
 (some ((.bool (a0_==47)),[]))))))))):=by
 exact (zR Tryz.func180 rfl _).trans (by kernel_rfl)
theorem Kw (p0:Int)(p1:List D):GB p0 p1 =
 br (decide (p0<ni p1.length))
 (
 grd (decide (0<=p0)&&decide (p0<ni p1.length)) (dd p1 p0.toNat fun a=>
 tk2 a fun b c d e f=>(ck6 130 [.agg [iN b,iN c,.str d,iN e,iN f],iN p0] fun g=>(br (!g)
 (some ((.bool false),[]))
 (GB (w6 (p0+1)) p1)))))
 (some ((.bool (decide (ni p1.length<=3000))),[])):=by
 exact (zQ _ _ _).trans (by kernel_rfl)
theorem Lx (p0:List D)(p1 p2:Int):Iq p0 p1 p2 =
 br (decide (p2<ni p0.length))
 (
 br (decide (p2<4000))
 (
 grd (decide (0<=p2)&&decide (p2<ni p0.length)) (dd p0 p2.toNat fun a=>
 asI .u8 a fun b=>Iq p0 (w6 (ni (BitVec.toNat (BitVec.ofInt (IntKind.bits IntKind.i64) (w6 (w6 (w6 (p1*131)+w6 b)+7)) &&& BitVec.ofInt (IntKind.bits IntKind.i64) (1073741823))))) (w6 (p2+1))))
 (some ((.op [.rs (1,0) p0,iN (0),iN p1]),[])))
 (some ((.op [.rs (1,0) p0,iN (0),iN p1]),[])):=by
 exact (zQ _ _ _).trans (by kernel_rfl)
theorem Nc (p0:List D)(p1 p2:Int)(p3 p4 p5:List D):Jv p0 p1 p2 p3 p4 p5 =
 br (decide (p2<p1))
 (
 grd (decide (0<=p2)&&decide (p2<ni p0.length)) (dd p0 p2.toNat fun a=>
 asI .i64 a fun b=>grd (decide (0<=b)&&decide (b<ni p3.length)) (dd p3 b.toNat fun c=>
 asI .i64 c fun d=>grd (decide (ni (List.length (p4++[iN d]))<=LIM)) (nam (p4++[iN d]) fun e=>
 Jv p0 p1 (w6 (p2+1)) p3 e p5))))
 (some ((.tup [.agg [.os (5,0) p5],.os (1,0) p4]),[])):=by
 exact (zQ _ _ _).trans (by kernel_rfl)
theorem Kz (p0:Int)(p1:List D)(p2 p3:Int)(p4:List D):CJ p0 p1 p2 p3 p4 =
 br (decide (p0<ni p4.length))
 (
 grd (decide (0<=p0)&&decide (p0<ni p4.length)) (dd p4 p0.toNat fun a=>
 asAgg a fun b=>nam (List.set p4 p0.toNat (D.agg (List.take 0 b++[iN (1)]++List.drop 1 b))) fun c=>
 CJ (w6 (p0+1)) p1 p2 p3 c))
 (some ((.agg [.os (5,0) p4]),[.op [.rs (1,0) p1,iN p2,iN p3]])):=by
 exact (zQ _ _ _).trans (by kernel_rfl)
theorem SF (p l:List D):V 222 [.op [.os (5,0) p],.rs (1,0) l] =
 ck9 157 [.op [.os (5,0) p],(.agg [iN (1),iN (0),.str ({ data:=#[] }),iN (0),iN (0)])] fun a b=>((Eu l a (w6 (ni l.length-1)) b)):=by
 exact (zR Tryz.func222 rfl _).trans (by kernel_rfl)
theorem Jq (p0:Int)(p1:ByteArray):Fp p0 p1 =
 br (decide (p0>0))
 (grd (!decide (10=0)) (gN ([D.int IntKind.u8 (IntKind.wrap IntKind.u8 (w6 (48+Int.tmod p0 (10))))]) fun a=>grd (decide (ni (ByteArray.size a+ByteArray.size p1)<=LIM)) (grd (!decide (10=0)) (Fp (w6 (Int.tdiv p0 (10))) (a++p1)))))
 (some ((.str p1),[])):=by
 exact (zQ _ _ _).trans (by kernel_rfl)
theorem Kq (p0:ByteArray)(p1 p2:Int):EH p0 p1 p2 =
 br (decide (p2<p1))
 (grd (decide (0<=p2)&&decide (p2<ni (ByteArray.size p0))) (ck6 177 [.int .u8 (bt p0 p2)] fun a=>(br (!a)
 (some ((.bool false),[]))
 (EH p0 p1 (w6 (p2+1))))))
 (some ((.bool true),[])):=by
 exact (zQ _ _ _).trans (by kernel_rfl)
theorem TT (a0_:Bool):V 241 [.bool a0_] =
 br a0_
 (some ((.agg [iN (2),iN (1),.str ({ data:=#[] }),iN (0),iN (0)]),[]))
 (some ((.agg [iN (2),iN (0),.str ({ data:=#[] }),iN (0),iN (0)]),[])):=by
 exact (zR Tryz.func241 rfl _).trans (by kernel_rfl)
theorem Zo (a0_ a1_:Int):V 116 [iN a0_,iN a1_] =
 br (decide (a0_<a1_))
 (some ((iN a0_),[]))
 (some ((iN a1_),[])):=by
 exact (zR Tryz.func116 rfl _).trans (by kernel_rfl)
theorem PR (l p:List D):V 188 [.rs (1,0) l,.fn 136 [.bp [.rs (5,0) p]]] =
 Dh l p (ni l.length) (0):=by
 exact (zR Tryz.func188 rfl _).trans (by kernel_rfl)
end Go.Eng
/-! a call and its results,taken in one step -/
namespace Go.Eng
open Go.Proofs
theorem AR {ds:List D}{v2:Int}{v8 v11 v14:List D}{v17:Int} (h:V 237 ds=some (iN v2,[.op [.os (5,0) v8,.os (4,0) v11,.os (3,0) v14,iN v17]])) (K:Int->List D->List D->List D->Int->Option Ret):ck1 237 ds (fun v2 v8 v11 v14 v17=>(((K v2 v8 v11 v14 v17))))=K v2 v8 v11 v14 v17:=(yx h _).trans rfl
theorem Ff {ds v8 v11 v14:List D}{v17:Int} (h:V 244 ds=some (.tup [],[.op [.os (5,0) v8,.os (4,0) v11,.os (3,0) v14,iN v17]])) (K:List D->List D->List D->Int->Option Ret):ck2 244 ds (fun v8 v11 v14 v17=>((((K v8 v11 v14 v17)))))=K v8 v11 v14 v17:=(yx h _).trans rfl
theorem OZ {ds v8 v11 v14:List D}{v17:Int} (h:V 253 ds=some (.tup [],[.op [.os (5,0) v8,.os (4,0) v11,.os (3,0) v14,iN v17]])) (K:List D->List D->List D->Int->Option Ret):ck2 253 ds (fun v8 v11 v14 v17=>((((K v8 v11 v14 v17)))))=K v8 v11 v14 v17:=(yx h _).trans rfl
theorem KR {ds v8 v11 v14:List D}{v17:Int} (h:V 236 ds=some (.tup [],[.op [.os (5,0) v8,.os (4,0) v11,.os (3,0) v14,iN v17]])) (K:List D->List D->List D->Int->Option Ret):ck2 236 ds (fun v8 v11 v14 v17=>((((K v8 v11 v14 v17)))))=K v8 v11 v14 v17:=(yx h _).trans rfl
theorem FP {ds v5:List D}{v8:Bool} (h:V 228 ds=some (.tup [.os (1,0) v5,.bool v8],[])) (K:List D->Bool->Option Ret):ck3 228 ds (fun v5 v8=>(((K v5 v8))))=K v5 v8:=(yx h _).trans rfl
theorem MU {ds v2 v8 v11 v14:List D}{v17:Int} (h:V 231 ds=some (.os (1,0) v2,[.op [.os (5,0) v8,.os (4,0) v11,.os (3,0) v14,iN v17]])) (K:List D->List D->List D->List D->Int->Option Ret):ck4 231 ds (fun v2 v8 v11 v14 v17=>(((K v2 v8 v11 v14 v17))))=K v2 v8 v11 v14 v17:=(yx h _).trans rfl
theorem UI {ds v8 v11 v14:List D}{v17:Int} (h:V 254 ds=some (.tup [],[.op [.os (5,0) v8,.os (4,0) v11,.os (3,0) v14,iN v17]])) (K:List D->List D->List D->Int->Option Ret):ck2 254 ds (fun v8 v11 v14 v17=>((((K v8 v11 v14 v17)))))=K v8 v11 v14 v17:=(yx h _).trans rfl
theorem acB {ds v5:List D}{v8 v11 v14 v17 v20 v23 v26:Int} (h:V 18 ds=some (.agg [.os (5,0) v5,iN v8,iN v11,iN v14,iN v17,iN v20,iN v23,iN v26],[])) (K:List D->Int->Int->Int->Int->Int->Int->Int->Option Ret):ck5 18 ds (fun v5 v8 v11 v14 v17 v20 v23 v26=>(((K v5 v8 v11 v14 v17 v20 v23 v26))))=K v5 v8 v11 v14 v17 v20 v23 v26:=(yx h _).trans rfl
theorem Gj {ds:List D}{v2:Bool}(h:V 60 ds=some (.bool v2,[]))(K:Bool->Option Ret):ck6 60 ds (fun v2=>((K v2)))=K v2:=(yx h _).trans rfl
theorem Qd {ds:List D}{v2:Bool}(h:V 61 ds=some (.bool v2,[]))(K:Bool->Option Ret):ck6 61 ds (fun v2=>((K v2)))=K v2:=(yx h _).trans rfl
theorem Nf {ds:List D}{v2:Bool}(h:V 180 ds=some (.bool v2,[]))(K:Bool->Option Ret):ck6 180 ds (fun v2=>((K v2)))=K v2:=(yx h _).trans rfl
theorem Cn {ds:List D}{v2:Bool}(h:V 62 ds=some (.bool v2,[]))(K:Bool->Option Ret):ck6 62 ds (fun v2=>((K v2)))=K v2:=(yx h _).trans rfl
theorem QR {ds:List D}{v2:Int}{v8:List D}{v11 v14:Int} (h:V 76 ds=some (iN v2,[.op [.rs (1,0) v8,iN v11,iN v14]])) (K:Int->List D->Int->Int->Option Ret):ck7 76 ds (fun v2 v8 v11 v14=>(((K v2 v8 v11 v14))))=K v2 v8 v11 v14:=(yx h _).trans rfl
theorem AQ {ds v5:List D} (h:V 147 ds=some (.agg [.os (5,0) v5],[])) (K:List D->Option Ret):ck8 147 ds (fun v5=>(((K v5))))=K v5:=(yx h _).trans rfl
theorem Gk {ds:List D}{v2:Int}{v8:List D} (h:V 210 ds=some (iN v2,[.op [.os (5,0) v8]])) (K:Int->List D->Option Ret):ck9 210 ds (fun v2 v8=>(((K v2 v8))))=K v2 v8:=(yx h _).trans rfl
theorem Dd {ds:List D}{v2:Bool}(h:V 211 ds=some (.bool v2,[]))(K:Bool->Option Ret):ck6 211 ds (fun v2=>((K v2)))=K v2:=(yx h _).trans rfl
theorem Oh {ds:List D}{v2:Bool}(h:V 56 ds=some (.bool v2,[]))(K:Bool->Option Ret):ck6 56 ds (fun v2=>((K v2)))=K v2:=(yx h _).trans rfl
theorem AJ {ds:List D}{v2:Bool}(h:V 58 ds=some (.bool v2,[]))(K:Bool->Option Ret):ck6 58 ds (fun v2=>((K v2)))=K v2:=(yx h _).trans rfl
theorem ZY {ds:List D}{v2:Bool}(h:V 124 ds=some (.bool v2,[]))(K:Bool->Option Ret):ck6 124 ds (fun v2=>((K v2)))=K v2:=(yx h _).trans rfl
theorem Si {ds:List D}{v2:Bool}(h:V 128 ds=some (.bool v2,[]))(K:Bool->Option Ret):ck6 128 ds (fun v2=>((K v2)))=K v2:=(yx h _).trans rfl
theorem CI {ds:List D}{v5:Int}{v8:Bool}{v14:List D}{v17 v20 v23 v26 v29 v32 v35:Int} (h:V 218 ds=some (.tup [iN v5,.bool v8],[.op [.os (5,0) v14,iN v17,iN v20,iN v23,iN v26,iN v29,iN v32,iN v35]])) (K:Int->Bool->List D->Int->Int->Int->Int->Int->Int->Int->Option Ret):YW 218 ds (fun v5 v8 v14 v17 v20 v23 v26 v29 v32 v35=>((((K v5 v8 v14 v17 v20 v23 v26 v29 v32 v35)))))=K v5 v8 v14 v17 v20 v23 v26 v29 v32 v35:=(yx h _).trans rfl
theorem QU {ds:List D}{v2:Int}{v8:List D}{v11 v14 v17 v20 v23 v26 v29:Int} (h:V 233 ds=some (iN v2,[.op [.os (5,0) v8,iN v11,iN v14,iN v17,iN v20,iN v23,iN v26,iN v29]])) (K:Int->List D->Int->Int->Int->Int->Int->Int->Int->Option Ret):PN 233 ds (fun v2 v8 v11 v14 v17 v20 v23 v26 v29=>(((K v2 v8 v11 v14 v17 v20 v23 v26 v29))))=K v2 v8 v11 v14 v17 v20 v23 v26 v29:=(yx h _).trans rfl
theorem De {ds:List D}{v5:Int}{v8:Bool}{v14:List D}{v17 v20 v23 v26 v29 v32 v35:Int}{v38 v41 v44:List D} (h:V 182 ds=some (.tup [iN v5,.bool v8],[.op [.os (5,0) v14,iN v17,iN v20,iN v23,iN v26,iN v29,iN v32,iN v35,.rs (5,0) v38,.rs (4,0) v41,.rs (3,0) v44]])) (K:Int->Bool->List D->Int->Int->Int->Int->Int->Int->Int->List D->List D->List D->Option Ret):Xi 182 ds (fun v5 v8 v14 v17 v20 v23 v26 v29 v32 v35 v38 v41 v44=>((((K v5 v8 v14 v17 v20 v23 v26 v29 v32 v35 v38 v41 v44)))))=K v5 v8 v14 v17 v20 v23 v26 v29 v32 v35 v38 v41 v44:=(yx h _).trans rfl
theorem Km {ds v5:List D} (h:V 183 ds=some (.tup [],[.os (1,0) v5])) (K:List D->Option Ret):aer 183 ds (fun v5=>(((K v5))))=K v5:=(yx h _).trans rfl
theorem Gd {ds:List D}{v2:Int}{v8:List D}{v11 v14 v17 v20 v23 v26 v29:Int}{v32 v35 v38:List D} (h:V 184 ds=some (iN v2,[.op [.os (5,0) v8,iN v11,iN v14,iN v17,iN v20,iN v23,iN v26,iN v29,.rs (5,0) v32,.rs (4,0) v35,.rs (3,0) v38]])) (K:Int->List D->Int->Int->Int->Int->Int->Int->Int->List D->List D->List D->Option Ret):Lf 184 ds (fun v2 v8 v11 v14 v17 v20 v23 v26 v29 v32 v35 v38=>(((K v2 v8 v11 v14 v17 v20 v23 v26 v29 v32 v35 v38))))=K v2 v8 v11 v14 v17 v20 v23 v26 v29 v32 v35 v38:=(yx h _).trans rfl
theorem Dq {ds:List D}{v5 v8:Int}{v11:ByteArray}{v14 v17:Int}(h:V 241 ds=some (.agg [iN v5,iN v8,.str v11,iN v14,iN v17],[]))(K:Int->Int->ByteArray->Int->Int->Option Ret):JU 241 ds (fun v5 v8 v11 v14 v17=>(((K v5 v8 v11 v14 v17))))=K v5 v8 v11 v14 v17:=(yx h _).trans rfl
theorem Sf {ds:List D}{v2:Bool}(h:V 55 ds=some (.bool v2,[]))(K:Bool->Option Ret):ck6 55 ds (fun v2=>((K v2)))=K v2:=(yx h _).trans rfl
theorem JB {ds:List D}{v2:Int}(h:V 188 ds=some (iN v2,[]))(K:Int->Option Ret):FE 188 ds (fun v2=>((K v2)))=K v2:=(yx h _).trans rfl
theorem VP {ds:List D}{v8 v11:Int}{v14:ByteArray}{v17 v20 v23:Int} (h:V 250 ds=some (.tup [.agg [iN v8,iN v11,.str v14,iN v17,iN v20],iN v23],[])) (K:Int->Int->ByteArray->Int->Int->Int->Option Ret):aes 250 ds (fun v8 v11 v14 v17 v20 v23=>((((K v8 v11 v14 v17 v20 v23)))))=K v8 v11 v14 v17 v20 v23:=(yx h _).trans rfl
theorem Ak {ds:List D}{v2:Int}{v8:List D} (h:V 158 ds=some (iN v2,[.op [.os (5,0) v8]])) (K:Int->List D->Option Ret):ck9 158 ds (fun v2 v8=>(((K v2 v8))))=K v2 v8:=(yx h _).trans rfl
theorem Gl {ds:List D}{v5 v8:Int}{v11:ByteArray}{v14 v17:Int}(h:V 251 ds=some (.agg [iN v5,iN v8,.str v11,iN v14,iN v17],[]))(K:Int->Int->ByteArray->Int->Int->Option Ret):JU 251 ds (fun v5 v8 v11 v14 v17=>(((K v5 v8 v11 v14 v17))))=K v5 v8 v11 v14 v17:=(yx h _).trans rfl
theorem UH {ds v2:List D}(h:V 252 ds=some (.os (1,0) v2,[]))(K:List D->Option Ret):Dk 252 ds (fun v2=>((K v2)))=K v2:=(yx h _).trans rfl
theorem Oc {ds v5:List D}{v8:Bool}{v14:List D} (h:V 119 ds=some (.tup [.os (1,0) v5,.bool v8],[.op [.os (5,0) v14]])) (K:List D->Bool->List D->Option Ret):adm 119 ds (fun v5 v8 v14=>((((K v5 v8 v14)))))=K v5 v8 v14:=(yx h _).trans rfl
theorem Bg {ds:List D}{v2:Bool}(h:V 57 ds=some (.bool v2,[]))(K:Bool->Option Ret):ck6 57 ds (fun v2=>((K v2)))=K v2:=(yx h _).trans rfl
theorem Ct {ds v8:List D}{v11 v14 v17 v20 v23 v26 v29:Int}{v32 v35 v38:List D} (h:V 185 ds=some (.tup [],[.op [.os (5,0) v8,iN v11,iN v14,iN v17,iN v20,iN v23,iN v26,iN v29,.rs (5,0) v32,.rs (4,0) v35,.rs (3,0) v38]])) (K:List D->Int->Int->Int->Int->Int->Int->Int->List D->List D->List D->Option Ret):TE 185 ds (fun v8 v11 v14 v17 v20 v23 v26 v29 v32 v35 v38=>((((K v8 v11 v14 v17 v20 v23 v26 v29 v32 v35 v38)))))=K v8 v11 v14 v17 v20 v23 v26 v29 v32 v35 v38:=(yx h _).trans rfl
theorem Mi {ds:List D}{v2:Int}{v8:List D}{v11 v14 v17 v20 v23 v26 v29:Int}{v32 v35 v38:List D} (h:V 204 ds=some (iN v2,[.op [.os (5,0) v8,iN v11,iN v14,iN v17,iN v20,iN v23,iN v26,iN v29,.rs (5,0) v32,.rs (4,0) v35,.rs (3,0) v38]])) (K:Int->List D->Int->Int->Int->Int->Int->Int->Int->List D->List D->List D->Option Ret):Lf 204 ds (fun v2 v8 v11 v14 v17 v20 v23 v26 v29 v32 v35 v38=>(((K v2 v8 v11 v14 v17 v20 v23 v26 v29 v32 v35 v38))))=K v2 v8 v11 v14 v17 v20 v23 v26 v29 v32 v35 v38:=(yx h _).trans rfl
theorem Jb {ds:List D}{v2:Int}{v8:List D}{v11 v14 v17 v20 v23 v26 v29:Int}{v32 v35 v38:List D} (h:V 205 ds=some (iN v2,[.op [.os (5,0) v8,iN v11,iN v14,iN v17,iN v20,iN v23,iN v26,iN v29,.rs (5,0) v32,.rs (4,0) v35,.rs (3,0) v38]])) (K:Int->List D->Int->Int->Int->Int->Int->Int->Int->List D->List D->List D->Option Ret):Lf 205 ds (fun v2 v8 v11 v14 v17 v20 v23 v26 v29 v32 v35 v38=>(((K v2 v8 v11 v14 v17 v20 v23 v26 v29 v32 v35 v38))))=K v2 v8 v11 v14 v17 v20 v23 v26 v29 v32 v35 v38:=(yx h _).trans rfl
theorem KU {ds:List D}{v2:Int}{v8:List D}{v11 v14 v17 v20 v23 v26 v29:Int}{v32 v35 v38:List D} (h:V 206 ds=some (iN v2,[.op [.os (5,0) v8,iN v11,iN v14,iN v17,iN v20,iN v23,iN v26,iN v29,.rs (5,0) v32,.rs (4,0) v35,.rs (3,0) v38]])) (K:Int->List D->Int->Int->Int->Int->Int->Int->Int->List D->List D->List D->Option Ret):Lf 206 ds (fun v2 v8 v11 v14 v17 v20 v23 v26 v29 v32 v35 v38=>(((K v2 v8 v11 v14 v17 v20 v23 v26 v29 v32 v35 v38))))=K v2 v8 v11 v14 v17 v20 v23 v26 v29 v32 v35 v38:=(yx h _).trans rfl
theorem AW {ds:List D}{v2:Int}{v8:List D} (h:V 157 ds=some (iN v2,[.op [.os (5,0) v8]])) (K:Int->List D->Option Ret):ck9 157 ds (fun v2 v8=>(((K v2 v8))))=K v2 v8:=(yx h _).trans rfl
theorem Jz {ds:List D}{v2:Int}{v8:List D} (h:V 222 ds=some (iN v2,[.op [.os (5,0) v8]])) (K:Int->List D->Option Ret):ck9 222 ds (fun v2 v8=>(((K v2 v8))))=K v2 v8:=(yx h _).trans rfl
theorem JA {ds:List D}{v2:Int}{v8:List D} (h:V 94 ds=some (iN v2,[.op [.os (5,0) v8]])) (K:Int->List D->Option Ret):ck9 94 ds (fun v2 v8=>(((K v2 v8))))=K v2 v8:=(yx h _).trans rfl
theorem GN {ds:List D}{v2:Bool}(h:V 15 ds=some (.bool v2,[]))(K:Bool->Option Ret):ck6 15 ds (fun v2=>((K v2)))=K v2:=(yx h _).trans rfl
theorem Yw {ds v2:List D}(h:V 149 ds=some (.os (1,0) v2,[]))(K:List D->Option Ret):Dk 149 ds (fun v2=>((K v2)))=K v2:=(yx h _).trans rfl
theorem aac {ds v2 v8:List D} (h:V 148 ds=some (.os (1,0) v2,[.op [.os (5,0) v8]])) (K:List D->List D->Option Ret):aaO 148 ds (fun v2 v8=>(((K v2 v8))))=K v2 v8:=(yx h _).trans rfl
theorem QT {ds:List D}{v2:Bool}(h:V 226 ds=some (.bool v2,[]))(K:Bool->Option Ret):ck6 226 ds (fun v2=>((K v2)))=K v2:=(yx h _).trans rfl
theorem Kj {ds:List D}{v2:Int}(h:V 221 ds=some (iN v2,[]))(K:Int->Option Ret):FE 221 ds (fun v2=>((K v2)))=K v2:=(yx h _).trans rfl
theorem Yv {ds v2:List D}(h:V 239 ds=some (.os (1,0) v2,[]))(K:List D->Option Ret):Dk 239 ds (fun v2=>((K v2)))=K v2:=(yx h _).trans rfl
theorem UG {ds:List D}{v2:Int}(h:V 129 ds=some (iN v2,[]))(K:Int->Option Ret):FE 129 ds (fun v2=>((K v2)))=K v2:=(yx h _).trans rfl
theorem CZ {ds v8:List D}{v11 v14 v17 v20 v23 v26 v29:Int}{v32:Bool} (h:V 78 ds=some (.tup [.agg [.os (5,0) v8,iN v11,iN v14,iN v17,iN v20,iN v23,iN v26,iN v29],.bool v32],[])) (K:List D->Int->Int->Int->Int->Int->Int->Int->Bool->Option Ret):Vk 78 ds (fun v8 v11 v14 v17 v20 v23 v26 v29 v32=>((((K v8 v11 v14 v17 v20 v23 v26 v29 v32)))))=K v8 v11 v14 v17 v20 v23 v26 v29 v32:=(yx h _).trans rfl
theorem J6 {ds v8:List D}{v11 v14 v17 v20 v23 v26 v29:Int}{v32:Bool} (h:V 171 ds=some (.tup [.agg [.os (5,0) v8,iN v11,iN v14,iN v17,iN v20,iN v23,iN v26,iN v29],.bool v32],[])) (K:List D->Int->Int->Int->Int->Int->Int->Int->Bool->Option Ret):Vk 171 ds (fun v8 v11 v14 v17 v20 v23 v26 v29 v32=>((((K v8 v11 v14 v17 v20 v23 v26 v29 v32)))))=K v8 v11 v14 v17 v20 v23 v26 v29 v32:=(yx h _).trans rfl
theorem Fg {ds v5:List D}{v8 v11 v14 v17 v20 v23 v26:Int} (h:V 85 ds=some (.agg [.os (5,0) v5,iN v8,iN v11,iN v14,iN v17,iN v20,iN v23,iN v26],[])) (K:List D->Int->Int->Int->Int->Int->Int->Int->Option Ret):ck5 85 ds (fun v5 v8 v11 v14 v17 v20 v23 v26=>(((K v5 v8 v11 v14 v17 v20 v23 v26))))=K v5 v8 v11 v14 v17 v20 v23 v26:=(yx h _).trans rfl
theorem Sk {ds:List D}{v2:Int}{v8:List D} (h:V 96 ds=some (iN v2,[.op [.os (5,0) v8]])) (K:Int->List D->Option Ret):ck9 96 ds (fun v2 v8=>(((K v2 v8))))=K v2 v8:=(yx h _).trans rfl
theorem CQ {ds v8:List D}{v11 v14 v17 v20 v23 v26 v29:Int} (h:V 95 ds=some (.tup [],[.op [.os (5,0) v8,iN v11,iN v14,iN v17,iN v20,iN v23,iN v26,iN v29]])) (K:List D->Int->Int->Int->Int->Int->Int->Int->Option Ret):SC 95 ds (fun v8 v11 v14 v17 v20 v23 v26 v29=>((((K v8 v11 v14 v17 v20 v23 v26 v29)))))=K v8 v11 v14 v17 v20 v23 v26 v29:=(yx h _).trans rfl
theorem I9 {ds v5:List D}{v8 v11 v14 v17 v20 v23 v26:Int} (h:V 97 ds=some (.agg [.os (5,0) v5,iN v8,iN v11,iN v14,iN v17,iN v20,iN v23,iN v26],[])) (K:List D->Int->Int->Int->Int->Int->Int->Int->Option Ret):ck5 97 ds (fun v5 v8 v11 v14 v17 v20 v23 v26=>(((K v5 v8 v11 v14 v17 v20 v23 v26))))=K v5 v8 v11 v14 v17 v20 v23 v26:=(yx h _).trans rfl
theorem KQ {ds:List D}{v8 v11:Int}{v14:ByteArray}{v17 v20:Int}{v23:Bool} (h:V 212 ds=some (.tup [.agg [iN v8,iN v11,.str v14,iN v17,iN v20],.bool v23],[])) (K:Int->Int->ByteArray->Int->Int->Bool->Option Ret):TG 212 ds (fun v8 v11 v14 v17 v20 v23=>((((K v8 v11 v14 v17 v20 v23)))))=K v8 v11 v14 v17 v20 v23:=(yx h _).trans rfl
theorem Yx {ds:List D}{v2:Int}(h:V 16 ds=some (iN v2,[]))(K:Int->Option Ret):FE 16 ds (fun v2=>((K v2)))=K v2:=(yx h _).trans rfl
theorem WC {ds v5:List D}{v8 v11 v14 v17 v20 v23 v26:Int} (h:V 17 ds=some (.agg [.os (5,0) v5,iN v8,iN v11,iN v14,iN v17,iN v20,iN v23,iN v26],[])) (K:List D->Int->Int->Int->Int->Int->Int->Int->Option Ret):ck5 17 ds (fun v5 v8 v11 v14 v17 v20 v23 v26=>(((K v5 v8 v11 v14 v17 v20 v23 v26))))=K v5 v8 v11 v14 v17 v20 v23 v26:=(yx h _).trans rfl
theorem Mh {ds:List D}{v5:ByteArray}{v8:Bool}(h:V 19 ds=some (.tup [.str v5,.bool v8],[]))(K:ByteArray->Bool->Option Ret):aaP 19 ds (fun v5 v8=>(((K v5 v8))))=K v5 v8:=(yx h _).trans rfl
theorem Og {ds:List D}{v2:Bool}(h:V 14 ds=some (.bool v2,[]))(K:Bool->Option Ret):ck6 14 ds (fun v2=>((K v2)))=K v2:=(yx h _).trans rfl
theorem GY {ds v5:List D}{v8 v11 v14 v17 v20 v23 v26:Int} (h:V 63 ds=some (.agg [.os (5,0) v5,iN v8,iN v11,iN v14,iN v17,iN v20,iN v23,iN v26],[])) (K:List D->Int->Int->Int->Int->Int->Int->Int->Option Ret):ck5 63 ds (fun v5 v8 v11 v14 v17 v20 v23 v26=>(((K v5 v8 v11 v14 v17 v20 v23 v26))))=K v5 v8 v11 v14 v17 v20 v23 v26:=(yx h _).trans rfl
theorem acD {ds v5:List D}{v8 v11 v14 v17 v20 v23 v26:Int} (h:V 64 ds=some (.agg [.os (5,0) v5,iN v8,iN v11,iN v14,iN v17,iN v20,iN v23,iN v26],[])) (K:List D->Int->Int->Int->Int->Int->Int->Int->Option Ret):ck5 64 ds (fun v5 v8 v11 v14 v17 v20 v23 v26=>(((K v5 v8 v11 v14 v17 v20 v23 v26))))=K v5 v8 v11 v14 v17 v20 v23 v26:=(yx h _).trans rfl
theorem Lg {ds:List D}{v2:ByteArray}(h:V 202 ds=some (.str v2,[]))(K:ByteArray->Option Ret):YX 202 ds (fun v2=>((K v2)))=K v2:=(yx h _).trans rfl
theorem FQ {ds v8 v11 v14:List D}{v17:Int} (h:V 229 ds=some (.tup [],[.op [.os (5,0) v8,.os (4,0) v11,.os (3,0) v14,iN v17]])) (K:List D->List D->List D->Int->Option Ret):ck2 229 ds (fun v8 v11 v14 v17=>((((K v8 v11 v14 v17)))))=K v8 v11 v14 v17:=(yx h _).trans rfl
theorem Sj {ds:List D}{v5:ByteArray}{v8:Bool}{v14 v17 v20:List D}{v23:Int} (h:V 230 ds=some (.tup [.str v5,.bool v8],[.op [.os (5,0) v14,.os (4,0) v17,.os (3,0) v20,iN v23]])) (K:ByteArray->Bool->List D->List D->List D->Int->Option Ret):adn 230 ds (fun v5 v8 v14 v17 v20 v23=>((((K v5 v8 v14 v17 v20 v23)))))=K v5 v8 v14 v17 v20 v23:=(yx h _).trans rfl
theorem adS {ds:List D}{v2:Bool}(h:V 12 ds=some (.bool v2,[]))(K:Bool->Option Ret):ck6 12 ds (fun v2=>((K v2)))=K v2:=(yx h _).trans rfl
theorem Fx {ds:List D}{v5:Int}{v8:Bool}{v14:List D}{v17 v20 v23 v26 v29 v32 v35:Int}{v38 v41 v44:List D} (h:V 207 ds=some (.tup [iN v5,.bool v8],[.op [.os (5,0) v14,iN v17,iN v20,iN v23,iN v26,iN v29,iN v32,iN v35,.rs (5,0) v38,.rs (4,0) v41,.rs (3,0) v44]])) (K:Int->Bool->List D->Int->Int->Int->Int->Int->Int->Int->List D->List D->List D->Option Ret):Xi 207 ds (fun v5 v8 v14 v17 v20 v23 v26 v29 v32 v35 v38 v41 v44=>((((K v5 v8 v14 v17 v20 v23 v26 v29 v32 v35 v38 v41 v44)))))=K v5 v8 v14 v17 v20 v23 v26 v29 v32 v35 v38 v41 v44:=(yx h _).trans rfl
theorem Sg {ds:List D}{v2:Bool}(h:V 59 ds=some (.bool v2,[]))(K:Bool->Option Ret):ck6 59 ds (fun v2=>((K v2)))=K v2:=(yx h _).trans rfl
theorem aab {ds v5:List D}{v8 v11 v14 v17 v20 v23 v26:Int} (h:V 153 ds=some (.agg [.os (5,0) v5,iN v8,iN v11,iN v14,iN v17,iN v20,iN v23,iN v26],[])) (K:List D->Int->Int->Int->Int->Int->Int->Int->Option Ret):ck5 153 ds (fun v5 v8 v11 v14 v17 v20 v23 v26=>(((K v5 v8 v11 v14 v17 v20 v23 v26))))=K v5 v8 v11 v14 v17 v20 v23 v26:=(yx h _).trans rfl
theorem abm {ds v8 v11 v14:List D}{v17:Int} (h:V 215 ds=some (.tup [],[.op [.os (5,0) v8,.os (4,0) v11,.os (3,0) v14,iN v17]])) (K:List D->List D->List D->Int->Option Ret):ck2 215 ds (fun v8 v11 v14 v17=>((((K v8 v11 v14 v17)))))=K v8 v11 v14 v17:=(yx h _).trans rfl
theorem UE {ds v2:List D}(h:V 176 ds=some (.os (1,0) v2,[]))(K:List D->Option Ret):Dk 176 ds (fun v2=>((K v2)))=K v2:=(yx h _).trans rfl
theorem UF {ds:List D}{v2:Bool}(h:V 136 ds=some (.bool v2,[]))(K:Bool->Option Ret):ck6 136 ds (fun v2=>((K v2)))=K v2:=(yx h _).trans rfl
theorem Ja {ds:List D}{v2:Int}(h:V 225 ds=some (iN v2,[]))(K:Int->Option Ret):FE 225 ds (fun v2=>((K v2)))=K v2:=(yx h _).trans rfl
theorem Jn {ds:List D}{v2:Bool}(h:V 238 ds=some (.bool v2,[]))(K:Bool->Option Ret):ck6 238 ds (fun v2=>((K v2)))=K v2:=(yx h _).trans rfl
theorem UJ {ds:List D}{v5 v8:Int}(h:V 248 ds=some (.tup [iN v5,iN v8],[]))(K:Int->Int->Option Ret):aci 248 ds (fun v5 v8=>(((K v5 v8))))=K v5 v8:=(yx h _).trans rfl
theorem Z7 {ds v8 v11 v14:List D}{v17:Int} (h:V 249 ds=some (.tup [],[.op [.os (5,0) v8,.os (4,0) v11,.os (3,0) v14,iN v17]])) (K:List D->List D->List D->Int->Option Ret):ck2 249 ds (fun v8 v11 v14 v17=>((((K v8 v11 v14 v17)))))=K v8 v11 v14 v17:=(yx h _).trans rfl
theorem aaa {ds:List D}{v2:Int}{v8:List D}{v11 v14 v17 v20 v23 v26 v29:Int} (h:V 240 ds=some (iN v2,[.op [.os (5,0) v8,iN v11,iN v14,iN v17,iN v20,iN v23,iN v26,iN v29]])) (K:Int->List D->Int->Int->Int->Int->Int->Int->Int->Option Ret):PN 240 ds (fun v2 v8 v11 v14 v17 v20 v23 v26 v29=>(((K v2 v8 v11 v14 v17 v20 v23 v26 v29))))=K v2 v8 v11 v14 v17 v20 v23 v26 v29:=(yx h _).trans rfl
theorem Fw {ds:List D}{v5:Int}{v8:List D}{v11:Bool} (h:V 234 ds=some (.tup [iN v5,.os (1,0) v8,.bool v11],[])) (K:Int->List D->Bool->Option Ret):ado 234 ds (fun v5 v8 v11=>(((K v5 v8 v11))))=K v5 v8 v11:=(yx h _).trans rfl
theorem VL {ds:List D}{v2:Int}(h:V 223 ds=some (iN v2,[]))(K:Int->Option Ret):FE 223 ds (fun v2=>((K v2)))=K v2:=(yx h _).trans rfl
theorem QP {ds:List D}{v5 v8:Int}{v14:List D} (h:V 224 ds=some (.tup [iN v5,iN v8],[.op [.os (5,0) v14]])) (K:Int->Int->List D->Option Ret):acj 224 ds (fun v5 v8 v14=>((((K v5 v8 v14)))))=K v5 v8 v14:=(yx h _).trans rfl
theorem abj {ds:List D}{v2:Int}(h:V 125 ds=some (iN v2,[]))(K:Int->Option Ret):FE 125 ds (fun v2=>((K v2)))=K v2:=(yx h _).trans rfl
theorem ZZ {ds:List D}{v2:Int}(h:V 208 ds=some (iN v2,[]))(K:Int->Option Ret):FE 208 ds (fun v2=>((K v2)))=K v2:=(yx h _).trans rfl
theorem acE {ds v5:List D}{v8 v11 v14 v17 v20 v23 v26:Int} (h:V 89 ds=some (.agg [.os (5,0) v5,iN v8,iN v11,iN v14,iN v17,iN v20,iN v23,iN v26],[])) (K:List D->Int->Int->Int->Int->Int->Int->Int->Option Ret):ck5 89 ds (fun v5 v8 v11 v14 v17 v20 v23 v26=>(((K v5 v8 v11 v14 v17 v20 v23 v26))))=K v5 v8 v11 v14 v17 v20 v23 v26:=(yx h _).trans rfl
theorem abk {ds v2:List D}(h:V 189 ds=some (.os (1,0) v2,[]))(K:List D->Option Ret):Dk 189 ds (fun v2=>((K v2)))=K v2:=(yx h _).trans rfl
theorem GZ {ds:List D}{v2:Bool}(h:V 135 ds=some (.bool v2,[]))(K:Bool->Option Ret):ck6 135 ds (fun v2=>((K v2)))=K v2:=(yx h _).trans rfl
theorem J7 {ds:List D}{v2:Int}{v8:List D}{v11 v14 v17 v20 v23 v26 v29:Int}{v32 v35 v38:List D} (h:V 132 ds=some (iN v2,[.op [.os (5,0) v8,iN v11,iN v14,iN v17,iN v20,iN v23,iN v26,iN v29,.rs (5,0) v32,.rs (4,0) v35,.rs (3,0) v38]])) (K:Int->List D->Int->Int->Int->Int->Int->Int->Int->List D->List D->List D->Option Ret):Lf 132 ds (fun v2 v8 v11 v14 v17 v20 v23 v26 v29 v32 v35 v38=>(((K v2 v8 v11 v14 v17 v20 v23 v26 v29 v32 v35 v38))))=K v2 v8 v11 v14 v17 v20 v23 v26 v29 v32 v35 v38:=(yx h _).trans rfl
theorem Gi {ds v5:List D}{v8 v11 v14 v17 v20 v23 v26:Int} (h:V 92 ds=some (.agg [.os (5,0) v5,iN v8,iN v11,iN v14,iN v17,iN v20,iN v23,iN v26],[])) (K:List D->Int->Int->Int->Int->Int->Int->Int->Option Ret):ck5 92 ds (fun v5 v8 v11 v14 v17 v20 v23 v26=>(((K v5 v8 v11 v14 v17 v20 v23 v26))))=K v5 v8 v11 v14 v17 v20 v23 v26:=(yx h _).trans rfl
theorem Ng {ds:List D}{v2:Int}{v8:List D}{v11 v14 v17 v20 v23 v26 v29:Int}{v32 v35 v38:List D} (h:V 133 ds=some (iN v2,[.op [.os (5,0) v8,iN v11,iN v14,iN v17,iN v20,iN v23,iN v26,iN v29,.rs (5,0) v32,.rs (4,0) v35,.rs (3,0) v38]])) (K:Int->List D->Int->Int->Int->Int->Int->Int->Int->List D->List D->List D->Option Ret):Lf 133 ds (fun v2 v8 v11 v14 v17 v20 v23 v26 v29 v32 v35 v38=>(((K v2 v8 v11 v14 v17 v20 v23 v26 v29 v32 v35 v38))))=K v2 v8 v11 v14 v17 v20 v23 v26 v29 v32 v35 v38:=(yx h _).trans rfl
theorem Mj {ds:List D}{v2:Int}{v8:List D}{v11 v14 v17 v20 v23 v26 v29:Int}{v32 v35 v38:List D} (h:V 134 ds=some (iN v2,[.op [.os (5,0) v8,iN v11,iN v14,iN v17,iN v20,iN v23,iN v26,iN v29,.rs (5,0) v32,.rs (4,0) v35,.rs (3,0) v38]])) (K:Int->List D->Int->Int->Int->Int->Int->Int->Int->List D->List D->List D->Option Ret):Lf 134 ds (fun v2 v8 v11 v14 v17 v20 v23 v26 v29 v32 v35 v38=>(((K v2 v8 v11 v14 v17 v20 v23 v26 v29 v32 v35 v38))))=K v2 v8 v11 v14 v17 v20 v23 v26 v29 v32 v35 v38:=(yx h _).trans rfl
theorem Z4 {ds v5:List D}{v8 v11 v14 v17 v20 v23 v26:Int} (h:V 32 ds=some (.agg [.os (5,0) v5,iN v8,iN v11,iN v14,iN v17,iN v20,iN v23,iN v26],[])) (K:List D->Int->Int->Int->Int->Int->Int->Int->Option Ret):ck5 32 ds (fun v5 v8 v11 v14 v17 v20 v23 v26=>(((K v5 v8 v11 v14 v17 v20 v23 v26))))=K v5 v8 v11 v14 v17 v20 v23 v26:=(yx h _).trans rfl
theorem acA {ds:List D}{v2:Bool}(h:V 242 ds=some (.bool v2,[]))(K:Bool->Option Ret):ck6 242 ds (fun v2=>((K v2)))=K v2:=(yx h _).trans rfl
theorem Yu {ds:List D}{v5 v8:Int}{v11:ByteArray}{v14 v17:Int}(h:V 243 ds=some (.agg [iN v5,iN v8,.str v11,iN v14,iN v17],[]))(K:Int->Int->ByteArray->Int->Int->Option Ret):JU 243 ds (fun v5 v8 v11 v14 v17=>(((K v5 v8 v11 v14 v17))))=K v5 v8 v11 v14 v17:=(yx h _).trans rfl
theorem VN {ds:List D}{v5 v8:Int}{v11:ByteArray}{v14 v17:Int}(h:V 235 ds=some (.agg [iN v5,iN v8,.str v11,iN v14,iN v17],[]))(K:Int->Int->ByteArray->Int->Int->Option Ret):JU 235 ds (fun v5 v8 v11 v14 v17=>(((K v5 v8 v11 v14 v17))))=K v5 v8 v11 v14 v17:=(yx h _).trans rfl
theorem RU {ds:List D}{v2:Int}{v8:List D} (h:V 93 ds=some (iN v2,[.op [.os (5,0) v8]])) (K:Int->List D->Option Ret):ck9 93 ds (fun v2 v8=>(((K v2 v8))))=K v2 v8:=(yx h _).trans rfl
theorem Jt {ds:List D}{v2:Int}{v8:List D}{v11 v14 v17 v20 v23 v26 v29:Int}{v32 v35 v38:List D} (h:V 186 ds=some (iN v2,[.op [.os (5,0) v8,iN v11,iN v14,iN v17,iN v20,iN v23,iN v26,iN v29,.rs (5,0) v32,.rs (4,0) v35,.rs (3,0) v38]])) (K:Int->List D->Int->Int->Int->Int->Int->Int->Int->List D->List D->List D->Option Ret):Lf 186 ds (fun v2 v8 v11 v14 v17 v20 v23 v26 v29 v32 v35 v38=>(((K v2 v8 v11 v14 v17 v20 v23 v26 v29 v32 v35 v38))))=K v2 v8 v11 v14 v17 v20 v23 v26 v29 v32 v35 v38:=(yx h _).trans rfl
theorem KT {ds:List D}{v2:Int}{v8:List D}{v11 v14 v17 v20 v23 v26 v29:Int}{v32 v35 v38:List D} (h:V 187 ds=some (iN v2,[.op [.os (5,0) v8,iN v11,iN v14,iN v17,iN v20,iN v23,iN v26,iN v29,.rs (5,0) v32,.rs (4,0) v35,.rs (3,0) v38]])) (K:Int->List D->Int->Int->Int->Int->Int->Int->Int->List D->List D->List D->Option Ret):Lf 187 ds (fun v2 v8 v11 v14 v17 v20 v23 v26 v29 v32 v35 v38=>(((K v2 v8 v11 v14 v17 v20 v23 v26 v29 v32 v35 v38))))=K v2 v8 v11 v14 v17 v20 v23 v26 v29 v32 v35 v38:=(yx h _).trans rfl
theorem RV {ds:List D}{v2:Int}{v8:List D}{v11 v14 v17 v20 v23 v26 v29:Int} (h:V 196 ds=some (iN v2,[.op [.os (5,0) v8,iN v11,iN v14,iN v17,iN v20,iN v23,iN v26,iN v29]])) (K:Int->List D->Int->Int->Int->Int->Int->Int->Int->Option Ret):PN 196 ds (fun v2 v8 v11 v14 v17 v20 v23 v26 v29=>(((K v2 v8 v11 v14 v17 v20 v23 v26 v29))))=K v2 v8 v11 v14 v17 v20 v23 v26 v29:=(yx h _).trans rfl
theorem WE {ds v8 v11:List D}{v14 v17:Int} (h:V 191 ds=some (.tup [.agg [.os (5,0) v8],.os (1,0) v11,iN v14,iN v17],[])) (K:List D->List D->Int->Int->Option Ret):adp 191 ds (fun v8 v11 v14 v17=>((((K v8 v11 v14 v17)))))=K v8 v11 v14 v17:=(yx h _).trans rfl
theorem QQ {ds v8 v11 v14:List D}{v17 v20:Int} (h:V 193 ds=some (.tup [.agg [.os (5,0) v8,.os (4,0) v11,.os (3,0) v14],iN v17,iN v20],[])) (K:List D->List D->List D->Int->Int->Option Ret):adq 193 ds (fun v8 v11 v14 v17 v20=>((((K v8 v11 v14 v17 v20)))))=K v8 v11 v14 v17 v20:=(yx h _).trans rfl
theorem Yr {ds v2:List D}(h:V 247 ds=some (.os (1,0) v2,[]))(K:List D->Option Ret):Dk 247 ds (fun v2=>((K v2)))=K v2:=(yx h _).trans rfl
theorem Z3 {ds:List D}{v2:Bool}(h:V 126 ds=some (.bool v2,[]))(K:Bool->Option Ret):ck6 126 ds (fun v2=>((K v2)))=K v2:=(yx h _).trans rfl
theorem Jo {ds:List D}{v2:Bool}(h:V 203 ds=some (.bool v2,[]))(K:Bool->Option Ret):ck6 203 ds (fun v2=>((K v2)))=K v2:=(yx h _).trans rfl
theorem Od {ds v2 v8:List D} (h:V 137 ds=some (.os (1,0) v2,[.op [.os (5,0) v8]])) (K:List D->List D->Option Ret):aaO 137 ds (fun v2 v8=>(((K v2 v8))))=K v2 v8:=(yx h _).trans rfl
theorem MW {ds:List D}{v5:Int}{v8:Bool}(h:V 216 ds=some (.tup [iN v5,.bool v8],[]))(K:Int->Bool->Option Ret):aaQ 216 ds (fun v5 v8=>(((K v5 v8))))=K v5 v8:=(yx h _).trans rfl
theorem Pz {ds:List D}{v2:Int}{v8:List D}{v11 v14 v17 v20 v23 v26 v29:Int} (h:V 217 ds=some (iN v2,[.op [.os (5,0) v8,iN v11,iN v14,iN v17,iN v20,iN v23,iN v26,iN v29]])) (K:Int->List D->Int->Int->Int->Int->Int->Int->Int->Option Ret):PN 217 ds (fun v2 v8 v11 v14 v17 v20 v23 v26 v29=>(((K v2 v8 v11 v14 v17 v20 v23 v26 v29))))=K v2 v8 v11 v14 v17 v20 v23 v26 v29:=(yx h _).trans rfl
theorem Z9 {ds:List D}{v2:Int}{v8:List D}{v11 v14 v17 v20 v23 v26 v29:Int} (h:V 219 ds=some (iN v2,[.op [.os (5,0) v8,iN v11,iN v14,iN v17,iN v20,iN v23,iN v26,iN v29]])) (K:Int->List D->Int->Int->Int->Int->Int->Int->Int->Option Ret):PN 219 ds (fun v2 v8 v11 v14 v17 v20 v23 v26 v29=>(((K v2 v8 v11 v14 v17 v20 v23 v26 v29))))=K v2 v8 v11 v14 v17 v20 v23 v26 v29:=(yx h _).trans rfl
theorem Z8 {ds:List D}{v2:Int}{v8:List D}{v11 v14 v17 v20 v23 v26 v29:Int} (h:V 220 ds=some (iN v2,[.op [.os (5,0) v8,iN v11,iN v14,iN v17,iN v20,iN v23,iN v26,iN v29]])) (K:Int->List D->Int->Int->Int->Int->Int->Int->Int->Option Ret):PN 220 ds (fun v2 v8 v11 v14 v17 v20 v23 v26 v29=>(((K v2 v8 v11 v14 v17 v20 v23 v26 v29))))=K v2 v8 v11 v14 v17 v20 v23 v26 v29:=(yx h _).trans rfl
theorem VO {ds:List D}{v2:Int}(h:V 245 ds=some (iN v2,[]))(K:Int->Option Ret):FE 245 ds (fun v2=>((K v2)))=K v2:=(yx h _).trans rfl
theorem WG {ds:List D}{v5 v8:Int}{v14:List D} (h:V 246 ds=some (.tup [iN v5,iN v8],[.op [.os (5,0) v14]])) (K:Int->Int->List D->Option Ret):acj 246 ds (fun v5 v8 v14=>((((K v5 v8 v14)))))=K v5 v8 v14:=(yx h _).trans rfl
theorem Z5 {ds:List D}{v2:Int}(h:V 232 ds=some (iN v2,[]))(K:Int->Option Ret):FE 232 ds (fun v2=>((K v2)))=K v2:=(yx h _).trans rfl
theorem I8 {ds:List D}{v2:Int}{v8:List D}{v11 v14:Int} (h:V 143 ds=some (iN v2,[.op [.rs (1,0) v8,iN v11,iN v14]])) (K:Int->List D->Int->Int->Option Ret):ck7 143 ds (fun v2 v8 v11 v14=>(((K v2 v8 v11 v14))))=K v2 v8 v11 v14:=(yx h _).trans rfl
theorem abl {ds:List D}{v5:Int}{v8:Bool}(h:V 227 ds=some (.tup [iN v5,.bool v8],[]))(K:Int->Bool->Option Ret):aaQ 227 ds (fun v5 v8=>(((K v5 v8))))=K v5 v8:=(yx h _).trans rfl
theorem Z6 {ds:List D}{v2:Bool}(h:V 130 ds=some (.bool v2,[]))(K:Bool->Option Ret):ck6 130 ds (fun v2=>((K v2)))=K v2:=(yx h _).trans rfl
theorem Tc {ds:List D}{v2:Bool}(h:V 177 ds=some (.bool v2,[]))(K:Bool->Option Ret):ck6 177 ds (fun v2=>((K v2)))=K v2:=(yx h _).trans rfl
end Go.Eng
/-! nodes and pools: when they are right,on both sides -/
namespace Go.Eng
noncomputable section
open Go.Proofs Go.Proofs.Tryz

theorem AE (b c:Bool)(l:List D):br b (some (D.bool c,l)) (some (D.bool false,l))=some (D.bool (b&&c),l):=by cases b<;>rfl
theorem adl (b c:Bool)(l:List D):br b (some (D.bool true,l)) (some (D.bool c,l))=some (D.bool (b||c),l):=by cases b<;>rfl
theorem Qn (b c:Bool)(l:List D):br b (some (D.bool false,l)) (some (D.bool c,l))=some (D.bool (!b&&c),l):=by cases b<;>rfl

structure Nd where
 kind:Int
 n:Int
 s:ByteArray
 a:Int
 b:Int
abbrev eN (x:Nd):D:=.agg [iN x.kind,iN x.n,.str x.s,iN x.a,iN x.b]
section
variable {R:Type}
theorem MO (x:Nd)(K:Int->Int->ByteArray->Int->Int->Option R):tk2 (eN x) (fun n4 n7 s10 n13 n16=>(K n4 n7 s10 n13 n16))=K x.kind x.n x.s x.a x.b:=rfl
theorem agL (x:Nd)(K:Int->Option R):asAgg (eN x) (fun l=>dd l 0 fun y=>asI .i64 y fun n=>K n)=K x.kind:=rfl
theorem agM (x:Nd)(K:Int->Option R):asAgg (eN x) (fun l=>dd l 1 fun y=>asI .i64 y fun n=>K n)=K x.n:=rfl
theorem agN (x:Nd)(K:ByteArray->Option R):asAgg (eN x) (fun l=>dd l 2 fun y=>asS y fun n=>K n)=K x.s:=rfl
theorem agO (x:Nd)(K:Int->Option R):asAgg (eN x) (fun l=>dd l 3 fun y=>asI .i64 y fun n=>K n)=K x.a:=rfl
theorem agP (x:Nd)(K:Int->Option R):asAgg (eN x) (fun l=>dd l 4 fun y=>asI .i64 y fun n=>K n)=K x.b:=rfl
end

theorem AK (n lo hi:Int):V 58 [iN n,iN lo,iN hi]=some (.bool (wi n lo hi),[]):=(Xu n lo hi).trans yW
theorem CR (n lo hi:Int):V 62 [iN n,iN lo,iN hi]=some (.bool (wi n lo hi),[]):=(aa4 n lo hi).trans yW
theorem YK (a b:Int):V 116 [iN a,iN b]=some (iN (mnI a b),[]):=by
 rw[Zo]
 unfold mnI
 by_cases h:a<b
 ·rw[y6 (decide_eq_true h),if_neg (by omega)]
 ·rw[yp (decide_eq_false h)]
  by_cases h2:b<a
  ·rw[if_pos h2]
  ·rw[if_neg h2,show b=a by omega]

def nmB (c:Int):Bool:=(decide (c>=97)&&decide (c<=122))||[43,45,42,60,61,63,33,47].any fun x=>c==x
theorem Ul {l:List Int}(hl:l.length<4611686018427387904)(c:Int):∀(k i:Nat),i+k=l.length->Cg (l.map (D.int .u8)) c (ni (l.map (D.int .u8)).length) (i:Int)=some (iN (d9 (fun x=>c==x) l i),[])
 |0,i,hi=>by
  rw[D9,yp (by rw[lnM];exact zI (by omega)),ym (by omega)]
 |k+1,i,hi=>by
  obtain⟨x,hx⟩:=yM (l:=l) (i:=i) (by omega)
  have ih:=Ul hl c k (i+1) (by omega)
  rw[D9,y6 (by rw[lnM];exact zN (by omega)),zJ (by rw[lnM];exact zM (by omega)),Int.toNat_natCast,zj hx,zq]
  cases h:c==x with
  |true=>rw[zy,yn hx h]
  |false=>rw[y0,z6 (by omega),ih,ya hx h]
theorem adY {l:List Int}{c:Int}:decide (zm (fun x=>c==x) l>=0)=l.any fun x=>c==x:=by
 unfold zm
 cases h:l.findIdx? fun x=>c==x with
 |none=>
  have:=List.findIdx?_eq_none_iff.1 h
  symm
  simpa[List.any_eq_false]using this
 |some k=>
  have h2:(l.any fun x=>c==x)=true:=by
   rw[List.findIdx?_eq_some_iff_getElem]at h
   obtain⟨hk,h3,_⟩:=h
   exact List.any_eq_true.2 ⟨l[k],List.getElem_mem hk,h3⟩
  rw[h2]
  simp
theorem abt {l:List Int}(hl:l.length<4611686018427387904)(c:Int):V 203 [.rs (1,0) (l.map (D.int .u8)),.int .u8 c]=some (.bool (l.any fun x=>c==x),[]):=by
 have h:V 221 [.rs (1,0) (l.map (D.int .u8)),.int .u8 c]=some (iN (zm (fun x=>c==x) l),[]):=by
  rw[LR,<-yb]
  exact Ul hl c l.length 0 (Nat.zero_add _)
 rw[JX,Kj h,adY]
theorem YJ (c:Int):V 177 [.int .u8 c]=some (.bool (nmB c),[]):=by
 have h:=abt (l:=[43,45,42,60,61,63,33,47]) (by simp) c
 simp only[List.map_cons,List.map_nil]at h
 rw[Ry,zJ (by decide),Jo h]
 unfold nmB
 cases decide (c>=97)<;>cases decide (c<=122)<;>rfl
theorem Re (c:Int):V 180 [.int .u8 c]=some (.bool (nmB c),[]):=by
 rw[RH]
 simp only[adl,nmB,List.any_cons,List.any_nil,Bool.or_false]
 cases decide (c>=97)<;>cases decide (c<=122)<;>rfl

def Yn (s:ByteArray):Nat->Nat->Bool
 |_,0=>true
 |i,k+1=>nmB (bt s i)&&Yn s (i+1) k
def Nq (s:ByteArray):Bool:=wi s.size 1 12&&Yn s 0 s.size
theorem NN {s:ByteArray}(hl:s.size<4611686018427387904):∀(k i:Nat),i+k=s.size->EH s (ni s.size) (i:Int)=some (.bool (Yn s i k),[])
 |0,i,hi=>by rw[Kq,yp (zI (by omega))];rfl
 |k+1,i,hi=>by
  rw[Kq,y6 (zN (by omega)),zJ (zM (by omega)),Tc (YJ _),z6 (by omega),NN hl k (i+1) (by omega),Qn,Bool.not_not]
  rfl
theorem OG {s:ByteArray}(hl:s.size<4611686018427387904):∀(k i:Nat),i+k=s.size->EU s (i:Int)=some (.bool (Yn s i k&&wi s.size 1 12),[])
 |0,i,hi=>by rw[Kv,yp (zI (by omega)),Cn (CR _ _ _)];rfl
 |k+1,i,hi=>by
  rw[Kv,y6 (zN (by omega)),zJ (zM (by omega)),Nf (Re _),z6 (by omega),OG hl k (i+1) (by omega),Qn,Bool.not_not,<-Bool.and_assoc]
  rfl
theorem Lm {s:ByteArray}(hl:s.size<4611686018427387904):V 124 [.str s]=some (.bool (Nq s),[]):=by
 have h:EH s (ni s.size) 0=_:=NN hl s.size 0 (Nat.zero_add _)
 rw[Xm,AJ (AK _ _ _),h,Qn,Bool.not_not]
 rfl
theorem IK {s:ByteArray}(hl:s.size<4611686018427387904):V 128 [.str s]=some (.bool (Nq s),[]):=by
 have h:EU s 0=_:=OG hl s.size 0 (Nat.zero_add _)
 rw[Xz,h,Bool.and_comm]
 rfl

def nz (s:ByteArray):Bool:=kJ s ⟨#[]⟩
def okN (x:Nd)(h:Int):Bool:=
 if x.kind=1 then wi x.n 0 0&&(nz x.s&&(x.a==0&&x.b==0))
 else if x.kind=2 then wi x.n 0 1&&(nz x.s&&(x.a==0&&x.b==0))
 else if x.kind=3 then wi x.n (-1000000000) 1000000000&&(nz x.s&&(x.a==0&&x.b==0))
 else if x.kind=4 then wi x.n 0 0&&(Nq x.s&&(x.a==0&&x.b==0))
 else if x.kind=5 then wi x.n 0 0&&(nz x.s&&(wi x.a 0 (h-1)&&wi x.b 0 (h-1)))
 else if x.kind=6 then wi x.n 0 1000000000&&(nz x.s&&(wi x.a 0 (h-1)&&x.b==0))
 else if x.kind=7 then wi x.n 0 0&&(nz x.s&&(wi x.a 0 (h-1)&&x.b==0))
 else if x.kind=8 then wi x.n 0 99&&(nz x.s&&(x.a==0&&x.b==0))
 else if x.kind=9 then wi x.n 0 1000000000&&(nz x.s&&(x.a==0&&x.b==0))
 else false
theorem afb (n:Int):wi n 0 0=(n==0):=by
 unfold wi
 by_cases h:n=0
 ·subst h;rfl
 ·have:(n==0)=false:=by simp[h]
  rw[this]
  simp;omega

theorem VV {x:Nd}(hs:x.s.size<4611686018427387904){h:Int}(h0 : -4611686018427387904<h)(h1:h<4611686018427387904):V 126 [eN x,iN h]=some (.bool (okN x h),[]):=by
 rw[Xt,w64 (n:=h-1) (by omega) (by omega)]
 unfold okN
 by_cases e1:x.kind=1
 ·rw[y6 (by simp[e1]),if_pos e1,AJ (AK _ _ _)];simp only[AE];rfl
 rw[yp (by simp[e1]),if_neg e1]
 by_cases e2:x.kind=2
 ·rw[y6 (by simp[e2]),if_pos e2,AJ (AK _ _ _)];simp only[AE];rfl
 rw[yp (by simp[e2]),if_neg e2]
 by_cases e3:x.kind=3
 ·rw[y6 (by simp[e3]),if_pos e3,AJ (AK _ _ _)];simp only[AE];rfl
 rw[yp (by simp[e3]),if_neg e3]
 by_cases e4:x.kind=4
 ·rw[y6 (by simp[e4]),if_pos e4,ZY (Lm hs),AJ (AK _ _ _)];simp only[AE]
 rw[yp (by simp[e4]),if_neg e4]
 by_cases e5:x.kind=5
 ·rw[y6 (by simp[e5]),if_pos e5,AJ (AK _ _ _),AJ (AK _ _ _),AJ (AK _ _ _)];simp only[AE];rfl
 rw[yp (by simp[e5]),if_neg e5]
 by_cases e6:x.kind=6
 ·rw[y6 (by simp[e6]),if_pos e6,AJ (AK _ _ _),AJ (AK _ _ _)];simp only[AE];rfl
 rw[yp (by simp[e6]),if_neg e6]
 by_cases e7:x.kind=7
 ·rw[y6 (by simp[e7]),if_pos e7,AJ (AK _ _ _),AJ (AK _ _ _)];simp only[AE];rfl
 rw[yp (by simp[e7]),if_neg e7]
 by_cases e8:x.kind=8
 ·rw[y6 (by simp[e8]),if_pos e8,AJ (AK _ _ _)];simp only[AE];rfl
 rw[yp (by simp[e8]),if_neg e8]
 by_cases e9:x.kind=9
 ·rw[y6 (by simp[e9]),if_pos e9,AJ (AK _ _ _)];simp only[AE];rfl
 rw[yp (by simp[e9]),if_neg e9]

theorem aee {x:Nd}(hs:x.s.size<4611686018427387904){h:Int}(h0 : -4611686018427387904<h)(h1:h<4611686018427387904):V 130 [eN x,iN h]=some (.bool (okN x h),[]):=by
 rw[XK,w64 (n:=h-1) (by omega) (by omega),Cn (CR _ _ _),Cn (CR _ _ _)]
 unfold okN
 have hss:kJ x.s x.s=true:=by rw[DK];simp
 by_cases e1:x.kind=1
 ·rw[y6 (by simp[e1]),if_pos e1,e1,afb];simp[nz]
 rw[yp (by simp[e1]),if_neg e1]
 by_cases e2:x.kind=2
 ·rw[y6 (by simp[e2]),if_pos e2,e2,Cn (CR _ _ _)];simp only[AE];simp[nz]
 rw[yp (by simp[e2]),if_neg e2]
 by_cases e3:x.kind=3
 ·rw[y6 (by simp[e3]),if_pos e3,e3,Cn (CR _ _ _)];simp only[AE];simp[nz]
 rw[yp (by simp[e3]),if_neg e3]
 by_cases e4:x.kind=4
 ·rw[y6 (by simp[e4]),if_pos e4,e4,Si (IK hs),afb,hss];simp only[AE]
  cases Nq x.s<;>cases x.n==0<;>simp
 rw[yp (by simp[e4]),if_neg e4]
 by_cases e5:x.kind=5
 ·rw[y6 (by simp[e5]),if_pos e5,afb];simp only[AE]
  show some (D.bool (_&&(_&&(_&&nz x.s))),_)=_
  cases wi x.a 0 (h-1)<;>cases wi x.b 0 (h-1)<;>cases x.n==0<;>cases nz x.s<;>rfl
 rw[yp (by simp[e5]),if_neg e5]
 by_cases e6:x.kind=6
 ·rw[y6 (by simp[e6]),if_pos e6,Cn (CR _ _ _)];simp only[AE]
  show some (D.bool (_&&(_&&(_&&nz x.s))),_)=_
  cases wi x.a 0 (h-1)<;>cases wi x.n 0 1000000000<;>cases x.b==0<;>cases nz x.s<;>rfl
 rw[yp (by simp[e6]),if_neg e6]
 by_cases e7:x.kind=7
 ·rw[y6 (by simp[e7]),if_pos e7,afb];simp only[AE]
  show some (D.bool (_&&(_&&(_&&nz x.s))),_)=_
  cases wi x.a 0 (h-1)<;>cases x.n==0<;>cases x.b==0<;>cases nz x.s<;>rfl
 rw[yp (by simp[e7]),if_neg e7]
 by_cases e8:x.kind=8
 ·rw[y6 (by simp[e8]),if_pos e8,e8,Cn (CR _ _ _)];simp only[AE];simp[nz]
 rw[yp (by simp[e8]),if_neg e8]
 by_cases e9:x.kind=9
 ·rw[y6 (by simp[e9]),if_pos e9,e9,Cn (CR _ _ _)];simp only[AE];simp[nz]
 rw[yp (by simp[e9]),if_neg e9]

abbrev eP (p:List Nd):D:=.agg [.rs (5,0) (p.map eN)]
abbrev oP (p:List Nd):D:=.agg [.os (5,0) (p.map eN)]
abbrev rP (p:List Nd):D:=.op [.os (5,0) (p.map eN)]
def Du (p:List Nd):Prop:=∀x∈p,x.s.size<4611686018427387904
def Lh (p:List Nd):Nat->Nat->Bool
 |_,0=>true
 |i,k+1=>(match p[i]? with|some x=>okN x i|none=>true)&&Lh p (i+1) k
def Af (p:List Nd):Bool:=Lh p 0 p.length&&decide ((p.length:Int)<=3000)
theorem NT {p:List Nd}(hf:Du p)(hl:p.length<4611686018427387904):∀(k i:Nat),i+k=p.length->Gv (p.map eN) (ni (p.map eN).length) (i:Int) (p.map eN)=some (.bool (Lh p i k&&decide ((p.length:Int)<=3000)),[])
 |0,i,hi=>by
  rw[Kr,yp (by rw[lnM];exact zI (by omega)),lnM];rfl
 |k+1,i,hi=>by
  obtain⟨x,hx⟩:=yM (l:=p) (i:=i) (by omega)
  rw[Kr,y6 (by rw[lnM];exact zN (by omega)),zJ (by rw[lnM];exact zM (by omega)),Int.toNat_natCast,zj hx,MO,Z3 (VV (hf x (List.mem_of_getElem? hx)) (by omega) (by omega)),z6 (by omega),NT hf hl k (i+1) (by omega),Qn,Bool.not_not,<-Bool.and_assoc]
  simp only[Lh,hx]
theorem OI {p:List Nd}(hf:Du p)(hl:p.length<4611686018427387904):∀(k i:Nat),i+k=p.length->GB (i:Int) (p.map eN)=some (.bool (Lh p i k&&decide ((p.length:Int)<=3000)),[])
 |0,i,hi=>by
  rw[Kw,yp (by rw[lnM];exact zI (by omega)),lnM];rfl
 |k+1,i,hi=>by
  obtain⟨x,hx⟩:=yM (l:=p) (i:=i) (by omega)
  rw[Kw,y6 (by rw[lnM];exact zN (by omega)),zJ (by rw[lnM];exact zM (by omega)),Int.toNat_natCast,zj hx,MO,Z6 (aee (hf x (List.mem_of_getElem? hx)) (by omega) (by omega)),z6 (by omega),OI hf hl k (i+1) (by omega),Qn,Bool.not_not,<-Bool.and_assoc]
  simp only[Lh,hx]
theorem IG {p:List Nd}(hf:Du p)(hl:p.length<4611686018427387904):V 55 [eP p]=some (.bool (Af p),[]):=by
 rw[Xn];exact NT hf hl p.length 0 (Nat.zero_add _)
theorem Dt {p:List Nd}(hf:Du p)(hl:p.length<4611686018427387904):V 60 [eP p]=some (.bool (Af p),[]):=by
 rw[XD];exact OI hf hl p.length 0 (Nat.zero_add _)
end
end Go.Eng
/-! what is reached,on both sides -/
namespace Go.Eng
noncomputable section
open Go.Proofs Go.Proofs.Tryz

theorem acJ {α:Type}{l:List α}{p:α->Bool}:decide (zm p l>=0)=l.any p:=by
 unfold zm
 cases h:l.findIdx? p with
 |none=>
  have:=List.findIdx?_eq_none_iff.1 h
  symm
  simpa[List.any_eq_false]using this
 |some k=>
  have h2:l.any p=true:=by
   rw[List.findIdx?_eq_some_iff_getElem]at h
   obtain⟨hk,h3,_⟩:=h
   exact List.any_eq_true.2 ⟨l[k],List.getElem_mem hk,h3⟩
  rw[h2]
  simp

abbrev eI:Int->D:=D.int .i64
theorem wi_iff {n lo hi:Int}:wi n lo hi=true↔lo<=n/\n<=hi:=by simp[wi]

theorem UK {p:List Nd}:∀{k i j:Nat} {x:Nd},Lh p i k=true->i<=j->j<i+k->p[j]? = some x->okN x j=true
 |0,i,j,x,_,h1,h2,_=>by omega
 |k+1,i,j,x,h,h1,h2,hx=>by
  simp only[Lh,Bool.and_eq_true]at h
  by_cases e:i=j
  ·subst e;rw[hx]at h;exact h.1
  ·exact UK h.2 (by omega) (by omega) hx
theorem D6 {p:List Nd}(h:Af p=true){j:Nat}{x:Nd}(hx:p[j]? = some x):okN x j=true:=by
 simp only[Af,Bool.and_eq_true]at h
 exact UK h.1 (Nat.zero_le _) (by have:=aQ hx;omega) hx
theorem Aq {p:List Nd}(h:Af p=true):p.length<=3000:=by
 simp only[Af,Bool.and_eq_true,decide_eq_true_eq]at h;omega
theorem Az {x:Nd}{h:Int}(ho:okN x h=true)(hk:x.kind=5):0<=x.a/\x.a<h/\0<=x.b/\x.b<h:=by
 simp[okN,hk,wi]at ho;omega
theorem Bz {x:Nd}{h:Int}(ho:okN x h=true)(hk:x.kind=6\/x.kind=7):0<=x.a/\x.a<h:=by
 rcases hk with hk|hk<;>simp[okN,hk,wi]at ho<;>omega

def Ar (p:List Nd)(rs:List Int):Bool:=rs.all fun r=>wi r 0 ((p.length:Int)-1)
theorem Jh {p:List Nd}(hl:p.length<4611686018427387904)(r:Int):V 56 [eP p,iN r]=some (.bool (wi r 0 ((p.length:Int)-1)),[]):=by
 rw[Xr,AJ (AK _ _ _),lnM,w64 (by simp only[ni];omega) (by simp only[ni];omega)]
theorem KV {p:List Nd}(hl:p.length<4611686018427387904)(r:Int):V 61 [eP p,iN r]=some (.bool (wi r 0 ((p.length:Int)-1)),[]):=by
 rw[Zr,Cn (CR _ _ _),lnM,w64 (by simp only[ni];omega) (by simp only[ni];omega)]
theorem UX {p:List Nd}(hl:p.length<4611686018427387904){l:List Int}(h2:l.length<4611686018427387904):∀(k i:Nat),i+k=l.length->Dh (l.map eI) (p.map eN) (ni (l.map eI).length) (i:Int)=some (iN (d9 (fun r=>!wi r 0 ((p.length:Int)-1)) l i),[])
 |0,i,hi=>by
  rw[Gf,yp (by rw[lnM];exact zI (by omega)),ym (by omega)]
 |k+1,i,hi=>by
  obtain⟨x,hx⟩:=yM (l:=l) (i:=i) (by omega)
  have ih:=UX hl h2 k (i+1) (by omega)
  have hr:V 136 [iN x,.bp [.rs (5,0) (p.map eN)]]=some (.bool (!wi x 0 ((p.length:Int)-1)),[]):=by
   rw[aa1,Oh (Jh hl x)]
  rw[Gf,y6 (by rw[lnM];exact zN (by omega)),zJ (by rw[lnM];exact zM (by omega)),Int.toNat_natCast,zj hx,zq,UF hr]
  cases h:(!wi x 0 ((p.length:Int)-1)) with
  |true=>rw[zy,yn hx h]
  |false=>rw[y0,z6 (by omega),ih,ya hx h]
theorem ac5 {p:List Nd}(hf:Du p)(hl:p.length<4611686018427387904){l:List Int}(h2:l.length<4611686018427387904):V 65 [eP p,.rs (1,0) (l.map eI)]=some (.bool (Af p&&Ar p l),[]):=by
 have h:V 188 [.rs (1,0) (l.map eI),.fn 136 [.bp [.rs (5,0) (p.map eN)]]]=some (iN (zm (fun r=>!wi r 0 ((p.length:Int)-1)) l),[]):=by
  rw[PR,<-yb]
  exact UX hl h2 l.length 0 (Nat.zero_add _)
 have h3:V 135 [.rs (1,0) (l.map eI),.fn 136 [.bp [.rs (5,0) (p.map eN)]]]=some (.bool (l.any fun r=>!wi r 0 ((p.length:Int)-1)),[]):=by
  rw[Nk,JB h,acJ]
 rw[Vv,Sf (IG hf hl),GZ h3,AE]
 congr 3
 unfold Ar
 rw[List.any_eq_not_all_not,Bool.not_not]
 simp
def Bq (x:Nd)(m:List Bool):List Bool:=if x.kind=5 then (m.set x.a.toNat true).set x.b.toNat true else if x.kind=6\/x.kind=7 then m.set x.a.toNat true else m
def Bh (p:List Nd):Nat->List Bool->List Bool
 |0,m=>m
 |k+1,m=>Bh p k (match p[k]?,m[k]? with|some x,some true=>Bq x m|_,_=>m)
def M8 (rs:List Int)(m:List Bool):List Bool:=rs.foldl (fun m r=>m.set r.toNat true) m
def Bu (p:List Nd)(rs:List Int):List Bool:=Bh p p.length (M8 rs (List.replicate p.length false))
theorem Pu (x:Nd)(m:List Bool):(Bq x m).length=m.length:=by
 unfold Bq
 split
 ·simp
 ·split<;>simp
theorem Ot {p:List Nd}:∀(k:Nat) (m:List Bool),(Bh p k m).length=m.length
 |0,m=>rfl
 |k+1,m=>by
  simp only[Bh]
  rw[Ot k]
  split
  ·exact Pu _ _
  ·rfl
theorem Lk:∀(rs:List Int)(m:List Bool),(M8 rs m).length=m.length
 |[],m=>rfl
 |r::rs,m=>by
  have:=Lk rs (m.set r.toNat true)
  simpa[M8]using this
theorem D0 {n:Int}{l:Nat}(h0:0<=n)(h1:n<l):(decide (0<=n)&&decide (n<ni l))=true:=by
 simp only[ni,Bool.and_eq_true,decide_eq_true_eq];omega
theorem Gc {α:Type}{l:List α}{n:Int}(h0:0<=n)(h1:n<l.length):∃x,l[n.toNat]? = some x:=yM (by omega)
theorem Iz {m:List Bool}{j:Nat}:List.set (m.map D.bool) j (D.bool true)=(m.set j true).map D.bool:=by rw[List.map_set]

theorem CY {p:List Nd}(hp:Af p=true):∀(k:Nat) (m:List Bool) (i:Int),i=(k:Int)-1->k<=p.length->m.length=p.length->Cr i (p.map eN) (m.map D.bool)=some (.os (1,0) ((Bh p k m).map D.bool),[])
 |0,m,i,hi,hk,hm=>by
  rw[Lp,yp (decide_eq_false (by omega))];rfl
 |k+1,m,i,hi,hk,hm=>by
  have hl:=Aq hp
  have ei:i=(k:Int):=by omega
  subst ei
  obtain⟨x,hx⟩:=yM (l:=p) (i:=k) (by omega)
  obtain⟨b,hb⟩:=yM (l:=m) (i:=k) (by omega)
  have ho:=D6 hp hx
  have hw:w6 ((k:Int)-1)=(k:Int)-1:=w64 (by omega) (by omega)
  rw[Lp,y6 (decide_eq_true (by omega)),zJ (by rw[lnM];exact zM (by omega)),Int.toNat_natCast,zj hb,yZ,hw]
  simp only[Bh,hx,hb]
  cases b with
  |false=>rw[Bool.not_false,zy];exact CY hp k m _ rfl (by omega) hm
  |true=>
   show _=some (D.os (1,0) ((Bh p k (Bq x m)).map D.bool),[])
   rw[Bool.not_true,y0,zJ (by rw[lnM];exact zM (by omega)),zj hx,MO]
   by_cases h5:x.kind=5
   ·obtain⟨a0,a1,b0,b1⟩:=Az ho h5
    obtain⟨u,hu⟩:=Gc (l:=m) (n:=x.a) a0 (by omega)
    obtain⟨v,hv⟩:=Gc (l:=m.set x.a.toNat true) (n:=x.b) b0 (by simp;omega)
    rw[y6 (by simp[h5]),zJ (by rw[List.length_map];exact D0 a0 (by omega)),zj hu,zO,Iz,zJ (by rw[List.length_map];exact D0 b0 (by simp;omega)),zj hv,zO,Iz]
    simp only[Bq,h5,if_true]
    exact CY hp k _ _ rfl (by omega) (by simp;omega)
   rw[yp (by simp[h5])]
   by_cases h6:x.kind=6
   ·obtain⟨a0,a1⟩:=Bz ho (.inl h6)
    obtain⟨u,hu⟩:=Gc (l:=m) (n:=x.a) a0 (by omega)
    rw[y6 (by simp[h6]),y6 (by simp[h6]),zJ (by rw[List.length_map];exact D0 a0 (by omega)),zj hu,zO,Iz]
    have e:Bq x m=m.set x.a.toNat true:=by simp[Bq,h6]
    rw[e]
    exact CY hp k _ _ rfl (by omega) (by simp;omega)
   rw[yp (by simp[h6])]
   by_cases h7:x.kind=7
   ·obtain⟨a0,a1⟩:=Bz ho (.inr h7)
    obtain⟨u,hu⟩:=Gc (l:=m) (n:=x.a) a0 (by omega)
    rw[y6 (by simp[h7]),zJ (by rw[List.length_map];exact D0 a0 (by omega)),zj hu,zO,Iz]
    have e:Bq x m=m.set x.a.toNat true:=by simp[Bq,h7]
    rw[e]
    exact CY hp k _ _ rfl (by omega) (by simp;omega)
   rw[yp (by simp[h7])]
   have e:Bq x m=m:=by simp[Bq,h5,h6,h7]
   rw[e]
   exact CY hp k _ _ rfl (by omega) hm
theorem Dg {p:List Nd}(hp:Af p=true):∀(k:Nat) (m:List Bool) (i:Int),i=(k:Int)-1->k<=p.length->m.length=p.length->BG i (p.map eN) (m.map D.bool)=some (.os (1,0) ((Bh p k m).map D.bool),[])
 |0,m,i,hi,hk,hm=>by
  rw[JR,yp (decide_eq_false (by omega))];rfl
 |k+1,m,i,hi,hk,hm=>by
  have hl:=Aq hp
  have ei:i=(k:Int):=by omega
  subst ei
  obtain⟨x,hx⟩:=yM (l:=p) (i:=k) (by omega)
  obtain⟨b,hb⟩:=yM (l:=m) (i:=k) (by omega)
  have ho:=D6 hp hx
  have hw:w6 ((k:Int)-1)=(k:Int)-1:=w64 (by omega) (by omega)
  rw[JR,y6 (decide_eq_true (by omega)),zJ (by rw[lnM];exact zM (by omega)),Int.toNat_natCast,zj hx,MO,zJ (by rw[lnM];exact zM (by omega)),zj hb,yZ,hw]
  simp only[Bh,hx,hb]
  cases b with
  |false=>rw[Bool.not_false,zy];exact Dg hp k m _ rfl (by omega) hm
  |true=>
   show _=some (D.os (1,0) ((Bh p k (Bq x m)).map D.bool),[])
   rw[Bool.not_true,y0]
   by_cases h5:x.kind=5
   ·obtain⟨a0,a1,b0,b1⟩:=Az ho h5
    obtain⟨u,hu⟩:=Gc (l:=m) (n:=x.a) a0 (by omega)
    obtain⟨v,hv⟩:=Gc (l:=m.set x.a.toNat true) (n:=x.b) b0 (by simp;omega)
    rw[y6 (by simp[h5]),zJ (by rw[List.length_map];exact D0 a0 (by omega)),zj hu,zO,Iz,zJ (by rw[List.length_map];exact D0 b0 (by simp;omega)),zj hv,zO,Iz]
    simp only[Bq,h5,if_true]
    exact Dg hp k _ _ rfl (by omega) (by simp;omega)
   rw[yp (by simp[h5])]
   by_cases h6:x.kind=6
   ·obtain⟨a0,a1⟩:=Bz ho (.inl h6)
    obtain⟨u,hu⟩:=Gc (l:=m) (n:=x.a) a0 (by omega)
    rw[y6 (by simp[h6]),y6 (by simp[h6]),zJ (by rw[List.length_map];exact D0 a0 (by omega)),zj hu,zO,Iz]
    have e:Bq x m=m.set x.a.toNat true:=by simp[Bq,h6]
    rw[e]
    exact Dg hp k _ _ rfl (by omega) (by simp;omega)
   rw[yp (by simp[h6])]
   by_cases h7:x.kind=7
   ·obtain⟨a0,a1⟩:=Bz ho (.inr h7)
    obtain⟨u,hu⟩:=Gc (l:=m) (n:=x.a) a0 (by omega)
    rw[y6 (by simp[h7]),zJ (by rw[List.length_map];exact D0 a0 (by omega)),zj hu,zO,Iz]
    have e:Bq x m=m.set x.a.toNat true:=by simp[Bq,h7]
    rw[e]
    exact Dg hp k _ _ rfl (by omega) (by simp;omega)
   rw[yp (by simp[h7])]
   have e:Bq x m=m:=by simp[Bq,h5,h6,h7]
   rw[e]
   exact Dg hp k _ _ rfl (by omega) hm

theorem NK {p:List Nd}(hp:Af p=true){l:List Int}(h2:l.length<4611686018427387904)(hr:Ar p l=true):∀(k i:Nat) (m:List Bool),i+k=l.length->m.length=p.length->FH (l.map eI) (ni (l.map eI).length) (i:Int) (p.map eN) (m.map D.bool)=some (.os (1,0) ((Bh p p.length (M8 (l.drop i) m)).map D.bool),[])
 |0,i,m,hi,hm=>by
  have hl:=Aq hp
  rw[Ln,yp (by rw[lnM];exact zI (by omega)),List.drop_of_length_le (by omega),lnM,w64 (by simp only[ni];omega) (by simp only[ni];omega)]
  exact CY hp p.length m _ rfl (Nat.le_refl _) hm
 |k+1,i,m,hi,hm=>by
  obtain⟨x,hx⟩:=yM (l:=l) (i:=i) (by omega)
  have hx2:=wi_iff.1 (List.all_eq_true.1 hr x (List.mem_of_getElem? hx))
  obtain⟨u,hu⟩:=Gc (l:=m) (n:=x) hx2.1 (by omega)
  rw[Ln,y6 (by rw[lnM];exact zN (by omega)),zJ (by rw[lnM];exact zM (by omega)),Int.toNat_natCast,zj hx,zq,zJ (by rw[lnM];exact D0 hx2.1 (by omega)),zj hu,zO,Iz,z6 (by omega),vc hx]
  exact NK hp h2 hr k (i+1) _ (by omega) (by simp;omega)
theorem OD {p:List Nd}(hp:Af p=true){l:List Int}(h2:l.length<4611686018427387904)(hr:Ar p l=true):∀(k i:Nat) (m:List Bool),i+k=l.length->m.length=p.length->Ee (l.map eI) (i:Int) (p.map eN) (m.map D.bool)=some (.os (1,0) ((Bh p p.length (M8 (l.drop i) m)).map D.bool),[])
 |0,i,m,hi,hm=>by
  have hl:=Aq hp
  rw[JQ,yp (by rw[lnM];exact zI (by omega)),List.drop_of_length_le (by omega),lnM,w64 (by simp only[ni];omega) (by simp only[ni];omega)]
  exact Dg hp p.length m _ rfl (Nat.le_refl _) hm
 |k+1,i,m,hi,hm=>by
  obtain⟨x,hx⟩:=yM (l:=l) (i:=i) (by omega)
  have hx2:=wi_iff.1 (List.all_eq_true.1 hr x (List.mem_of_getElem? hx))
  obtain⟨u,hu⟩:=Gc (l:=m) (n:=x) hx2.1 (by omega)
  rw[JQ,y6 (by rw[lnM];exact zN (by omega)),zJ (by rw[lnM];exact zM (by omega)),Int.toNat_natCast,zj hx,zq,zJ (by rw[lnM];exact D0 hx2.1 (by omega)),zj hu,zO,Iz,z6 (by omega),vc hx]
  exact OD hp h2 hr k (i+1) _ (by omega) (by simp;omega)
theorem Tn {α:Type}{f:α->D}{l:List α}(h:l.length<=4294967296):(decide (0<=ni (l.map f).length)&&decide (ni (l.map f).length<=LIM))=true:=by
 rw[Bool.and_eq_true]
 exact⟨decide_eq_true (by simp only[ni];omega),decide_eq_true (by rw[qA,lnM];simp only[ni];omega)⟩
theorem WS {n:Nat}:List.replicate (Int.toNat (ni n)) (D.bool false)=(List.replicate n false).map D.bool:=by simp[ni]
theorem ae8 {p:List Nd}(hp:Af p=true){l:List Int}(h2:l.length<4611686018427387904)(hr:Ar p l=true):V 189 [eP p,.rs (1,0) (l.map eI)]=some (.os (1,0) ((Bu p l).map D.bool),[]):=by
 have hl:=Aq hp
 have h:FH (l.map eI) (ni (l.map eI).length) 0 (p.map eN) ((List.replicate p.length false).map D.bool)=_:=NK hp h2 hr l.length 0 _ (Nat.zero_add _) (by simp)
 have e:(p.map eN).length=p.length:=lnM _
 rw[Zk,zJ (Tn (by omega)),WS,e,h];rfl
theorem ac2 {p:List Nd}(hp:Af p=true){l:List Int}(h2:l.length<4611686018427387904)(hr:Ar p l=true):V 149 [eP p,.rs (1,0) (l.map eI)]=some (.os (1,0) ((Bu p l).map D.bool),[]):=by
 have hl:=Aq hp
 have h:Ee (l.map eI) 0 (p.map eN) ((List.replicate p.length false).map D.bool)=_:=OD hp h2 hr l.length 0 _ (Nat.zero_add _) (by simp)
 have e:(p.map eN).length=p.length:=lnM _
 rw[VJ,zJ (Tn (by omega)),WS,e,h];rfl
end
end Go.Eng
