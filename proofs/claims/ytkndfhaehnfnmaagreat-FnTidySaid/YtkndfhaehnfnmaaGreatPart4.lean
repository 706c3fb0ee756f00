/- the program and the reference on plain data, part 4 -/
import Derived.Test.YtkndfhaehnfnmaaGreatPart1
import Derived.Test.YtkndfhaehnfnmaaGreatPart2
import Derived.Test.YtkndfhaehnfnmaaGreatPart3
import Derived.Test.YtkndfhaehnfnmaaGreatEngC
/-! sizes told: printed by mkz.py -/
namespace Go.Eng
open Go.Proofs Go.Proofs.Tryz
set_option maxHeartbeats 4000000
set_option maxRecDepth 100000

theorem sz3 : TypeInfo.size (Tables.types (Program.toTables Tryz.prog))[3] = 1 := by kernel_rfl
theorem fl3 : qU Tryz.prog (3) = true := by kernel_rfl

theorem zk (p0 : ByteArray) (p1 : Nat) (p2 : Int) (p3 : List D) (p4 : List D) (p5 : List D) (p6 : List D) : y4 p0 p1 p2 p3 p4 p5 p6 =
 br (decide (p2 < ni (ByteArray.size p0)))
  (
  grd (decide (0 <= p2) && decide (p2 < ni (ByteArray.size p0))) (br (bt p0 p2 == 32)
  (y4 p0 p1 (w6 (p2 + 1)) p3 p4 p5 p6)
  (
   br (bt p0 p2 == 40)
   (grd (decide
 (ni
   (List.length
    (part p5 (some (0,p1)) ++
     [D.agg
       [iN p2,
        D.os
         (1,0)
         []]])) <=
  LIM)) (nam (part p5 (some (0,p1)) ++
 [D.agg
   [iN p2,
    D.os
     (1,0)
     []]]) fun a =>
   y8 p0 (w6 (p2 + 1)) p3 p4 a p6))
   (
   br (bt p0 p2 == 41)
   (
    br (w6 (ni p1 - 1) == 0)
    (
    jb V 147 [(.agg [(.rs (5,0) p3)])] fun a b =>
    asAgg a fun c => unc c fun d e => jl (5,0) d fun f => unn e (unn b (some ((.tup [(.agg [(.os (5,0) f)]),(.os (1,0) p4),(iN (5)),(iN p2)]),[]))))
    (
    grd (decide (0 <= w6 (ni p1 - 1)) && decide (w6 (ni p1 - 1) < ni p1) && decide (0 + p1 <= List.length p5)) (cT p5 (0 + Int.toNat (w6 (ni p1 - 1))) fun a =>
    asAgg a fun b => cT b 1 fun c =>
     jl (1,0) c fun d => asAgg a fun e => jb V 210 [(.op [(.os (5,0) p6)]),(.rs (1,0) d)] fun f g =>
       asI .i64 f fun h => unc g fun i j => nC i fun k => unc k fun l m => jl (5,0) l fun n => unn m (unn j (grd (gW p1 (List.length (List.set p5 (0 + Int.toNat (w6 (ni p1 - 1))) (D.agg (List.take 1 e ++ [D.dead] ++ List.drop 2 e))) - 0) none (some (w6 (ni p1 - 1)))) (grd (decide (0 <= w6 (w6 (ni p1 - 1) - 1)) && decide (w6 (w6 (ni p1 - 1) - 1) < ni (Int.toNat (w6 (ni p1 - 1)))) && decide (0 + Int.toNat (w6 (ni p1 - 1)) <= List.length (List.set p5 (0 + Int.toNat (w6 (ni p1 - 1))) (D.agg (List.take 1 e ++ [D.dead] ++ List.drop 2 e))))) (cT (List.set p5 (0 + Int.toNat (w6 (ni p1 - 1))) (D.agg (List.take 1 e ++ [D.dead] ++ List.drop 2 e))) (0 + Int.toNat (w6 (w6 (ni p1 - 1) - 1))) fun o =>
          asAgg o fun p => cT p 1 fun q =>
           jl (1,0) q fun r => asAgg o fun s => grd (decide (ni (List.length (r ++ [iN h])) <= LIM)) (nam (r ++ [iN h]) fun t =>
            grd (decide (0 <= w6 (w6 (ni p1 - 1) - 1)) && decide (w6 (w6 (ni p1 - 1) - 1) < ni (Int.toNat (w6 (ni p1 - 1)))) && decide (0 + Int.toNat (w6 (ni p1 - 1)) <= List.length (List.set (List.set p5 (0 + Int.toNat (w6 (ni p1 - 1))) (D.agg (List.take 1 e ++ [D.dead] ++ List.drop 2 e))) (0 + Int.toNat (w6 (w6 (ni p1 - 1) - 1))) (D.agg (List.take 1 s ++ [D.dead] ++ List.drop 2 s))))) (cT (List.set (List.set p5 (0 + Int.toNat (w6 (ni p1 - 1))) (D.agg (List.take 1 e ++ [D.dead] ++ List.drop 2 e))) (0 + Int.toNat (w6 (w6 (ni p1 - 1) - 1))) (D.agg (List.take 1 s ++ [D.dead] ++ List.drop 2 s))) (0 + Int.toNat (w6 (w6 (ni p1 - 1) - 1))) fun u =>
             asAgg u fun v => nam (List.set (List.set (List.set p5 (0 + Int.toNat (w6 (ni p1 - 1))) (D.agg (List.take 1 e ++ [D.dead] ++ List.drop 2 e))) (0 + Int.toNat (w6 (w6 (ni p1 - 1) - 1))) (D.agg (List.take 1 s ++ [D.dead] ++ List.drop 2 s))) (0 + Int.toNat (w6 (w6 (ni p1 - 1) - 1)))
 (D.agg
  (List.take 1 v ++
    [D.os
      (1,0)
      t] ++
   List.drop 2 v))) fun w =>
              y4 p0 (Int.toNat (w6 (ni p1 - 1))) (w6 (p2 + 1)) p3 p4 w n)))))))))
   (
    jb V 211 [(.int .u8 (bt p0 p2))] fun a b =>
    asB a fun c => unn b (br c
     (zJ p0 p1 p2 (w6 (ni p1 - 1)) p2 p3 p4 p5 p6)
     (
     jb V 147 [(.agg [(.rs (5,0) p3)])] fun d e =>
     asAgg d fun f => unc f fun g h => jl (5,0) g fun i => unn h (unn e (some ((.tup [(.agg [(.os (5,0) i)]),(.os (1,0) p4),(iN (2)),(iN p2)]),[]))))))))))
  (
  br (decide (ni p1 > 1))
  (
   jb V 147 [(.agg [(.rs (5,0) p3)])] fun a b =>
   asAgg a fun c => unc c fun d e => jl (5,0) d fun f => unn e (unn b (grd (decide (0 <= w6 (ni p1 - 1)) && decide (w6 (ni p1 - 1) < ni p1) && decide (0 + p1 <= List.length p5)) (cT p5 (0 + Int.toNat (w6 (ni p1 - 1))) fun g =>
     asAgg g fun h => cT h 0 fun i =>
      asI .i64 i fun j => some ((.tup [(.agg [(.os (5,0) f)]),(.os (1,0) p4),(iN (4)),(iN j)]),[])))))
  (
   jb V 60 [(.agg [(.rs (5,0) p6)])] fun a b =>
   asB a fun c => unn b (br (!c)
    (
    jb V 147 [(.agg [(.rs (5,0) p3)])] fun d e =>
    asAgg d fun f => unc f fun g h => jl (5,0) g fun i => unn h (unn e (some ((.tup [(.agg [(.os (5,0) i)]),(.os (1,0) p4),(iN (6)),(iN (0))]),[]))))
    (
    grd (decide (0 <= 0) && decide (0 < ni p1) && decide (0 + p1 <= List.length p5)) (cT p5 0 fun d =>
    asAgg d fun e => cT e 1 fun f =>
     jl (1,0) f fun g => asAgg d fun _ => grd (decide (ni (List.length ([] ++ g)) <= LIM)) (nam ([] ++ g) fun h =>
       some ((.tup [(.agg [(.os (5,0) p6)]),(.os (1,0) h),(iN (0)),(iN (ni (ByteArray.size p0)))]),[]))))))) := by
 have h := JD p0 p1 p2 p3 p4 p5 p6
 simp only [sz3,fl3] at h
 exact h
theorem zt (p0 : ByteArray) (p1 : Int) (p2 : List D) (p3 : List D) (p4 : List D) (p5 : List D) : y8 p0 p1 p2 p3 p4 p5 =
 br (decide (p1 < ni (ByteArray.size p0)))
  (
  grd (decide (0 <= p1) && decide (p1 < ni (ByteArray.size p0))) (br (bt p0 p1 == 32)
  (y8 p0 (w6 (p1 + 1)) p2 p3 p4 p5)
  (
   br (bt p0 p1 == 40)
   (grd (decide
 (ni
   (List.length
    (p4 ++
     [D.agg
       [iN p1,
        D.os
         (1,0)
         []]])) <=
  LIM)) (nam (p4 ++
 [D.agg
   [iN p1,
    D.os
     (1,0)
     []]]) fun a =>
   y8 p0 (w6 (p1 + 1)) p2 p3 a p5))
   (
   br (bt p0 p1 == 41)
   (
    br (w6 (ni p4.length - 1) == 0)
    (
    jb V 147 [(.agg [(.rs (5,0) p2)])] fun a b =>
    asAgg a fun c => unc c fun d e => jl (5,0) d fun f => unn e (unn b (some ((.tup [(.agg [(.os (5,0) f)]),(.os (1,0) p3),(iN (5)),(iN p1)]),[]))))
    (
    grd (decide (0 <= w6 (ni p4.length - 1)) && decide (w6 (ni p4.length - 1) < ni p4.length)) (cT p4 (Int.toNat (w6 (ni p4.length - 1))) fun a =>
    asAgg a fun b => cT b 1 fun c =>
     jl (1,0) c fun d => asAgg a fun e => jb V 210 [(.op [(.os (5,0) p5)]),(.rs (1,0) d)] fun f g =>
       asI .i64 f fun h => unc g fun i j => nC i fun k => unc k fun l m => jl (5,0) l fun n => unn m (unn j (grd (cW (List.length (List.set p4 (Int.toNat (w6 (ni p4.length - 1))) (D.agg (List.take 1 e ++ [D.dead] ++ List.drop 2 e)))) none (some (w6 (ni p4.length - 1)))) (grd (decide (0 <= w6 (w6 (ni p4.length - 1) - 1)) && decide (w6 (w6 (ni p4.length - 1) - 1) < ni (Int.toNat (w6 (ni p4.length - 1)))) && decide (0 + Int.toNat (w6 (ni p4.length - 1)) <= List.length (List.set p4 (Int.toNat (w6 (ni p4.length - 1))) (D.agg (List.take 1 e ++ [D.dead] ++ List.drop 2 e))))) (cT (List.set p4 (Int.toNat (w6 (ni p4.length - 1))) (D.agg (List.take 1 e ++ [D.dead] ++ List.drop 2 e))) (0 + Int.toNat (w6 (w6 (ni p4.length - 1) - 1))) fun o =>
          asAgg o fun p => cT p 1 fun q =>
           jl (1,0) q fun r => asAgg o fun s => grd (decide (ni (List.length (r ++ [iN h])) <= LIM)) (nam (r ++ [iN h]) fun t =>
            grd (decide (0 <= w6 (w6 (ni p4.length - 1) - 1)) && decide (w6 (w6 (ni p4.length - 1) - 1) < ni (Int.toNat (w6 (ni p4.length - 1)))) && decide (0 + Int.toNat (w6 (ni p4.length - 1)) <= List.length (List.set (List.set p4 (Int.toNat (w6 (ni p4.length - 1))) (D.agg (List.take 1 e ++ [D.dead] ++ List.drop 2 e))) (0 + Int.toNat (w6 (w6 (ni p4.length - 1) - 1))) (D.agg (List.take 1 s ++ [D.dead] ++ List.drop 2 s))))) (cT (List.set (List.set p4 (Int.toNat (w6 (ni p4.length - 1))) (D.agg (List.take 1 e ++ [D.dead] ++ List.drop 2 e))) (0 + Int.toNat (w6 (w6 (ni p4.length - 1) - 1))) (D.agg (List.take 1 s ++ [D.dead] ++ List.drop 2 s))) (0 + Int.toNat (w6 (w6 (ni p4.length - 1) - 1))) fun u =>
             asAgg u fun v => nam (List.set (List.set (List.set p4 (Int.toNat (w6 (ni p4.length - 1))) (D.agg (List.take 1 e ++ [D.dead] ++ List.drop 2 e))) (0 + Int.toNat (w6 (w6 (ni p4.length - 1) - 1))) (D.agg (List.take 1 s ++ [D.dead] ++ List.drop 2 s))) (0 + Int.toNat (w6 (w6 (ni p4.length - 1) - 1)))
 (D.agg
  (List.take 1 v ++
    [D.os
      (1,0)
      t] ++
   List.drop 2 v))) fun w =>
              y4 p0 (Int.toNat (w6 (ni p4.length - 1))) (w6 (p1 + 1)) p2 p3 w n)))))))))
   (
    jb V 211 [(.int .u8 (bt p0 p1))] fun a b =>
    asB a fun c => unn b (br c
     (Ac p0 p1 (w6 (ni p4.length - 1)) p1 p2 p3 p4 p5)
     (
     jb V 147 [(.agg [(.rs (5,0) p2)])] fun d e =>
     asAgg d fun f => unc f fun g h => jl (5,0) g fun i => unn h (unn e (some ((.tup [(.agg [(.os (5,0) i)]),(.os (1,0) p3),(iN (2)),(iN p1)]),[]))))))))))
  (
  br (decide (ni p4.length > 1))
  (
   jb V 147 [(.agg [(.rs (5,0) p2)])] fun a b =>
   asAgg a fun c => unc c fun d e => jl (5,0) d fun f => unn e (unn b (grd (decide (0 <= w6 (ni p4.length - 1)) && decide (w6 (ni p4.length - 1) < ni p4.length)) (cT p4 (Int.toNat (w6 (ni p4.length - 1))) fun g =>
     asAgg g fun h => cT h 0 fun i =>
      asI .i64 i fun j => some ((.tup [(.agg [(.os (5,0) f)]),(.os (1,0) p3),(iN (4)),(iN j)]),[])))))
  (
   jb V 60 [(.agg [(.rs (5,0) p5)])] fun a b =>
   asB a fun c => unn b (br (!c)
    (
    jb V 147 [(.agg [(.rs (5,0) p2)])] fun d e =>
    asAgg d fun f => unc f fun g h => jl (5,0) g fun i => unn h (unn e (some ((.tup [(.agg [(.os (5,0) i)]),(.os (1,0) p3),(iN (6)),(iN (0))]),[]))))
    (
    grd (decide (0 <= 0) && decide (0 < ni p4.length)) (cT p4 0 fun d =>
    asAgg d fun e => cT e 1 fun f =>
     jl (1,0) f fun g => asAgg d fun _ => grd (decide (ni (List.length ([] ++ g)) <= LIM)) (nam ([] ++ g) fun h =>
       some ((.tup [(.agg [(.os (5,0) p5)]),(.os (1,0) h),(iN (0)),(iN (ni (ByteArray.size p0)))]),[]))))))) := by
 have h := Lm p0 p1 p2 p3 p4 p5
 simp only [sz3,fl3] at h
 exact h
theorem Fp (p0 : ByteArray) (p1 : Int) (p2 : Int) (p3 : Int) (p4 : List D) (p5 : List D) (p6 : List D) (p7 : List D) : Ac p0 p1 p2 p3 p4 p5 p6 p7 =
 br (decide (p1 < ni (ByteArray.size p0)))
  (
  grd (decide (0 <= p1) && decide (p1 < ni (ByteArray.size p0))) (jb V 211 [(.int .u8 (bt p0 p1))] fun a b =>
  asB a fun c => unn b (br c
   (Ac p0 (w6 (p1 + 1)) p2 p3 p4 p5 p6 p7)
   (
    grd (cW (ByteArray.size p0) (some p3) (some p1)) (jb V 212 [(.str (ByteArray.extract p0 p3.toNat p1.toNat))] fun d e =>
    iV d fun f => unc f fun g h => tk1 g fun i j k l m => (unc h fun n o => asB n fun p => unn o (unn e (br (!p)
            (
            jb V 147 [(.agg [(.rs (5,0) p4)])] fun q r =>
            asAgg q fun s => unc s fun t u => jl (5,0) t fun v => unn u (unn r (some ((.tup [(.agg [(.os (5,0) v)]),(.os (1,0) p5),(iN (3)),(iN p3)]),[]))))
            (
            grd (decide (0 <= p2) && decide (p2 < ni p6.length)) (cT p6 p2.toNat fun q =>
            asAgg q fun r => cT r 1 fun s =>
             jl (1,0) s fun t => asAgg q fun u => jb V 158 [(.op [(.os (5,0) p7)]),(.agg [(iN i),(iN j),(.str k),(iN l),(iN m)])] fun v w =>
               asI .i64 v fun x => unc w fun y z => nC y fun A => unc A fun B C => jl (5,0) B fun E => unn C (unn z (grd (decide (ni (List.length (t ++ [iN x])) <= LIM)) (nam (t ++ [iN x]) fun F =>
                  grd (decide (0 <= p2) && decide (p2 < ni (List.length (List.set p6 p2.toNat (D.agg (List.take 1 u ++ [D.dead] ++ List.drop 2 u)))))) (cT (List.set p6 p2.toNat (D.agg (List.take 1 u ++ [D.dead] ++ List.drop 2 u))) p2.toNat fun G =>
                  asAgg G fun H => nam (List.set (List.set p6 p2.toNat (D.agg (List.take 1 u ++ [D.dead] ++ List.drop 2 u))) p2.toNat
 (D.agg
  (List.take 1 H ++
    [D.os
      (1,0)
      F] ++
   List.drop 2 H))) fun I =>
                   y8 p0 p1 p4 p5 I E))))))))))))))
  (
  grd (cW (ByteArray.size p0) (some p3) (some p1)) (jb V 212 [(.str (ByteArray.extract p0 p3.toNat p1.toNat))] fun a b =>
  iV a fun c => unc c fun d e => tk1 d fun f g h i j => (unc e fun k l => asB k fun m => unn l (unn b (br (!m)
          (
           jb V 147 [(.agg [(.rs (5,0) p4)])] fun n o =>
           asAgg n fun p => unc p fun q r => jl (5,0) q fun s => unn r (unn o (some ((.tup [(.agg [(.os (5,0) s)]),(.os (1,0) p5),(iN (3)),(iN p3)]),[]))))
          (
           grd (decide (0 <= p2) && decide (p2 < ni p6.length)) (cT p6 p2.toNat fun n =>
           asAgg n fun o => cT o 1 fun p =>
            jl (1,0) p fun q => asAgg n fun r => jb V 158 [(.op [(.os (5,0) p7)]),(.agg [(iN f),(iN g),(.str h),(iN i),(iN j)])] fun s t =>
             asI .i64 s fun u => unc t fun v w => nC v fun x => unc x fun y z => jl (5,0) y fun A => unn z (unn w (grd (decide (ni (List.length (q ++ [iN u])) <= LIM)) (nam (q ++ [iN u]) fun B =>
                grd (decide (0 <= p2) && decide (p2 < ni (List.length (List.set p6 p2.toNat (D.agg (List.take 1 r ++ [D.dead] ++ List.drop 2 r)))))) (cT (List.set p6 p2.toNat (D.agg (List.take 1 r ++ [D.dead] ++ List.drop 2 r))) p2.toNat fun C =>
                 asAgg C fun E => nam (List.set (List.set p6 p2.toNat (D.agg (List.take 1 r ++ [D.dead] ++ List.drop 2 r))) p2.toNat
 (D.agg
  (List.take 1 E ++
    [D.os
      (1,0)
      B] ++
   List.drop 2 E))) fun F =>
                  y8 p0 p1 p4 p5 F A))))))))))) := by
 have h := Kn p0 p1 p2 p3 p4 p5 p6 p7
 simp only [sz3,fl3] at h
 exact h
theorem Dq (p0 : ByteArray) (p1 : Nat) (p2 : Int) (p3 : Int) (p4 : Int) (p5 : List D) (p6 : List D) (p7 : List D) (p8 : List D) : zJ p0 p1 p2 p3 p4 p5 p6 p7 p8 =
 br (decide (p2 < ni (ByteArray.size p0)))
  (
  grd (decide (0 <= p2) && decide (p2 < ni (ByteArray.size p0))) (jb V 211 [(.int .u8 (bt p0 p2))] fun a b =>
  asB a fun c => unn b (br c
   (zJ p0 p1 (w6 (p2 + 1)) p3 p4 p5 p6 p7 p8)
   (
    grd (cW (ByteArray.size p0) (some p4) (some p2)) (jb V 212 [(.str (ByteArray.extract p0 p4.toNat p2.toNat))] fun d e =>
    iV d fun f => unc f fun g h => tk1 g fun i j k l m => (unc h fun n o => asB n fun p => unn o (unn e (br (!p)
            (
            jb V 147 [(.agg [(.rs (5,0) p5)])] fun q r =>
            asAgg q fun s => unc s fun t u => jl (5,0) t fun v => unn u (unn r (some ((.tup [(.agg [(.os (5,0) v)]),(.os (1,0) p6),(iN (3)),(iN p4)]),[]))))
            (
            grd (decide (0 <= p3) && decide (p3 < ni p1) && decide (0 + p1 <= List.length p7)) (cT p7 (0 + Int.toNat p3) fun q =>
            asAgg q fun r => cT r 1 fun s =>
             jl (1,0) s fun t => asAgg q fun u => jb V 158 [(.op [(.os (5,0) p8)]),(.agg [(iN i),(iN j),(.str k),(iN l),(iN m)])] fun v w =>
               asI .i64 v fun x => unc w fun y z => nC y fun A => unc A fun B C => jl (5,0) B fun E => unn C (unn z (grd (decide (ni (List.length (t ++ [iN x])) <= LIM)) (nam (t ++ [iN x]) fun F =>
                  grd (decide (0 <= p3) && decide (p3 < ni p1) && decide (0 + p1 <= List.length (List.set p7 (0 + Int.toNat p3) (D.agg (List.take 1 u ++ [D.dead] ++ List.drop 2 u))))) (cT (List.set p7 (0 + Int.toNat p3) (D.agg (List.take 1 u ++ [D.dead] ++ List.drop 2 u))) (0 + Int.toNat p3) fun G =>
                  asAgg G fun H => nam (List.set (List.set p7 (0 + Int.toNat p3) (D.agg (List.take 1 u ++ [D.dead] ++ List.drop 2 u))) (0 + Int.toNat p3)
 (D.agg
  (List.take 1 H ++
    [D.os
      (1,0)
      F] ++
   List.drop 2 H))) fun I =>
                   y4 p0 p1 p2 p5 p6 I E))))))))))))))
  (
  grd (cW (ByteArray.size p0) (some p4) (some p2)) (jb V 212 [(.str (ByteArray.extract p0 p4.toNat p2.toNat))] fun a b =>
  iV a fun c => unc c fun d e => tk1 d fun f g h i j => (unc e fun k l => asB k fun m => unn l (unn b (br (!m)
          (
           jb V 147 [(.agg [(.rs (5,0) p5)])] fun n o =>
           asAgg n fun p => unc p fun q r => jl (5,0) q fun s => unn r (unn o (some ((.tup [(.agg [(.os (5,0) s)]),(.os (1,0) p6),(iN (3)),(iN p4)]),[]))))
          (
           grd (decide (0 <= p3) && decide (p3 < ni p1) && decide (0 + p1 <= List.length p7)) (cT p7 (0 + Int.toNat p3) fun n =>
           asAgg n fun o => cT o 1 fun p =>
            jl (1,0) p fun q => asAgg n fun r => jb V 158 [(.op [(.os (5,0) p8)]),(.agg [(iN f),(iN g),(.str h),(iN i),(iN j)])] fun s t =>
             asI .i64 s fun u => unc t fun v w => nC v fun x => unc x fun y z => jl (5,0) y fun A => unn z (unn w (grd (decide (ni (List.length (q ++ [iN u])) <= LIM)) (nam (q ++ [iN u]) fun B =>
                grd (decide (0 <= p3) && decide (p3 < ni p1) && decide (0 + p1 <= List.length (List.set p7 (0 + Int.toNat p3) (D.agg (List.take 1 r ++ [D.dead] ++ List.drop 2 r))))) (cT (List.set p7 (0 + Int.toNat p3) (D.agg (List.take 1 r ++ [D.dead] ++ List.drop 2 r))) (0 + Int.toNat p3) fun C =>
                 asAgg C fun E => nam (List.set (List.set p7 (0 + Int.toNat p3) (D.agg (List.take 1 r ++ [D.dead] ++ List.drop 2 r))) (0 + Int.toNat p3)
 (D.agg
  (List.take 1 E ++
    [D.os
      (1,0)
      B] ++
   List.drop 2 E))) fun F =>
                  y4 p0 p1 p2 p5 p6 F A))))))))))) := by
 have h := Jq p0 p1 p2 p3 p4 p5 p6 p7 p8
 simp only [sz3,fl3] at h
 exact h
theorem SY (a0_0 : List D) (a1_ : ByteArray) : V 191 [.agg [.rs (5,0) a0_0],.str a1_] =
 jb V 60 [(.agg [(.rs (5,0) a0_0)])] fun a b =>
  asB a fun c => unn b (br (!c)
   (some ((.tup [(.agg [(.os (5,0) [])]),(.os (1,0) []),(iN (6)),(iN (0))]),[]))
   (
   br (decide (ni (ByteArray.size a1_) > 400))
   (
    jb V 147 [(.agg [(.rs (5,0) a0_0)])] fun d e =>
    asAgg d fun f => unc f fun g h => jl (5,0) g fun i => unn h (unn e (some ((.tup [(.agg [(.os (5,0) i)]),(.os (1,0) []),(iN (1)),(iN (0))]),[]))))
   (
    jb V 147 [(.agg [(.rs (5,0) a0_0)])] fun d e =>
    asAgg d fun f => unc f fun g h => jl (5,0) g fun i => unn h (unn e (y8 a1_ (0) a0_0 [] ([D.agg
  [iN (0),
   D.os
    (1,0)
    []]]) i))))) := by
 have h := Tu a0_0 a1_
 simp only [sz3,fl3] at h
 exact h

end Go.Eng
/-! reading a text,on both sides -/
namespace Go.Eng
noncomputable section
open Go.Proofs Go.Proofs.Tryz
set_option maxHeartbeats 4000000

def AP : List Int -> List Nd -> Nat -> List Nd × Nat
 | [],q,c => (q,c)
 | x :: r,q,c => AP r (q ++ [⟨5,0,⟨#[]⟩,x,(c : Int)⟩]) q.length
def yV (q : List Nd) (row : List Int) : List Nd × Nat := AP row.reverse (q ++ [⟨1,0,⟨#[]⟩,0,0⟩]) q.length
theorem Mz : ∀ (r : List Int) (q : List Nd) (c : Nat),(AP r q c).1.length = q.length + r.length
 | [],q,c => rfl
 | x :: r,q,c => by rw [AP,Mz r]; simp only [lnA,lnC,lnN]; omega
theorem DD (q : List Nd) (row : List Int) : (yV q row).1.length = q.length + row.length + 1 := by
 rw [yV,Mz]; simp only [lnA,lnC,lnN,List.length_reverse]; omega
theorem FX {q : List Nd} (h : z4 q) {x : Nd} (hx : x.s.size < 4611686018427387904) : z4 (q ++ [x]) := by
 intro y hy
 rcases List.mem_append.1 hy with h1 | h1
 ·exact h y h1
 ·rw [List.mem_singleton.1 h1]; exact hx
theorem KT : ∀ (r : List Int) (q : List Nd) (c : Nat),z4 q -> z4 (AP r q c).1
 | [],q,c,h => h
 | x :: r,q,c,h => KT r _ _ (FX h (x := ⟨5,0,⟨#[]⟩,x,(c : Int)⟩) (by show (0 : Nat) < _; omega))
theorem MF {q : List Nd} (h : z4 q) (row : List Int) : z4 (yV q row).1 := KT _ _ _ (FX h (x := ⟨1,0,⟨#[]⟩,0,0⟩) (by show (0 : Nat) < _; omega))
theorem WD {row : List Int} {k : Nat} {x : Int} (hx : row[k]? = some x) : (row.take (k + 1)).reverse = x :: (row.take k).reverse := by
 rw [List.take_add_one,hx]; simp
theorem Nq {row : List Int} (hr : row.length < 4294967296) : ∀ (k : Nat) (q : List Nd) (c : Nat),k <= row.length -> q.length + k < 4294967296 ->
  Ch (row.map eI) (c : Int) ((k : Int) - 1) (q.map eN) = some (iN (AP (row.take k).reverse q c).2,[rP (AP (row.take k).reverse q c).1])
 | 0,q,c,_,_ => by rw [EJ,xb (decide_eq_false (by omega))]; rfl
 | k + 1,q,c,hk,hq => by
  obtain ⟨x,hx⟩ := xx (l := row) (i := k) (by omega)
  have hp := zb (p := q) (by omega) ⟨5,0,⟨#[]⟩,x,(c : Int)⟩
  have ih := Nq hr k (q ++ [⟨5,0,⟨#[]⟩,x,(c : Int)⟩]) q.length (by omega) (by simp only [lnA,lnC,lnN]; omega)
  have e : ((k + 1 : Nat) : Int) - 1 = (k : Int) := by omega
  rw [EJ,e,xK (decide_eq_true (by omega)),yu (by rw [lnM]; exact yx (by omega)),Int.toNat_natCast,xW hx,ye,yU hp,w64 (by omega) (by omega),ih,WD hx,AP]
theorem Iz {q : List Nd} {row : List Int} (h : q.length + row.length < 4294967290) : V 210 [rP q,.rs (1,0) (row.map eI)] = some (iN (yV q row).2,[rP (yV q row).1]) := by
 have ha := zb (p := q) (by omega) ⟨1,0,⟨#[]⟩,0,0⟩
 have hl := Nq (row := row) (by omega) row.length (q ++ [⟨1,0,⟨#[]⟩,0,0⟩]) q.length (Nat.le_refl _) (by simp only [lnA,lnC,lnN]; omega)
 rw [List.take_length] at hl
 rw [PX,yU ha,lnM,w64 (by simp only [ni]; omega) (by simp only [ni]; omega)]
 exact hl
abbrev RwF := Int × List Int
inductive RdR where
 | err (c a : Int)
 | ok (q : List Nd) (row : List Int)
def Da (l : List UInt8) (j : Nat) : Nat := j + ((l.drop j).takeWhile GG).length
def UT (l : List UInt8) (G : Nat -> List RwF -> RwF -> List Nd -> RdR) (i : Nat) (o : List RwF) (t : RwF) (q : List Nd) : Option UInt8 -> RdR
 | none => if o = [] then .ok q t.2 else .err 4 t.1
 | some x =>
   if x = 32 then G (i + 1) o t q
   else if x = 40 then G (i + 1) (t :: o) ((i : Int),[]) q
   else if x = 41 then match o with
    | [] => .err 5 (i : Int)
    | u :: o => G (i + 1) o (u.1,u.2 ++ [((yV q t.2).2 : Int)]) (yV q t.2).1
   else if GG x = true then match Dp ((l.drop i).take (Da l i - i)) with
    | none => .err 3 (i : Int)
    | some nd => G (Da l i) o (t.1,t.2 ++ [(q.length : Int)]) (q ++ [nd])
   else .err 2 (i : Int)
def Bm (l : List UInt8) : Nat -> Nat -> List RwF -> RwF -> List Nd -> RdR
 | 0,_,_,_,_ => .err 1 0
 | k + 1,i,o,t,q => UT l (Bm l k) i o t q l[i]?
theorem J9 (l : List UInt8) (G : Nat -> List RwF -> RwF -> List Nd -> RdR) (i : Nat) (o : List RwF) (t : RwF) (q : List Nd) : UT l G i o t q none = if o = [] then .ok q t.2 else .err 4 t.1 := rfl
theorem IQ (l : List UInt8) (G : Nat -> List RwF -> RwF -> List Nd -> RdR) (i : Nat) (o : List RwF) (t : RwF) (q : List Nd) (x : UInt8) : UT l G i o t q (some x) = (if x = 32 then G (i + 1) o t q
   else if x = 40 then G (i + 1) (t :: o) ((i : Int),[]) q
   else if x = 41 then match o with
    | [] => .err 5 (i : Int)
    | u :: o => G (i + 1) o (u.1,u.2 ++ [((yV q t.2).2 : Int)]) (yV q t.2).1
   else if GG x = true then match Dp ((l.drop i).take (Da l i - i)) with
    | none => .err 3 (i : Int)
    | some nd => G (Da l i) o (t.1,t.2 ++ [(q.length : Int)]) (q ++ [nd])
   else .err 2 (i : Int)) := rfl
theorem Gc (l : List UInt8) (k i : Nat) (o : List RwF) (t : RwF) (q : List Nd) : Bm l (k + 1) i o t q = UT l (Bm l k) i o t q l[i]? := rfl
theorem IC {l : List UInt8} {j : Nat} {x : UInt8} (hx : l[j]? = some x) (h : GG x = true) : Da l j = Da l (j + 1) := by
 unfold Da; rw [tU hx,List.takeWhile_cons,if_pos h]; simp only [lnC]; omega
theorem Pu {l : List UInt8} {j : Nat} {x : UInt8} (hx : l[j]? = some x) (h : GG x = false) : Da l j = j := by
 unfold Da; rw [tU hx,List.takeWhile_cons,if_neg (by rw [h]; simp)]; rfl
theorem SU {l : List UInt8} {j : Nat} (h : l.length <= j) : Da l j = j := by
 unfold Da; rw [List.drop_of_length_le h]; rfl
theorem QP {l : List UInt8} {j : Nat} (h : j <= l.length) : j <= Da l j /\ Da l j <= l.length := by
 unfold Da
 have := (List.takeWhile_sublist (p := GG) (l := l.drop j)).length_le
 rw [List.length_drop] at this
 omega
def phi (o : List RwF) (t : RwF) (q : List Nd) : Nat := q.length + t.2.length + (o.map fun x => x.2.length).sum
theorem JA {l : List UInt8} {x : Nd} (h : Dp l = some x) : x.s.size <= l.length := by
 unfold Dp UL at h
 split at h
 ·cases h; exact Nat.zero_le _
 split at h
 ·cases h; exact Nat.zero_le _
 split at h
 ·cases h; exact Nat.zero_le _
 split at h
 ·cases h; exact Nat.le_of_eq (yO _)
 ·cases h
theorem Az {A B : List D} {x : D} (K : D -> Option Ret) : cT (A ++ x :: B) A.length K = K x := by simp [cT]
theorem Ba {A B : List D} {x v : D} : (A ++ x :: B).set A.length v = A ++ v :: B := by simp
theorem RE {l : List D} (h : l.length <= 4294967296) : decide (ni l.length <= LIM) = true := decide_eq_true (by rw [pE]; simp only [ni]; omega)
theorem Dd {x : UInt8} (c : UInt8) (n : Int) (hn : (c.toNat : Int) = n) (h : ¬ x = c) : ((x.toNat : Int) == n) = false := by
 subst hn
 simp only [beq_eq_false_iff_ne,ne_eq]
 intro e
 exact h (UInt8.toNat_inj.1 (by omega))
end
end Go.Eng
/-! a step of a machine,plain -/
namespace Go.Eng
noncomputable section

abbrev ndN : Nd := ⟨1,0,⟨#[]⟩,0,0⟩
abbrev ndI (n : Int) : Nd := ⟨3,n,⟨#[]⟩,0,0⟩
abbrev ndP (a b : Int) : Nd := ⟨5,0,⟨#[]⟩,a,b⟩
abbrev ndF (n a : Int) : Nd := ⟨6,n,⟨#[]⟩,a,0⟩
abbrev ndK (a : Int) : Nd := ⟨7,0,⟨#[]⟩,a,0⟩
abbrev ndR (n : Int) : Nd := ⟨8,n,⟨#[]⟩,0,0⟩
def ndB (b : Bool) : Nd := match b with | true => ⟨2,1,⟨#[]⟩,0,0⟩ | false => ⟨2,0,⟨#[]⟩,0,0⟩
def nod (p : List Nd) (v : Int) : Nd := p.getD v.toNat ndN
abbrev InP (p : List Nd) (v : Int) : Prop := 0 <= v /\ v < (p.length : Int)

def prNames : List (List UInt8) := [[43],[45],[42],[60],[61],[99,111,110,115],[99,97,114],[99,100,114],[110,117,108,108,63],[112,97,105,114,63],[101,113,63],[110,111,116],[112,114,105,110,116],[115,101,108,102],[115,101,110,100],[114,101,99,118],[115,112,97,119,110],[99,97,108,108,99,99],[103,111]]
def D4 (s : ByteArray) : Int := ya (fun x => kc s (mk x)) prNames + 1
def prArgs : List Int := [2,2,2,2,2,2,1,1,1,1,2,1,1,0,2,0,1,1,1]
def zq (n : Int) : Int := if wi n 1 19 = true then prArgs.getD (n - 1).toNat 0 else -1

def Dc (out : List Int) (x : Nd) : Nd :=
 if x.kind = 5 then ⟨x.kind,x.n,x.s,out.getD x.a.toNat 0,out.getD x.b.toNat 0⟩
 else if x.kind = 6 \/ x.kind = 7 then ⟨x.kind,x.n,x.s,out.getD x.a.toNat 0,x.b⟩ else x
def RJ (x y : Nd) : Bool := (x.kind == y.kind) && ((x.n == y.n) && (kc x.s y.s && ((x.a == y.a) && (x.b == y.b))))
def Tg : List Nd -> List Int -> List Nd -> List Int × List Nd
 | [],out,keys => (out,keys)
 | x :: r,out,keys => Tg r (out ++ [match keys.findIdx? (fun y => RJ y (Dc out x)) with | some k => (k : Int) | none => (out.length : Int)]) (keys ++ [Dc out x])
def VZ (p : List Nd) : List Int := (Tg p [] []).1
def XF (p : List Nd) (a b : Int) : Bool := (VZ p).getD a.toNat 0 == (VZ p).getD b.toNat 0

def J7 (p : List Nd) (n : Int) (l : List Int) : Except Int (List Nd × Int) :=
 let x := nod p (l.getD 0 0); let y := nod p (l.getD 1 0)
 if n <= 5 then
  if x.kind = 3 /\ y.kind = 3 then
   let z := if n = 1 then ndI (x.n + y.n) else if n = 2 then ndI (x.n - y.n) else if n = 3 then ndI (x.n * y.n) else if n = 4 then ndB (decide (x.n < y.n)) else ndB (x.n == y.n)
   if wi z.n (-1000000000) 1000000000 = true then .ok (p ++ [z],p.length) else .error 4
  else .error 3
 else if n = 6 then .ok (p ++ [ndP (l.getD 0 0) (l.getD 1 0)],p.length)
 else if n = 7 \/ n = 8 then
  if x.kind = 5 then .ok (p,if n = 7 then x.a else x.b) else .error 3
 else if n = 9 then .ok (p ++ [ndB (x.kind == 1)],p.length)
 else if n = 10 then .ok (p ++ [ndB (x.kind == 5)],p.length)
 else if n = 11 then .ok (p ++ [ndB (XF p (l.getD 0 0) (l.getD 1 0))],p.length)
 else .ok (p ++ [ndB (x.kind == 2 && x.n == 0)],p.length)

def Ly (m : Mc) (v : Int) : Mc := ⟨m.pool ++ [ndP v m.s],m.at',m.pool.length,m.e,m.d,m.state,m.ask,m.arg⟩
def Fk (m : Mc) : Option (Int × Mc) := if (nod m.pool m.s).kind = 5 then some ((nod m.pool m.s).a,⟨m.pool,m.at',(nod m.pool m.s).b,m.e,m.d,m.state,m.ask,m.arg⟩) else none
def FC : Nat -> Mc -> Option (List Int × Mc)
 | 0,m => some ([],m)
 | k + 1,m => match Fk m with
  | none => none
  | some (v,m') => match FC k m' with
   | none => none
   | some (l,m'') => some (v :: l,m'')
def Lv (p : List Nd) : Nat -> Int -> Option Int
 | 0,v => if (nod p v).kind = 5 then some (nod p v).a else none
 | k + 1,v => if (nod p v).kind = 5 then Lv p k (nod p v).b else none
def GW (p : List Nd) : Nat -> Int -> List Int × Bool
 | 0,_ => ([],false)
 | k + 1,v => if (nod p v).kind = 5 then ((nod p v).a :: (GW p k (nod p v).b).1,(GW p k (nod p v).b).2) else ([],(nod p v).kind == 1)
def zR (p : List Nd) (v : Int) : List Int × Bool := GW p (v.toNat + 1) v
def Bx (c : Cd) (n : Int) : Bool := wi n 0 ((c.list.length : Int) - 1)
def Jx (c : Cd) (p : List Nd) (v : Int) (many : Nat) : Option (Int × List Int) := match zR p v with
 | (a :: r,true) => if r.length + 1 = many /\ (nod p a).kind = 3 /\ Bx c (nod p a).n = true then some ((nod p a).n,r) else none
 | _ => none

def WX (m : Mc) (o i : Int) : Except Int Mc := match Lv m.pool o.toNat m.e with
 | none => .error 7
 | some fr => match Lv m.pool i.toNat fr with
  | none => .error 7
  | some v => .ok (Ly m v)
def KR (c : Cd) (m : Mc) (s : ByteArray) : Except Int Mc :=
 if 0 <= Dn c s then
  let d := c.defs.getD (Dn c s).toNat ⟨⟨#[]⟩,0,0⟩
  .ok (Ly ⟨m.pool ++ [ndN] ++ [ndF (8 * d.at' + d.args) m.pool.length],m.at',m.s,m.e,m.d,m.state,m.ask,m.arg⟩ (m.pool.length + 1))
 else if D4 s = 0 then .error 1
 else .ok (Ly ⟨m.pool ++ [ndR (D4 s)],m.at',m.s,m.e,m.d,m.state,m.ask,m.arg⟩ m.pool.length)
def Kx (c : Cd) (m : Mc) (f : Nd) (l : List Int) : Except Int Mc :=
 if f.n % 8 ≠ (l.length : Int) then .error 2
 else if Bx c (f.n / 8) = false then .error 7
 else
  let b := yV (m.pool ++ [ndI (m.at' + 1)]) [(m.pool.length : Int),m.s,m.e]
  let v := yV (b.1 ++ [ndP b.2 m.d]) l
  .ok ⟨v.1 ++ [ndP v.2 f.a] ++ [ndN],f.n / 8,((v.1.length : Int) + 1),v.1.length,b.1.length,m.state,m.ask,m.arg⟩
def VF (c : Cd) (m : Mc) (st : Int) (l : List Int) : Except Int Mc :=
 if l.length ≠ 1 then .error 2
 else match Jx c m.pool st 4 with
  | some (n,[s,e,d]) => .ok (Ly ⟨m.pool,n,s,e,d,m.state,m.ask,m.arg⟩ (l.getD 0 0))
  | _ => .error 7
def FT (c : Cd) : Nat -> Mc -> Int -> List Int -> Except Int Mc
 | 0,_,_,_ => .error 0
 | k + 1,m,f,l =>
  let x := nod m.pool f
  if x.kind = 6 then Kx c m x l
  else if x.kind = 8 then
   if zq x.n ≠ (l.length : Int) then .error 2
   else if x.n = 18 then
    let st := yV (m.pool ++ [ndI (m.at' + 1)]) [(m.pool.length : Int),m.s,m.e,m.d]
    FT c k ⟨st.1 ++ [ndK st.2],m.at',m.s,m.e,m.d,m.state,m.ask,m.arg⟩ (l.getD 0 0) [(st.1.length : Int)]
   else if x.n > 12 then
    let r := yV m.pool l
    .ok ⟨r.1,m.at',m.s,m.e,m.d,1,x.n,r.2⟩
   else match J7 m.pool x.n l with
    | .error h => .error (h + 1)
    | .ok (p,v) => .ok ⟨p ++ [ndP v m.s],m.at' + 1,p.length,m.e,m.d,m.state,m.ask,m.arg⟩
  else if x.kind = 7 then VF c m x.a l
  else .error 3
def CU (c : Cd) (m : Mc) (many : Nat) : Except Int Mc :=
 if Bx c (m.at' + 1) = false then .error 7
 else match FC (many + 1) m with
  | none => .error 7
  | some (l,m') => FT c 3 m' (l.reverse.getD 0 0) (l.reverse.drop 1)
def KQ (c : Cd) (m : Mc) : Except Int Mc := match Fk m with
 | none => .error 7
 | some (v,m1) =>
  let d := nod m1.pool m1.d
  if d.kind = 1 then .ok ⟨m1.pool,0,m1.s,m1.e,m1.d,2,m1.ask,v⟩
  else if d.kind ≠ 5 then .error 7
  else match Jx c m1.pool d.a 3 with
   | some (n,[s,e]) => .ok (Ly ⟨m1.pool,n,s,e,d.b,m1.state,m1.ask,m1.arg⟩ v)
   | _ => .error 7
def Ah (d : Int) (q : List Nd) (v : Int) (acc : List Nd) : List Nd × Int := ((Ar d q [v] acc).2,(Ar d q [v] acc).1.getD v.toNat 0)
def Yx (c : Cd) (m : Mc) (v : Int) : Mc := Ly ⟨(Ah (-1) c.pool v m.pool).1,m.at',m.s,m.e,m.d,m.state,m.ask,m.arg⟩ (Ah (-1) c.pool v m.pool).2
def goM (c : Cd) (r : Except Int Mc) (next : Int) : Except Int Mc := match r with
 | .error h => .error h
 | .ok m => if Bx c next = true then .ok ⟨m.pool,next,m.s,m.e,m.d,m.state,m.ask,m.arg⟩ else .error 7
def Jz (c : Cd) (m : Mc) (x : In) : Except Int Mc :=
 if x.op = 1 then goM c (.ok (Yx c m x.n)) (m.at' + 1)
 else if x.op = 2 then goM c (WX m x.n x.i) (m.at' + 1)
 else if x.op = 3 then goM c (KR c m x.s) (m.at' + 1)
 else if x.op = 5 then goM c (.ok m) x.n
 else if x.op = 6 then goM c (.ok (Ly ⟨m.pool ++ [ndF (8 * x.n + x.i) m.e],m.at',m.s,m.e,m.d,m.state,m.ask,m.arg⟩ m.pool.length)) (m.at' + 1)
 else match Fk m with
  | none => .error 7
  | some (v,m1) => goM c (.ok m1) (if x.op = 4 /\ (nod m1.pool v).kind = 2 /\ (nod m1.pool v).n = 0 then x.n else m.at' + 1)
def Ml (m : Mc) (h : Int) : Mc := ⟨m.pool,0,m.s,m.e,m.d,3,h,0⟩
def doM (c : Cd) (m : Mc) : Except Int Mc :=
 let x := c.list.getD m.at'.toNat ⟨0,0,0,⟨#[]⟩⟩
 if x.op = 7 then CU c m x.i.toNat else if x.op = 8 then KQ c m else Jz c m x
def SC (c : Cd) (m : Mc) : Mc := match doM c m with
 | .error h => Ml m h
 | .ok m' => if m'.pool.length <= 3000 then m' else Ml m 6
def U3 : Mc := ⟨[],0,0,0,0,3,7,0⟩
def SB (c : Cd) (m : Mc) : Mc := if GJ c m = true then (if m.state = 0 then SC c m else m) else U3
end
end Go.Eng
/-! reading a text: the spec -/
namespace Go.Eng
noncomputable section
open Go.Proofs Go.Proofs.Tryz
set_option maxHeartbeats 4000000

theorem QL {p : List Nd} (hl : p.length <= 4294967296) : V 147 [eP p] = some (oP p,[]) := by
 rw [JN,List.nil_append]
 simp (disch := first | omega | (simp only [lnA,lnC,lnN,lnM,yO,wY]; omega)) only [↓xP,↓yA,yJ,lnM,pE,wY]

abbrev eO (x : RwF) : D := .agg [iN x.1,.os (1,0) (x.2.map eI)]
theorem CK (t : RwF) (K : List D -> List D -> Option Ret) : (asAgg (eO t) fun l => cT l 1 fun y => jl (1,0) y fun r => asAgg (eO t) fun l2 => K r l2) = K (t.2.map eI) [iN t.1,.os (1,0) (t.2.map eI)] := rfl
theorem XD (t : RwF) (K : Int -> Option Ret) : (asAgg (eO t) fun l => cT l 0 fun y => asI .i64 y fun r => K r) = K t.1 := rfl
theorem tdd (a b : D) : List.take 1 [a,b] ++ [D.dead] ++ List.drop 2 [a,b] = [a,.dead] := rfl
theorem tds (a b c : D) : List.take 1 [a,b] ++ [c] ++ List.drop 2 [a,b] = [a,c] := rfl
theorem Yl (A J : List D) (x : D) : part (A ++ x :: J) (some (0,A.length + 1)) = A ++ [x] := by
 simp only [part,List.drop_zero]
 rw [show A ++ x :: J = (A ++ [x]) ++ J by simp,List.take_left' (by simp)]
def SR (P : List D) (n : Nat) (r : RdR) : Option Ret := match r with
 | .err c a => some (.tup [.agg [.os (5,0) P],.os (1,0) [],iN c,iN a],[])
 | .ok q row => if yR q = true then some (.tup [.agg [.os (5,0) (q.map eN)],.os (1,0) (row.map eI),iN 0,iN (n : Int)],[]) else some (.tup [.agg [.os (5,0) P],.os (1,0) [],iN 6,iN 0],[])
def Pw (r : Option Nd) (p : List Nd) (i : Nat) (X : Nd -> Option Ret) : Option Ret := match r with
 | none => some (.tup [.agg [.os (5,0) (p.map eN)],.os (1,0) [],iN 3,iN (i : Int)],[])
 | some nd => X nd
theorem XG {l : List UInt8} (hl : l.length < 1000000000) {i : Nat} {p q : List Nd} {A : List D} {t : RwF} (hp : p.length < 4294967290) (hq : q.length < 4294967290) (hA : A.length < 4294967290) (ht : t.2.length < 4294967290) : ∀ (m j : Nat),j + m = l.length -> i <= j ->
  Ac (mk l) (j : Int) (A.length : Int) (i : Int) (p.map eN) [] (A ++ [eO t]) (q.map eN) = Pw (Dp ((l.drop i).take (Da l j - i))) p i fun nd => y8 (mk l) (Da l j : Nat) (p.map eN) [] (A ++ [eO (t.1,t.2 ++ [(q.length : Int)])]) ((q ++ [nd]).map eN)
 | m,j,hm,hij => by
  have hcut : cW l.length (some (i : Int)) (some (j : Int)) = true := by unfold cW; simp; omega
  obtain ⟨x,b,h1,h2⟩ := SG (l := (l.drop i).take (j - i)) (by simp only [List.length_take,List.length_drop]; omega)
  have ha := zb (p := q) (by omega) x
  have hc := QL (p := p) (by omega)
  have hin : ∀ x : D,(decide (0 <= (A.length : Int)) && decide ((A.length : Int) < ni (A ++ [x]).length)) = true := fun x => yx (by simp)
  have hlim : decide (ni (t.2.map eI ++ [iN (q.length : Int)]).length <= LIM) = true := RE (by simp only [lnA,lnM,lnC,lnN]; omega)
  have hrow : (t.2 ++ [(q.length : Int)]).map eI = t.2.map eI ++ [iN (q.length : Int)] := by simp
  match m with
  | 0 =>
   rw [Fp,yO,xb (yr (by omega)),yu hcut,Int.toNat_natCast,Int.toNat_natCast,DT,Fi h1,SU (by omega)]
   cases hw : Dp ((l.drop i).take (j - i)) with
   | none =>
    rw [hw] at h2
    have h2 : b = false := h2
    rw [h2,Bool.not_false,yk,zd hc]; rfl
   | some nd =>
    rw [hw] at h2
    obtain ⟨rfl,rfl⟩ : x = nd /\ b = true := h2
    rw [Bool.not_true,xJ,yu (hin _),Int.toNat_natCast,Az,CK,yU ha,yu hlim,yA,Ba,tdd,yu (hin _),Az,xu,Ba,tds,yA,Pw,eO,hrow]
  | m + 1 =>
   obtain ⟨y,hy⟩ := xx (l := l) (i := j) (by omega)
   have hb := Ou hy
   have hwb := GA y
   rw [Fp,yO,xK (yz (by omega)),yu (yx (by omega)),hb,z7 hwb]
   cases hwu : GG y with
   | true =>
    have ih := XG hl hp hq hA ht (A := A) (i := i) m (j + 1) (by omega) (by omega)
    rw [yk,yM (by omega),ih,IC hy hwu]
   | false =>
    rw [xJ,yu hcut,Int.toNat_natCast,Int.toNat_natCast,DT,Fi h1,Pu hy hwu]
    cases hw : Dp ((l.drop i).take (j - i)) with
    | none =>
     rw [hw] at h2
     have h2 : b = false := h2
     rw [h2,Bool.not_false,yk,zd hc]; rfl
    | some nd =>
     rw [hw] at h2
     obtain ⟨rfl,rfl⟩ : x = nd /\ b = true := h2
     rw [Bool.not_true,xJ,yu (hin _),Int.toNat_natCast,Az,CK,yU ha,yu hlim,yA,Ba,tdd,yu (hin _),Az,xu,Ba,tds,yA,Pw,eO,hrow]
theorem Qu {A J : List D} {x : D} : (decide (0 <= (A.length : Int)) && decide ((A.length : Int) < ni (A.length + 1)) && decide (0 + (A.length + 1) <= (A ++ x :: J).length)) = true := by
 simp only [ni,Bool.and_eq_true,decide_eq_true_eq,lnA,lnC]; omega
theorem Wz {l : List UInt8} (hl : l.length < 1000000000) {i : Nat} {p q : List Nd} {A J : List D} {t : RwF} (hp : p.length < 4294967290) (hq : q.length < 4294967290) (hA : A.length < 4294967290) (ht : t.2.length < 4294967290) : ∀ (m j : Nat),j + m = l.length -> i <= j ->
  zJ (mk l) (A.length + 1) (j : Int) (A.length : Int) (i : Int) (p.map eN) [] (A ++ eO t :: J) (q.map eN) = Pw (Dp ((l.drop i).take (Da l j - i))) p i fun nd => y4 (mk l) (A.length + 1) (Da l j : Nat) (p.map eN) [] (A ++ eO (t.1,t.2 ++ [(q.length : Int)]) :: J) ((q ++ [nd]).map eN)
 | m,j,hm,hij => by
  have hcut : cW l.length (some (i : Int)) (some (j : Int)) = true := by unfold cW; simp; omega
  obtain ⟨x,b,h1,h2⟩ := SG (l := (l.drop i).take (j - i)) (by simp only [List.length_take,List.length_drop]; omega)
  have ha := zb (p := q) (by omega) x
  have hc := QL (p := p) (by omega)
  have hlim : decide (ni (t.2.map eI ++ [iN (q.length : Int)]).length <= LIM) = true := RE (by simp only [lnA,lnM,lnC,lnN]; omega)
  have hrow : (t.2 ++ [(q.length : Int)]).map eI = t.2.map eI ++ [iN (q.length : Int)] := by simp
  match m with
  | 0 =>
   rw [Dq,yO,xb (yr (by omega)),yu hcut,Int.toNat_natCast,Int.toNat_natCast,DT,Fi h1,SU (by omega)]
   cases hw : Dp ((l.drop i).take (j - i)) with
   | none =>
    rw [hw] at h2
    have h2 : b = false := h2
    rw [h2,Bool.not_false,yk,zd hc]; rfl
   | some nd =>
    rw [hw] at h2
    obtain ⟨rfl,rfl⟩ : x = nd /\ b = true := h2
    rw [Bool.not_true,xJ,yu Qu,Int.toNat_natCast,Nat.zero_add,Az,CK,yU ha,yu hlim,yA,Ba,tdd,yu Qu,Az,xu,Ba,tds,yA,Pw,eO,hrow]
  | m + 1 =>
   obtain ⟨y,hy⟩ := xx (l := l) (i := j) (by omega)
   have hb := Ou hy
   have hwb := GA y
   rw [Dq,yO,xK (yz (by omega)),yu (yx (by omega)),hb,z7 hwb]
   cases hwu : GG y with
   | true =>
    have ih := Wz hl hp hq hA ht (A := A) (J := J) (i := i) m (j + 1) (by omega) (by omega)
    rw [yk,yM (by omega),ih,IC hy hwu]
   | false =>
    rw [xJ,yu hcut,Int.toNat_natCast,Int.toNat_natCast,DT,Fi h1,Pu hy hwu]
    cases hw : Dp ((l.drop i).take (j - i)) with
    | none =>
     rw [hw] at h2
     have h2 : b = false := h2
     rw [h2,Bool.not_false,yk,zd hc]; rfl
    | some nd =>
     rw [hw] at h2
     obtain ⟨rfl,rfl⟩ : x = nd /\ b = true := h2
     rw [Bool.not_true,xJ,yu Qu,Int.toNat_natCast,Nat.zero_add,Az,CK,yU ha,yu hlim,yA,Ba,tdd,yu Qu,Az,xu,Ba,tds,yA,Pw,eO,hrow]
theorem Ym {A J : List D} {x y v : D} : ((A ++ [x]) ++ y :: J).set (A.length + 1) v = A ++ x :: v :: J := by
 have := Ba (A := A ++ [x]) (B := J) (x := y) (v := v)
 rw [lnA,List.length_singleton] at this
 rw [this,List.append_assoc]; rfl
theorem Yk {A J : List D} {x y : D} (K : D -> Option Ret) : cT ((A ++ [x]) ++ y :: J) (A.length + 1) K = K y := by
 have := Az (A := A ++ [x]) (B := J) (x := y) K
 rw [lnA,List.length_singleton] at this
 exact this
theorem WZ {n : Nat} (h : n < 4611686018427387904) : w6 (((n + 1 : Nat) : Int) - 1) = (n : Int) := by
 rw [w64 (by omega) (by omega)]; omega
theorem VV (P : List D) (n : Nat) (q : List Nd) (row : List Int) : SR P n (.ok q row) = if yR q = true then some (.tup [.agg [.os (5,0) (q.map eN)],.os (1,0) (row.map eI),iN 0,iN (n : Int)],[]) else some (.tup [.agg [.os (5,0) P],.os (1,0) [],iN 6,iN 0],[]) := rfl
theorem Pm {l : List UInt8} (hl : l.length < 1000000000) {p : List Nd} (hp : p.length < 4294967290) : ∀ (k i : Nat) (o : List RwF) (t : RwF) (q : List Nd),l.length < i + k -> i <= l.length -> phi o t q + 2 * (l.length - i) < 4000000000 -> o.length + (l.length - i) < 4000000000 -> z4 q ->
  y8 (mk l) (i : Int) (p.map eN) [] (o.reverse.map eO ++ [eO t]) (q.map eN) = SR (p.map eN) l.length (Bm l k i o t q) /\
  ∀ J,y4 (mk l) (o.length + 1) (i : Int) (p.map eN) [] (o.reverse.map eO ++ eO t :: J) (q.map eN) = SR (p.map eN) l.length (Bm l k i o t q)
 | 0,i,o,t,q,h1,h2,_,_,_ => by omega
 | k + 1,i,o,t,q,h1,h2,h3,h4,hf => by
  have hph : phi o t q = q.length + t.2.length + (o.map fun x => x.2.length).sum := rfl
  have hc := QL (p := p) (by omega)
  have hAl : (o.reverse.map eO).length = o.length := by rw [lnM,List.length_reverse]
  have hn1 : (o.reverse.map eO ++ [eO t]).length = o.length + 1 := by rw [lnA,hAl]; rfl
  have hw1 : w6 (ni (o.length + 1) - 1) = ((o.reverse.map eO).length : Int) := by rw [hAl]; exact WZ (by omega)
  have hin : ∀ J,(decide (0 <= ((o.reverse.map eO).length : Int)) && decide (((o.reverse.map eO).length : Int) < ni (o.length + 1)) && decide (0 + (o.length + 1) <= (o.reverse.map eO ++ eO t :: J).length)) = true := fun J => by
   rw [<- hAl]; exact Qu
  rw [Gc]
  by_cases hi : i = l.length
  ·have hx : l[i]? = none := List.getElem?_eq_none (by omega)
   have hok := zQ hf (by omega)
   rw [hx,J9]
   cases o with
   | nil =>
    have hlim : decide (ni ([] ++ t.2.map eI).length <= LIM) = true := RE (by rw [List.nil_append,lnM]; omega)
    rw [if_pos rfl]
    constructor
    ·rw [zt,yO,xb (yr (by omega)),xb (by rfl),AQ hok]
     rw [VV]
     cases hq : yR q with
     | false => rw [Bool.not_false,yk,zd hc,if_neg (by simp)]
     | true => rw [Bool.not_true,xJ,yu (by rfl),if_pos rfl,show ∀ K : D -> Option Ret,cT (([] : List RwF).reverse.map eO ++ [eO t]) 0 K = K (eO t) from fun K => rfl,CK,yu hlim,yA,List.nil_append]
    ·intro J
     rw [zk,yO,xb (yr (by omega)),xb (by rfl),AQ hok]
     rw [VV]
     cases hq : yR q with
     | false => rw [Bool.not_false,yk,zd hc,if_neg (by simp)]
     | true => rw [Bool.not_true,xJ,yu (by simp [ni]),if_pos rfl,show ∀ K : D -> Option Ret,cT (([] : List RwF).reverse.map eO ++ eO t :: J) 0 K = K (eO t) from fun K => rfl,CK,yu hlim,yA,List.nil_append]
   | cons u o =>
    rw [if_neg (by simp)]
    constructor
    ·rw [zt,yO,xb (yr (by omega)),hn1,xK (decide_eq_true (by simp only [ni,lnC]; omega)),zd hc,hw1,yu (by rw [hAl]; exact yx (by omega)),Int.toNat_natCast,Az,XD]; rfl
    ·intro J
     rw [zk,yO,xb (yr (by omega)),xK (decide_eq_true (by simp only [ni,lnC]; omega)),zd hc,hw1,yu (hin J),Int.toNat_natCast,Nat.zero_add,Az,XD]; rfl
  obtain ⟨x,hx⟩ := xx (l := l) (i := i) (by omega)
  have hb := Ou hx
  rw [hx,IQ]
  by_cases h32 : x = 32
  ·subst h32
   have ih := Pm hl hp k (i + 1) o t q (by omega) (by omega) (by omega) (by omega) hf
   rw [if_pos rfl]
   constructor
   ·rw [zt,yO,xK (yz (by omega)),yu (yx (by omega)),hb,xK (by rfl),yM (by omega)]
    exact ih.1
   ·intro J
    rw [zk,yO,xK (yz (by omega)),yu (yx (by omega)),hb,xK (by rfl),yM (by omega)]
    exact ih.2 J
  rw [if_neg h32]
  by_cases h40 : x = 40
  ·subst h40
   have hlo : decide (ni (o.reverse.map eO ++ [eO t] ++ [D.agg [iN (i : Int),.os (1,0) []]]).length <= LIM) = true := RE (by rw [lnA,hn1]; simp only [lnC,lnN]; omega)
   have ih := (Pm hl hp k (i + 1) (t :: o) ((i : Int),[]) q (by omega) (by omega) (by simp only [phi,List.map_cons,List.sum_cons,lnN]; omega) (by simp only [lnC]; omega) hf).1
   rw [show (t :: o).reverse.map eO = o.reverse.map eO ++ [eO t] by simp] at ih
   rw [if_pos rfl]
   constructor
   ·rw [zt,yO,xK (yz (by omega)),yu (yx (by omega)),hb,xb (by rfl),xK (by rfl),yu hlo,yA,yM (by omega)]
    exact ih
   ·intro J
    have hpt := Yl (o.reverse.map eO) J (eO t)
    rw [hAl] at hpt
    rw [zk,yO,xK (yz (by omega)),yu (yx (by omega)),hb,xb (by rfl),xK (by rfl),hpt,yu hlo,yA,yM (by omega)]
    exact ih
  rw [if_neg h40]
  by_cases h41 : x = 41
  ·subst h41
   rw [if_pos rfl]
   cases o with
   | nil =>
    constructor
    ·rw [zt,yO,xK (yz (by omega)),yu (yx (by omega)),hb,xb (by rfl),xb (by rfl),xK (by rfl),hn1,hw1,xK (by rfl),zd hc]; rfl
    ·intro J
     rw [zk,yO,xK (yz (by omega)),yu (yx (by omega)),hb,xb (by rfl),xb (by rfl),xK (by rfl),hw1,xK (by rfl),zd hc]; rfl
   | cons u o =>
    simp only [List.map_cons,List.sum_cons] at hph
    simp only [lnC] at h4
    have hll := Iz (q := q) (row := t.2) (by omega)
    have ih := (Pm hl hp k (i + 1) o (u.1,u.2 ++ [((yV q t.2).2 : Int)]) (yV q t.2).1 (by omega) (by omega) (by simp only [phi,DD,lnA,lnC,lnN]; omega) (by omega) (MF hf _)).2
    obtain ⟨O,hO⟩ : ∃ O,O = o.reverse.map eO := ⟨_,rfl⟩
    have hA : O.length = o.length := by rw [hO,lnM,List.length_reverse]
    have hrev : (u :: o).reverse.map eO = O ++ [eO u] := by rw [hO]; simp
    have hlim : decide (ni (u.2.map eI ++ [iN ((yV q t.2).2 : Int)]).length <= LIM) = true := RE (by simp only [lnA,lnM,lnC,lnN]; omega)
    have hrow : (u.2 ++ [((yV q t.2).2 : Int)]).map eI = u.2.map eI ++ [iN ((yV q t.2).2 : Int)] := by simp
    have hl2 : (u :: o).length = O.length + 1 := by rw [hA]; rfl
    have hn2 : (O ++ [eO u] ++ [eO t]).length = O.length + 1 + 1 := by simp
    have hw2 : w6 (ni (O.length + 1 + 1) - 1) = ((O.length + 1 : Nat) : Int) := WZ (by omega)
    have hw3 : w6 (((O.length + 1 : Nat) : Int) - 1) = (O.length : Int) := WZ (by omega)
    have hne : (((O.length + 1 : Nat) : Int) == 0) = false := by simp only [beq_eq_false_iff_ne,ne_eq]; omega
    rw [<- hA,<- hO] at ih
    rw [hrev,hl2]
    constructor
    ·rw [zt,yO,xK (yz (by omega)),yu (yx (by omega)),hb,xb (by rfl),xb (by rfl),xK (by rfl),hn2,hw2,xb hne,yu (yx (by omega)),Int.toNat_natCast,Yk,CK,BQ hll,tdd,Ym,hw3,Int.toNat_natCast,Nat.zero_add O.length]
     rw [yu (by unfold cW; simp; try omega),yu Qu,Az,CK,yu hlim,yA,Ba,tdd,yu Qu,Az,xu,Ba,tds,yA,yM (by omega),<- hrow]
     exact ih _
    ·intro J
     rw [zk,yO,xK (yz (by omega)),yu (yx (by omega)),hb,xb (by rfl),xb (by rfl),xK (by rfl),hw2,xb hne,yu (by simp only [ni,Bool.and_eq_true,decide_eq_true_eq,lnA,lnC,lnN]; omega),Int.toNat_natCast,Nat.zero_add (O.length + 1),Yk,CK,BQ hll,tdd,Ym,hw3,Int.toNat_natCast,Nat.zero_add O.length]
     rw [yu (by unfold gW; simp; try omega),yu (by have := Qu (A := O) (J := D.agg [iN t.1,.dead] :: J) (x := eO u); rwa [Nat.zero_add] at this),Az,CK,yu hlim,yA,Ba,tdd,yu (by have := Qu (A := O) (J := D.agg [iN t.1,.dead] :: J) (x := .agg [iN u.1,.dead]); rwa [Nat.zero_add] at this),Az,xu,Ba,tds,yA,yM (by omega),<- hrow]
     exact ih _
  rw [if_neg h41]
  have hwb := GA x
  cases hw : GG x with
  | false =>
   rw [hw] at hwb
   rw [if_neg (by simp)]
   constructor
   ·rw [zt,yO,xK (yz (by omega)),yu (yx (by omega)),hb,xb (Dd 32 32 rfl h32),xb (Dd 40 40 rfl h40),xb (Dd 41 41 rfl h41),z7 hwb,xJ,zd hc]; rfl
   ·intro J
    rw [zk,yO,xK (yz (by omega)),yu (yx (by omega)),hb,xb (Dd 32 32 rfl h32),xb (Dd 40 40 rfl h40),xb (Dd 41 41 rfl h41),z7 hwb,xJ,zd hc]; rfl
  | true =>
   rw [hw] at hwb
   have hs := XG hl (i := i) (p := p) (q := q) (A := o.reverse.map eO) (t := t) hp (by omega) (by rw [hAl]; omega) (by omega) (l.length - i) i (by omega) (by omega)
   have hs1 := fun J => Wz hl (i := i) (p := p) (q := q) (A := o.reverse.map eO) (J := J) (t := t) hp (by omega) (by rw [hAl]; omega) (by omega) (l.length - i) i (by omega) (by omega)
   rw [hAl] at hs hs1
   have hwe := IC hx hw
   have hwl := QP (l := l) (j := i + 1) (by omega)
   rw [hAl] at hw1
   rw [if_pos rfl]
   constructor
   ·rw [zt,yO,xK (yz (by omega)),yu (yx (by omega)),hb,xb (Dd 32 32 rfl h32),xb (Dd 40 40 rfl h40),xb (Dd 41 41 rfl h41),z7 hwb,yk,hn1,hw1,hs]
    cases hwd : Dp ((l.drop i).take (Da l i - i)) with
    | none => rfl
    | some nd =>
     have hz := JA hwd
     exact (Pm hl hp k (Da l i) o (t.1,t.2 ++ [(q.length : Int)]) (q ++ [nd]) (by omega) (by omega) (by simp only [phi,lnA,lnC,lnN]; omega) (by omega) (FX hf (by rw [List.length_take,List.length_drop] at hz; omega))).1
   ·intro J
    rw [zk,yO,xK (yz (by omega)),yu (yx (by omega)),hb,xb (Dd 32 32 rfl h32),xb (Dd 40 40 rfl h40),xb (Dd 41 41 rfl h41),z7 hwb,yk,hw1,hs1]
    cases hwd : Dp ((l.drop i).take (Da l i - i)) with
    | none => rfl
    | some nd =>
     have hz := JA hwd
     exact (Pm hl hp k (Da l i) o (t.1,t.2 ++ [(q.length : Int)]) (q ++ [nd]) (by omega) (by omega) (by simp only [phi,lnA,lnC,lnN]; omega) (by omega) (FX hf (by rw [List.length_take,List.length_drop] at hz; omega))).2 J
end
end Go.Eng
/-! reading a text: both sides agree -/
namespace Go.Eng
noncomputable section
open Go.Proofs Go.Proofs.Tryz
set_option maxHeartbeats 4000000

theorem Gd {l : List UInt8} (hl : l.length < 1000000000) : ∀ (k i : Nat) (o : List RwF) (t : RwF) (q : List Nd),i <= l.length -> phi o t q + 2 * (l.length - i) < 4000000000 -> z4 q -> ∀ q' row,Bm l k i o t q = .ok q' row -> z4 q' /\ q'.length < 4000000000 /\ row.length < 4000000000
 | 0,i,o,t,q,_,_,_,q',row,h => by rw [Bm] at h; cases h
 | k + 1,i,o,t,q,h2,h3,hf,q',row,h => by
  have hph : phi o t q = q.length + t.2.length + (o.map fun x => x.2.length).sum := rfl
  rw [Gc] at h
  by_cases hi : i = l.length
  ·have hx : l[i]? = none := List.getElem?_eq_none (by omega)
   rw [hx,J9] at h
   by_cases ho : o = []
   ·rw [if_pos ho] at h
    cases h
    exact ⟨hf,by omega,by omega⟩
   ·rw [if_neg ho] at h; cases h
  obtain ⟨x,hx⟩ := xx (l := l) (i := i) (by omega)
  rw [hx,IQ] at h
  by_cases h32 : x = 32
  ·rw [if_pos h32] at h
   exact Gd hl k (i + 1) o t q (by omega) (by omega) hf q' row h
  rw [if_neg h32] at h
  by_cases h40 : x = 40
  ·rw [if_pos h40] at h
   exact Gd hl k (i + 1) (t :: o) ((i : Int),[]) q (by omega) (by simp only [phi,List.map_cons,List.sum_cons,lnN]; omega) hf q' row h
  rw [if_neg h40] at h
  by_cases h41 : x = 41
  ·rw [if_pos h41] at h
   cases o with
   | nil => cases h
   | cons u o =>
    simp only [List.map_cons,List.sum_cons] at hph
    exact Gd hl k (i + 1) o (u.1,u.2 ++ [((yV q t.2).2 : Int)]) (yV q t.2).1 (by omega) (by simp only [phi,DD,lnA,lnC,lnN]; omega) (MF hf _) q' row h
  rw [if_neg h41] at h
  by_cases hw : GG x = true
  ·rw [if_pos hw] at h
   have hwe := IC hx hw
   have hwl := QP (l := l) (j := i + 1) (by omega)
   cases hwd : Dp ((l.drop i).take (Da l i - i)) with
   | none => rw [hwd] at h; cases h
   | some nd =>
    rw [hwd] at h
    have hz := JA hwd
    exact Gd hl k (Da l i) o (t.1,t.2 ++ [(q.length : Int)]) (q ++ [nd]) (by omega) (by simp only [phi,lnA,lnC,lnN]; omega) (FX hf (by rw [List.length_take,List.length_drop] at hz; omega)) q' row h
  ·rw [if_neg hw] at h; cases h
def VH (p : List Nd) (n : Nat) (r : RdR) : List Nd × List Int × Int × Int := match r with
 | .err c a => (p,[],c,a)
 | .ok q row => if yR q = true then (q,row,0,(n : Int)) else (p,[],6,0)
def BG (p : List Nd) (l : List UInt8) : List Nd × List Int × Int × Int := if yR p = false then ([],[],6,0) else if 400 < l.length then (p,[],1,0) else VH p l.length (Bm l (l.length + 1) 0 [] (0,[]) p)
abbrev QG (r : List Nd × List Int × Int × Int) : Option Ret := some (.tup [oP r.1,.os (1,0) (r.2.1.map eI),iN r.2.2.1,iN r.2.2.2],[])
theorem W9 (p : List Nd) (n : Nat) (r : RdR) : SR (p.map eN) n r = QG (VH p n r) := by
 cases r with
 | err c a => rfl
 | ok q row =>
  rw [VV]
  unfold VH
  by_cases h : yR q = true
  ·rw [if_pos h]; simp only [if_pos h]
  ·rw [if_neg h]; simp only [if_neg h]; rfl
theorem Lk {p : List Nd} (hf : z4 p) (hl : p.length < 4611686018427387904) (l : List UInt8) : V 191 [eP p,.str (mk l)] = QG (BG p l) := by
 have hok := zQ hf hl
 unfold BG
 rw [SY,AQ hok]
 cases h : yR p with
 | false => rw [Bool.not_false,yk,if_pos rfl]; rfl
 | true =>
  have hp := za h
  have hc := QL (p := p) (by omega)
  rw [Bool.not_true,xJ,if_neg (by simp),yO]
  by_cases h4 : 400 < l.length
  ·rw [xK (decide_eq_true (by simp only [ni]; omega)),zd hc,if_pos h4]; rfl
  ·have hs := (Pm (l := l) (by omega) (p := p) (by omega) (l.length + 1) 0 [] (0,[]) p (by omega) (by omega) (by simp only [phi,List.map_nil,List.sum_nil,lnN]; omega) (by simp only [lnN]; omega) hf).1
   rw [xb (decide_eq_false (by simp only [ni]; omega)),zd hc,if_neg h4,<- W9]
   exact hs
end
end Go.Eng
/-! compiling,plain (the reference's way) -/
namespace Go.Eng
noncomputable section

structure Ms where
 list : List In
 defs : List Df
 how : Int
abbrev inO (op : Int) : In := ⟨op,0,0,⟨#[]⟩⟩
def wrds : List (List UInt8) := [[113,117,111,116,101],[105,102],[102,110],[100,111],[108,101,116],[100,101,102,105,110,101]]
def Uc (s : ByteArray) : Bool := wrds.any fun x => kc s (mk x)
def zN (m : Ms) (x : In) : Ms := if m.how = 0 then (if m.list.length = 400 then ⟨m.list,m.defs,3⟩ else ⟨m.list ++ [x],m.defs,0⟩) else m
def Cn (m : Ms) : Int := if m.how = 0 then (if m.list.length = 400 then 0 else m.list.length) else 0
def toC (m : Ms) (k : Int) : Ms := if m.how = 0 then ⟨m.list.set k.toNat ⟨(m.list.getD k.toNat (inO 0)).op,m.list.length,(m.list.getD k.toNat (inO 0)).i,(m.list.getD k.toNat (inO 0)).s⟩,m.defs,0⟩ else m
def CT (m : Ms) (h : Int) : Ms := ⟨m.list,m.defs,h⟩
def nmC (p : List Nd) (v : Int) : Bool := (nod p v).kind == 4 && !Uc (nod p v).s
def I9 (p : List Nd) : List Int -> Int -> List ByteArray -> List ByteArray × Int
 | [],h,out => (out,h)
 | x :: r,h,out => if h = 0 then I9 p r (if nmC p x = true then 0 else 1) (out ++ [(nod p x).s]) else (out,h)
def LT (out : List ByteArray) : Nat -> Nat -> Int -> Int
 | 0,_,h => h
 | k + 1,i,h => if h = 0 then LT out k (i + 1) (if (out.take i).any (fun t => kc t (out.getD i ⟨#[]⟩)) = true then 2 else 0) else h
def Ae (p : List Nd) (xs : List Int) (h : Int) : List ByteArray × Int :=
 let r := I9 p xs (if xs.length > 4 then 1 else h) []
 (r.1,LT r.1 r.1.length 0 r.2)
def WW (s : ByteArray) : List ByteArray -> Nat -> Option Nat
 | [],_ => none
 | x :: r,i => if kc x s = true then some i else WW s r (i + 1)
def VT (s : ByteArray) : List (List ByteArray) -> Nat -> Option (Nat × Nat)
 | [],_ => none
 | e :: r,n => match WW s e 0 with
  | some i => some (n,i)
  | none => VT s r (n + 1)
section
variable (E : List (List ByteArray) -> Int -> Ms -> Ms)
def DN (env : List (List ByteArray)) : List Int -> Bool -> Ms -> Ms
 | [],_,m => m
 | x :: r,f,m => if m.how = 0 then DN env r false (E env x (if f = true then m else zN m (inO 9))) else m
def TH (names : List ByteArray) (body : List Int) (env : List (List ByteArray)) (m : Ms) : Ms :=
 let m1 := zN m ⟨6,0,names.length,⟨#[]⟩⟩
 let m2 := zN m1 (inO 5)
 let m3 := DN E (names :: env) body true (toC m2 (Cn m))
 toC (zN m3 (inO 8)) (Cn m1)
def Mq (p : List Nd) (s : ByteArray) (xs : List Int) (env : List (List ByteArray)) (m : Ms) : Ms :=
 if kc s (mk [113,117,111,116,101]) = true /\ xs.length = 2 then zN m ⟨1,xs.getD 1 0,0,⟨#[]⟩⟩
 else if kc s (mk [105,102]) = true /\ xs.length = 4 then
  let m1 := E env (xs.getD 1 0) m
  let m3 := E env (xs.getD 2 0) (zN m1 (inO 4))
  let m5 := toC (zN m3 (inO 5)) (Cn m1)
  toC (E env (xs.getD 3 0) m5) (Cn m3)
 else if kc s (mk [100,111]) = true /\ 2 <= xs.length then DN E env (xs.drop 1) true m
 else if kc s (mk [102,110]) = true /\ 3 <= xs.length then
  let a := zR p (xs.getD 1 0)
  if a.2 = false then CT m 1 else
  let r := Ae p a.1 m.how
  TH E r.1 (xs.drop 2) env (CT m r.2)
 else if kc s (mk [108,101,116]) = true /\ 4 <= xs.length then
  let r := Ae p [xs.getD 1 0] m.how
  zN (E env (xs.getD 2 0) (TH E r.1 (xs.drop 3) env (CT m r.2))) ⟨7,0,1,⟨#[]⟩⟩
 else CT m 1
end
def Jg (p : List Nd) : Nat -> List (List ByteArray) -> Int -> Ms -> Ms
 | 0,_,_,m => m
 | k + 1,env,v,m => if m.how ≠ 0 then m else
  let x := nod p v
  if x.kind = 1 \/ x.kind = 2 \/ x.kind = 3 then zN m ⟨1,v,0,⟨#[]⟩⟩
  else if x.kind = 4 then
   if Uc x.s = true then CT m 1 else match VT x.s env 0 with
    | some (n,i) => zN m ⟨2,n,i,⟨#[]⟩⟩
    | none => zN m ⟨3,0,0,x.s⟩
  else if x.kind ≠ 5 then CT m 1
  else if (zR p v).2 = false then CT m 1
  else
   let xs := (zR p v).1
   let h := nod p (xs.getD 0 0)
   if h.kind = 4 /\ Uc h.s = true then Mq (Jg p k) p h.s xs env m
   else if xs.length > 5 then CT m 1
   else zN (xs.foldl (fun m x => Jg p k env x m) m) ⟨7,0,(xs.length : Int) - 1,⟨#[]⟩⟩
def GD (p : List Nd) (env : List (List ByteArray)) (v : Int) (m : Ms) : Ms := Jg p (v.toNat + 1) env v m
def Jb (s : ByteArray) : List Df -> Int -> Int
 | [],h => h
 | d :: r,h => if h = 0 then Jb s r (if kc d.name s = true then 2 else 0) else h
def Ku (p : List Nd) (s : ByteArray) (names : List ByteArray) (body : List Int) (m : Ms) : Ms :=
 zN (DN (GD p) [names] body true ⟨m.list,m.defs ++ [⟨s,m.list.length,names.length⟩],Jb s m.defs m.how⟩) (inO 8)
def Wo : ByteArray := mk [109,97,105,110]
def Nu (p : List Nd) (v : Int) (m : Ms) : Ms :=
 let l := zR p v
 if (nod p v).kind = 5 /\ l.2 = true /\ (nod p (l.1.getD 0 0)).kind = 4 /\ kc (nod p (l.1.getD 0 0)).s (mk [100,101,102,105,110,101]) = true then
  if l.1.length < 3 \/ (nod p (l.1.getD 1 0)).kind ≠ 5 then CT m 1 else
  let a := zR p (l.1.getD 1 0)
  if a.2 = false then CT m 1
  else if nmC p (a.1.getD 0 0) = false then CT m 1
  else
   let r := Ae p (a.1.drop 1) m.how
   Ku p (nod p (a.1.getD 0 0)).s r.1 (l.1.drop 2) (CT m r.2)
 else Ku p Wo [] [v] m
def DP (p : List Nd) (n : Int) : List Int -> Int -> Ms -> Cd × Int × Int
 | [],_,m => if zG ⟨p,m.list,m.defs⟩ = true then (⟨p,m.list,m.defs⟩,0,n) else (⟨[],[],[]⟩,3,0)
 | x :: r,i,m =>
  let m1 := Nu p x m
  if m1.how = 3 then (⟨[],[],[]⟩,3,0) else if m1.how ≠ 0 then (⟨[],[],[]⟩,m1.how,i) else DP p n r (i + 1) m1
def JK (p : List Nd) (xs : List Int) : Cd × Int × Int := if yR p = true /\ y1 p xs = true then DP p xs.length xs 0 ⟨[],[],0⟩ else (⟨[],[],[]⟩,3,0)
end
end Go.Eng
/-! a step of a machine: the program's side: the stack,the frames,lists -/
namespace Go.Eng
open Go.Proofs Go.Proofs.Tryz
set_option maxHeartbeats 4000000

theorem Gn {p : List Nd} {v : Int} (h : InP p v) : p[v.toNat]? = some (nod p v) := by
 have : v.toNat < p.length := by omega
 simp [nod,List.getD_eq_getElem?_getD,List.getElem?_eq_getElem this]
theorem Ia {p : List Nd} (hp : y3 p) {v : Int} (h : InP p v) : okN (nod p v) v = true := by
 have := hp _ _ (Gn h)
 rwa [Int.toNat_of_nonneg h.1] at this
theorem JY {p : List Nd} (hp : y3 p) {v : Int} (h : InP p v) (hk : (nod p v).kind = 5 \/ (nod p v).kind = 6 \/ (nod p v).kind = 7) : InP p (nod p v).a := by
 rcases hk with hk | hk
 ·have := zn (Ia hp h) hk; exact ⟨by omega,by omega⟩
 ·have := z3 (Ia hp h) hk; exact ⟨by omega,by omega⟩
theorem KV {p : List Nd} (hp : y3 p) {v : Int} (h : InP p v) (hk : (nod p v).kind = 5) : InP p (nod p v).b := by
 have := zn (Ia hp h) hk; exact ⟨by omega,by omega⟩
theorem Xm {p q : List Nd} {v : Int} (h : InP p v) : nod (p ++ q) v = nod p v := by
 have : v.toNat < p.length := by omega
 simp [nod,List.getD_eq_getElem?_getD,List.getElem?_append_left this]
theorem y0 {p : List Nd} (q : List Nd) {v : Int} (h : InP p v) : InP (p ++ q) v := ⟨h.1,by simp only [lnA]; omega⟩
section
variable {R : Type} {p : List Nd} {v : Int}
theorem O5 (h : InP p v) : (decide (0 <= v) && decide (v < ni (p.map eN).length)) = true := by
 rw [lnM]; simp only [ni,Bool.and_eq_true,decide_eq_true_eq]; exact ⟨h.1,h.2⟩
theorem Ft (h : InP p v) (K : Int -> Int -> ByteArray -> Int -> Int -> Option R) : grd (decide (0 <= v) && decide (v < ni (p.map eN).length)) (cT (p.map eN) v.toNat fun x => tk1 x fun n4 n7 s10 n13 n16 => (K n4 n7 s10 n13 n16)) = K (nod p v).kind (nod p v).n (nod p v).s (nod p v).a (nod p v).b := by
 rw [yu (O5 h),xW (Gn h),GY]
theorem PB (h : InP p v) (K : Int -> Option R) : grd (decide (0 <= v) && decide (v < ni (p.map eN).length)) (cT (p.map eN) v.toNat fun x => asAgg x fun l => cT l 0 fun y => asI .i64 y fun n => K n) = K (nod p v).kind := by
 rw [yu (O5 h),xW (Gn h),Yz]
theorem Yu (h : InP p v) (K : Int -> Option R) : grd (decide (0 <= v) && decide (v < ni (p.map eN).length)) (cT (p.map eN) v.toNat fun x => asAgg x fun l => cT l 1 fun y => asI .i64 y fun n => K n) = K (nod p v).n := by
 rw [yu (O5 h),xW (Gn h),YA]
theorem Ye (h : InP p v) (K : Int -> Option R) : grd (decide (0 <= v) && decide (v < ni (p.map eN).length)) (cT (p.map eN) v.toNat fun x => asAgg x fun l => cT l 3 fun y => asI .i64 y fun n => K n) = K (nod p v).a := by
 rw [yu (O5 h),xW (Gn h),YC]
theorem Yf (h : InP p v) (K : Int -> Option R) : grd (decide (0 <= v) && decide (v < ni (p.map eN).length)) (cT (p.map eN) v.toNat fun x => asAgg x fun l => cT l 4 fun y => asI .i64 y fun n => K n) = K (nod p v).b := by
 rw [yu (O5 h),xW (Gn h),YD]
end

theorem SE {m : Mc} (hp : y3 m.pool) (hs : InP m.pool m.s) {v : Int} {m' : Mc} (h : Fk m = some (v,m')) : InP m.pool v /\ m'.pool = m.pool /\ InP m.pool m'.s /\ m'.e = m.e /\ m'.d = m.d /\ m'.at' = m.at' /\ m'.state = m.state /\ m'.ask = m.ask /\ m'.arg = m.arg := by
 unfold Fk at h
 split at h
 ·rename_i h5
  cases h
  exact ⟨JY hp hs (.inl h5),rfl,KV hp hs h5,rfl,rfl,rfl,rfl,rfl,rfl⟩
 ·cases h
noncomputable def alD (r : Option Int) : D := match r with | some v => .tup [iN v,.bool true] | none => .tup [iN 0,.bool false]
theorem LG {p : List Nd} (hp : y3 p) : ∀ (k : Nat) (v a : Int),InP p v -> Lv p k v = some a -> InP p a
 | 0,v,a,hv,h => by
  unfold Lv at h
  split at h
  ·cases h; exact JY hp hv (.inl ‹_›)
  ·cases h
 | k + 1,v,a,hv,h => by
  unfold Lv at h
  split at h
  ·exact LG hp k _ a (KV hp hv ‹_›) h
  ·cases h
theorem UH {p : List Nd} (hp : y3 p) : ∀ (k : Nat) (v : Int),InP p v -> ∀ x ∈ (GW p k v).1,InP p x
 | 0,v,hv,x,hx => by simp [GW] at hx
 | k + 1,v,hv,x,hx => by
  unfold GW at hx
  split at hx
  ·rename_i h5
   rcases List.mem_cons.1 hx with rfl | hx
   ·exact JY hp hv (.inl h5)
   ·exact UH hp k _ (KV hp hv h5) x hx
  ·simp at hx
theorem RF {p : List Nd} : ∀ (k : Nat) (v : Int),(GW p k v).1.length <= k
 | 0,v => by simp [GW]
 | k + 1,v => by
  unfold GW
  split
  ·have := RF (p := p) k (nod p v).b; simp only [lnC]; omega
  ·simp
end Go.Eng
/-! which nodes are alike: both sides -/
namespace Go.Eng
open Go.Proofs Go.Proofs.Tryz
set_option maxHeartbeats 4000000

noncomputable def clV (keys : List Nd) (y : Nd) (i : Nat) : Int := match keys.findIdx? (fun z => RJ z y) with | some k => (k : Int) | none => (i : Int)
theorem XE {l : List Int} (h : l.length < 4294967290) (x : Int) : decide (ni (l.map eI ++ [iN x]).length <= LIM) = true :=
 decide_eq_true (by rw [pE]; simp only [ni,lnA,lnM,lnC,lnN]; omega)
theorem Fg {R : Type} {l : List Int} {v : Int} (h0 : 0 <= v) (h1 : v < (l.length : Int)) (K : Int -> Option R) : grd (decide (0 <= v) && decide (v < ni (l.map eI).length)) (cT (l.map eI) v.toNat fun x => asI .i64 x fun n => K n) = K (l.getD v.toNat 0) := by
 obtain ⟨x,hx⟩ := xx (l := l) (i := v.toNat) (by omega)
 rw [yu (by rw [lnM]; simp only [ni,Bool.and_eq_true,decide_eq_true_eq]; exact ⟨h0,h1⟩),xW hx,ye,List.getD_eq_getElem?_getD,hx]; rfl
theorem OC (x : Nd) (r : List Nd) (out : List Int) (keys : List Nd) : Tg (x :: r) out keys = Tg r (out ++ [clV keys (Dc out x) out.length]) (keys ++ [Dc out x]) := rfl
theorem QT : ∀ (r : List Nd) (out : List Int) (keys : List Nd),(Tg r out keys).1.length = out.length + r.length
 | [],out,keys => rfl
 | x :: r,out,keys => by
  rw [OC,QT r]; simp only [lnA,lnC,lnN]; omega
theorem QU (p : List Nd) : (VZ p).length = p.length := by
 unfold VZ; rw [QT]; simp
theorem Xl (x : Nd) {R : Type} (K : Int -> Int -> ByteArray -> Int -> Int -> Option R) : tk1 (eN x) (fun n4 n7 s10 n13 n16 => (K n4 n7 s10 n13 n16)) = K x.kind x.n x.s x.a x.b := rfl
theorem UE {keys : List Nd} (h : keys.length < 4294967290) (y : Nd) : decide (ni (keys.map eN ++ [eN y]).length <= LIM) = true :=
 decide_eq_true (by rw [pE]; simp only [ni,lnA,lnM,lnC,lnN]; omega)
theorem Ip {p keys : List Nd} {out : List Int} {i : Nat} (hi : i < 4294967290) (hk : keys.length = i) (ho : out.length = i) (y : Nd) : ∀ (k j : Nat),j + k = i -> (∀ t,t < j -> ∀ z,keys[t]? = some z -> RJ z y = false) ->
  y9 (i : Int) (i : Int) (j : Int) (p.map eN) (out.map eI) (keys.map eN) y.kind y.n y.s y.a y.b = zH ((i + 1 : Nat) : Int) (p.map eN) ((out ++ [clV keys y i]).map eI) ((keys ++ [y]).map eN)
 | 0,j,hj,hn => by
  have hnone : keys.findIdx? (fun z => RJ z y) = none := by
   rw [List.findIdx?_eq_none_iff]
   intro z hz
   obtain ⟨t,ht⟩ := List.getElem?_of_mem hz
   exact hn t (by have := aQ ht; omega) z ht
  have ek : keys.map eN ++ [D.agg [iN y.kind,iN y.n,D.str y.s,iN y.a,iN y.b]] = (keys ++ [y]).map eN := by simp
  have el : out.map eI ++ [iN (i : Int)] = (out ++ [clV keys y i]).map eI := by simp [clV,hnone]
  have hkl : decide (ni ((keys ++ [y]).map eN).length <= LIM) = true := by have := UE (keys := keys) (by omega) y; simpa using this
  have hol := XE (l := out) (by omega) (i : Int)
  rw [Cw,xb (decide_eq_false (by omega)),ek,yu hkl,yA,yu hol,yA,el,yM (by omega)]
 | k + 1,j,hj,hn => by
  obtain ⟨z,hz⟩ := xx (l := keys) (i := j) (by omega)
  have ek : keys.map eN ++ [D.agg [iN y.kind,iN y.n,D.str y.s,iN y.a,iN y.b]] = (keys ++ [y]).map eN := by simp
  have hkl : decide (ni ((keys ++ [y]).map eN).length <= LIM) = true := by have := UE (keys := keys) (by omega) y; simpa using this
  have hol := XE (l := out) (by omega) (j : Int)
  rw [Cw,xK (decide_eq_true (by omega)),yu (by rw [lnM]; exact yx (by omega)),Int.toNat_natCast,xW hz,Xl]
  have et : (z.kind == y.kind && (z.n == y.n && (kc z.s y.s && (z.a == y.a && (z.b == y.b && true))))) = RJ z y := by simp [RJ]
  rw [et]
  cases hq : RJ z y with
  | false =>
   rw [xJ,yM (by omega)]
   refine Ip hi hk ho y k (j + 1) (by omega) (fun t ht u hu => ?_)
   rcases Nat.lt_or_ge t j with h | h
   ·exact hn t h u hu
   ·have : t = j := by omega
    subst this
    rw [hz] at hu; cases hu; exact hq
  | true =>
   have hsome : keys.findIdx? (fun z => RJ z y) = some j := by
    rw [List.findIdx?_eq_some_iff_getElem]
    have hlt := aQ hz
    refine ⟨hlt,?_,fun t ht => ?_⟩
    ·rw [List.getElem?_eq_getElem hlt] at hz; cases hz; exact hq
    ·have htl : t < keys.length := by omega
     have := hn t ht keys[t] (List.getElem?_eq_getElem htl)
     simp [this]
   have el : out.map eI ++ [iN (j : Int)] = (out ++ [clV keys y i]).map eI := by simp [clV,hsome]
   rw [yk,ek,yu hkl,yA,yu hol,yA,el,yM (by omega)]
theorem Jm {p : List Nd} (hp : y3 p) (hl : p.length < 4294967290) : ∀ (k i : Nat) (keys : List Nd) (out : List Int),i + k = p.length -> out.length = i -> keys.length = i ->
  zH (i : Int) (p.map eN) (out.map eI) (keys.map eN) = some (.os (1,0) ((Tg (p.drop i) out keys).1.map eI),[])
 | 0,i,keys,out,hi,ho,hk => by
  rw [CR,xb (by rw [lnM]; exact yr (by omega)),List.drop_of_length_le (by omega)]
  rfl
 | k + 1,i,keys,out,hi,ho,hk => by
  obtain ⟨x,hx⟩ := xx (l := p) (i := i) (by omega)
  have hxo := hp i x hx
  rw [CR,xK (by rw [lnM]; exact yz (by omega)),yu (by rw [lnM]; exact yx (by omega)),Int.toNat_natCast,xW hx,GY,tU hx,OC,ho]
  have fin : ∀ (y : Nd),y = Dc out x -> y9 (i : Int) (i : Int) 0 (p.map eN) (out.map eI) (keys.map eN) y.kind y.n y.s y.a y.b = some (.os (1,0) ((Tg (p.drop (i + 1)) (out ++ [clV keys (Dc out x) i]) (keys ++ [Dc out x])).1.map eI),[]) := by
   rintro y rfl
   have h1 := Ip (p := p) (i := i) (by omega) hk ho (Dc out x) i 0 (Nat.zero_add _) (fun t ht => by omega)
   rw [Int.natCast_zero] at h1
   rw [h1]
   exact Jm hp hl k (i + 1) _ _ (by omega) (by simp [ho]) (by simp [hk])
  by_cases h5 : x.kind = 5
  ·have hb := zn hxo h5
   rw [xK (yF h5),Fg hb.1 (by omega),Fg hb.2.2.1 (by omega)]
   exact fin ⟨x.kind,x.n,x.s,out.getD x.a.toNat 0,out.getD x.b.toNat 0⟩ (by simp only [Dc,h5,if_true])
  ·rw [xb (yE h5)]
   by_cases h6 : x.kind = 6
   ·have hb := z3 hxo (.inl h6)
    rw [xK (yF h6),xK (yF h6),Fg hb.1 (by omega)]
    exact fin ⟨x.kind,x.n,x.s,out.getD x.a.toNat 0,x.b⟩ (by simp only [Dc,h6]; simp)
   ·rw [xb (yE h6)]
    by_cases h7 : x.kind = 7
    ·have hb := z3 hxo (.inr h7)
     rw [xK (yF h7),Fg hb.1 (by omega)]
     exact fin ⟨x.kind,x.n,x.s,out.getD x.a.toNat 0,x.b⟩ (by simp only [Dc,h7]; simp)
    ·rw [xb (yE h7)]
     exact fin x (by simp only [Dc,h5,h6,h7,if_false,or_self])
theorem SF {p : List Nd} (hp : y3 p) (hl : p.length < 4294967290) : V 252 [eP p] = some (.os (1,0) ((VZ p).map eI),[]) := by
 have h := Jm hp hl p.length 0 [] [] (Nat.zero_add _) rfl rfl
 rw [Int.natCast_zero] at h
 rw [Lr]
 exact h
end Go.Eng
/-! what is built in: both sides -/
namespace Go.Eng
noncomputable section
open Go.Proofs Go.Proofs.Tryz
set_option maxHeartbeats 4000000

theorem JS {R : Type} {l : List Int} {v x : Int} (h0 : 0 <= v) (h : l[v.toNat]? = some x) (K : Int -> Option R) : grd (decide (0 <= v) && decide (v < ni (l.map eI).length)) (cT (l.map eI) v.toNat fun x => asI .i64 x fun n => K n) = K x := by
 have := aQ h
 rw [Fg h0 (by omega),List.getD_eq_getElem?_getD,h]; rfl
theorem Bi {R : Type} {a : Int} {r : List Int} (K : Int -> Option R) : grd (decide ((0 : Nat) <= 0) && decide ((0 : Int) < ni ((a :: r).map eI).length)) (cT ((a :: r).map eI) 0 fun x => asI .i64 x fun n => K n) = K a := JS (l := a :: r) (v := 0) (by omega) rfl K
theorem Gl {R : Type} {a b : Int} {r : List Int} (K : Int -> Option R) : grd (decide ((0 : Nat) <= 1) && decide ((1 : Int) < ni ((a :: b :: r).map eI).length)) (cT ((a :: b :: r).map eI) 1 fun x => asI .i64 x fun n => K n) = K b := JS (l := a :: b :: r) (v := 1) (by omega) rfl K
theorem Wk {R : Type} {a b c : Int} {r : List Int} (K : Int -> Option R) : grd (decide ((0 : Nat) <= 2) && decide ((2 : Int) < ni ((a :: b :: c :: r).map eI).length)) (cT ((a :: b :: c :: r).map eI) 2 fun x => asI .i64 x fun n => K n) = K c := JS (l := a :: b :: c :: r) (v := 2) (by omega) rfl K
theorem Gp : nz ⟨#[]⟩ = true := by unfold nz; rw [BH]; simp
theorem Lz {n : Int} : V 245 [iN n] = some (iN (zq n),[]) := by
 rw [LY,zB (zX _ _ _)]
 unfold zq
 cases h : wi n 1 19 with
 | false => rfl
 | true =>
  have hb := wi_iff.1 h
  rw [Bool.not_true,xJ]
  have e : prArgs.getD (n - 1).toNat 0 = (0 :: prArgs).getD n.toNat 0 := by
   have : n.toNat = (n - 1).toNat + 1 := by omega
   rw [this]; rfl
  simp only [if_true]
  rw [e]
  exact Fg (l := 0 :: prArgs) (by omega) (by show n < 20; omega) _
theorem WB {R : Type} {l : List (List UInt8)} {i : Nat} {x : List UInt8} (h : l[i]? = some x) (K : ByteArray -> Option R) : grd (decide (0 <= (i : Int)) && decide ((i : Int) < ni (l.map fun x => D.str (mk x)).length)) (cT (l.map fun x => D.str (mk x)) (i : Int).toNat fun x => asS x fun n => K n) = K (mk x) := by
 have := aQ h
 rw [yu (by rw [lnM]; exact yx this),Int.toNat_natCast,xW h,yi]
theorem VK (a b : ByteArray) : kc a b = kc b a := by
 rw [BH,BH]
 exact decide_eq_decide.2 ⟨Eq.symm,Eq.symm⟩
theorem Nb (s : ByteArray) : 0 <= D4 s /\ D4 s <= 19 := by
 unfold D4 ya
 cases h : prNames.findIdx? fun x => kc s (mk x) with
 | none => simp
 | some k =>
  rw [List.findIdx?_eq_some_iff_getElem] at h
  obtain ⟨hk,_⟩ := h
  have : prNames.length = 19 := rfl
  simp only; omega
theorem Iw (s : ByteArray) : ∀ (k i : Nat),i + k = 19 -> Cg s ((i + 1 : Nat) : Int) (([] :: prNames).map fun x => D.str (mk x)) = some (iN (dQ (fun x => kc s (mk x)) prNames i + 1),[])
 | 0,i,hi => by
  have : i = 19 := by omega
  subst this
  rw [EF,xb (decide_eq_false (by omega)),w8 (by decide)]
  rfl
 | k + 1,i,hi => by
  obtain ⟨x,hx⟩ := xx (l := prNames) (i := i) (by show i < 19; omega)
  have hx' : ([] :: prNames)[i + 1]? = some x := hx
  have ih := Iw s k (i + 1) (by omega)
  rw [EF,xK (decide_eq_true (by omega)),WB hx',VK]
  cases h : kc s (mk x) with
  | true => rw [yk,w9 hx h]; rfl
  | false => rw [xJ,yM (by omega),ih,wJ hx h]
theorem Ot (s : ByteArray) : V 232 [.str s] = some (iN (D4 s),[]) := by
 have h := Iw s 19 0 (Nat.zero_add _)
 rw [wK] at h
 have h2 : V 239 [] = some (.os (1,0) (([] :: prNames).map fun x => D.str (mk x)),[]) := NV
 rw [PQ,Qz h2]
 exact h
theorem Ge (b : Bool) : V 251 [.bool b] = some (eN (ndB b),[]) := by
 rw [Qh]; cases b <;> rfl
def GI (n a b : Int) : Nd := if n = 1 then ndI (a + b) else if n = 2 then ndI (a - b) else if n = 3 then ndI (a * b) else if n = 4 then ndB (decide (a < b)) else ndB (a == b)
theorem Vk {a b : Int} (ha : -1000000000 <= a /\ a <= 1000000000) (hb : -1000000000 <= b /\ b <= 1000000000) : -1000000000000000000 <= a * b /\ a * b <= 1000000000000000000 := by
 have h1 : a.natAbs <= 1000000000 := by omega
 have h2 : b.natAbs <= 1000000000 := by omega
 have h3 : (a * b).natAbs <= 1000000000 * 1000000000 := by rw [Int.natAbs_mul]; exact Nat.mul_le_mul h1 h2
 omega
theorem Xp {x : Nd} {h : Int} (ho : okN x h = true) : x.s.size <= 12 := by
 have nz0 : nz x.s = true -> x.s.size <= 12 := by
  intro e
  unfold nz at e
  rw [BH] at e
  rw [of_decide_eq_true e]; decide
 have nm : GZ x.s = true -> x.s.size <= 12 := by
  intro e
  unfold GZ at e
  simp only [Bool.and_eq_true] at e
  have := wi_iff.1 e.1
  omega
 unfold okN at ho
 repeat' split at ho
 all_goals first | cases ho | skip
 all_goals (simp only [Bool.and_eq_true] at ho; first | exact nz0 ho.2.1 | exact nm ho.2.1)
theorem MY {p : List Nd} (hp : y3 p) : z4 p := fun x hx => by
 obtain ⟨j,hj⟩ := List.getElem?_of_mem hx
 have := Xp (hp j x hj)
 omega
theorem UN {x : Nd} {h : Int} (ho : okN x h = true) (hk : x.kind = 3) : -1000000000 <= x.n /\ x.n <= 1000000000 := by
 simp [okN,hk] at ho
 exact wi_iff.1 ho.1
def NF (p : List Nd) (n : Int) (v : Int) : Bool := if n <= 5 then (nod p v).kind == 3 else if n = 7 \/ n = 8 then (nod p v).kind == 5 else true
def YF (p : List Nd) (r : Except Int (List Nd × Int)) : Option Ret := match r with
 | .ok (q,v) => some (.tup [iN v,iN 0],[rP q])
 | .error h => some (.tup [iN (-1),iN h],[rP p])
def Gw (p : List Nd) (n : Int) (l : List Int) : Nd :=
 let x := nod p (l.getD 0 0); let y := nod p (l.getD 1 0)
 if n = 6 then ndP (l.getD 0 0) (l.getD 1 0)
 else if n = 9 then ndB (x.kind == 1)
 else if n = 10 then ndB (x.kind == 5)
 else if n = 11 then ndB (XF p (l.getD 0 0) (l.getD 1 0))
 else if n = 12 then ndB (x.kind == 2 && x.n == 0)
 else GI n x.n y.n
theorem FQ {n : Int} {l : List Int} (hlen : (l.length : Int) = zq n) (h : 1 <= n /\ n <= 6 \/ n = 11) : ∃ a b,l = [a,b] := by
 have h2 : zq n = 2 := by
  have : n = 1 \/ n = 2 \/ n = 3 \/ n = 4 \/ n = 5 \/ n = 6 \/ n = 11 := by omega
  rcases this with rfl | rfl | rfl | rfl | rfl | rfl | rfl <;> rfl
 rw [h2] at hlen
 match l,hlen with
 | [a,b],_ => exact ⟨a,b,rfl⟩
 | [],h => simp at h
 | [_],h => simp at h
 | _ :: _ :: _ :: _,h => simp at h; omega
theorem LK {n : Int} {l : List Int} (hlen : (l.length : Int) = zq n) (h : 7 <= n /\ n <= 10 \/ n = 12) : ∃ a,l = [a] := by
 have h2 : zq n = 1 := by
  have : n = 7 \/ n = 8 \/ n = 9 \/ n = 10 \/ n = 12 := by omega
  rcases this with rfl | rfl | rfl | rfl | rfl <;> rfl
 rw [h2] at hlen
 match l,hlen with
 | [a],_ => exact ⟨a,rfl⟩
 | [],h => simp at h
 | _ :: _ :: _,h => simp at h; omega
theorem TZ {p : List Nd} (_ : y3 p) {n : Int} {l : List Int} (hv : ∀ v ∈ l,InP p v) (hlen : (l.length : Int) = zq n) (_ : 1 <= n /\ n <= 12) (_ : n ≠ 7 /\ n ≠ 8) (hw : wi (Gw p n l).n (-1000000000) 1000000000 = true) : okN (Gw p n l) p.length = true := by
 have hB : ∀ b,okN (ndB b) p.length = true := by intro b; cases b <;> simp [ndB,okN,wi,Gp]
 unfold Gw at hw ⊢
 simp only at hw ⊢
 by_cases h6 : n = 6
 ·rw [if_pos h6]
  obtain ⟨a,b,rfl⟩ := FQ hlen (by omega)
  have ha := hv a (by simp)
  have hb := hv b (by simp)
  show (wi 0 0 0 && (nz ⟨#[]⟩ && (wi a 0 _ && wi b 0 _))) = true
  rw [wi_iff.2 ⟨ha.1,by omega⟩,wi_iff.2 ⟨hb.1,by omega⟩,Gp]
  rfl
 rw [if_neg h6] at hw ⊢
 by_cases h9 : n = 9
 ·rw [if_pos h9]; exact hB _
 rw [if_neg h9] at hw ⊢
 by_cases h10 : n = 10
 ·rw [if_pos h10]; exact hB _
 rw [if_neg h10] at hw ⊢
 by_cases h11 : n = 11
 ·rw [if_pos h11]; exact hB _
 rw [if_neg h11] at hw ⊢
 by_cases hn12 : n = 12
 ·rw [if_pos hn12]; exact hB _
 rw [if_neg hn12] at hw ⊢
 unfold GI at hw ⊢
 have hI : ∀ x,wi x (-1000000000) 1000000000 = true -> okN (ndI x) p.length = true := fun x hx => by
  show (wi x (-1000000000) 1000000000 && (nz ⟨#[]⟩ && _)) = true
  rw [hx,Gp]; rfl
 split at hw
 ·rw [if_pos ‹_›]; exact hI _ hw
 rw [if_neg ‹_›]
 split at hw
 ·rw [if_pos ‹_›]; exact hI _ hw
 rw [if_neg ‹_›]
 split at hw
 ·rw [if_pos ‹_›]; exact hI _ hw
 rw [if_neg ‹_›]
 split <;> exact hB _
theorem J8 {p : List Nd} {n : Int} {l : List Int} (h12 : 1 <= n /\ n <= 12) (hlen : (l.length : Int) = zq n) : J7 p n l =
  if l.all (NF p n) = true then (if n = 7 then .ok (p,(nod p (l.getD 0 0)).a) else if n = 8 then .ok (p,(nod p (l.getD 0 0)).b) else if wi (Gw p n l).n (-1000000000) 1000000000 = true then .ok (p ++ [Gw p n l],p.length) else .error 4) else .error 3 := by
 unfold J7
 simp only
 have hBw : ∀ b,wi (ndB b).n (-1000000000) 1000000000 = true := by intro b; cases b <;> rfl
 by_cases h5 : n <= 5
 ·obtain ⟨a,b,rfl⟩ := FQ hlen (by omega)
  have hc : [a,b].all (NF p n) = true ↔ (nod p a).kind = 3 /\ (nod p b).kind = 3 := by
   simp [NF,h5]
  rw [if_pos h5]
  simp only [List.getD_cons_zero,List.getD_cons_succ]
  by_cases hk : (nod p a).kind = 3 /\ (nod p b).kind = 3
  ·have n7 : ¬ n = 7 := by omega
   have n8 : ¬ n = 8 := by omega
   rw [if_pos hk,if_pos (hc.2 hk),if_neg n7,if_neg n8]
   have e : Gw p n [a,b] = GI n (nod p a).n (nod p b).n := by
    unfold Gw
    simp only [List.getD_cons_zero,List.getD_cons_succ]
    rw [if_neg (by omega),if_neg (by omega),if_neg (by omega),if_neg (by omega),if_neg (by omega)]
   rw [e]
   rfl
  ·rw [if_neg hk,if_neg (fun h => hk (hc.1 h))]
 rw [if_neg h5]
 by_cases h6 : n = 6
 ·subst h6
  have hc : l.all (NF p 6) = true := by simp [NF]
  rw [hc]
  simp only [if_true,Gw]
  rfl
 rw [if_neg h6]
 by_cases h78 : n = 7 \/ n = 8
 ·obtain ⟨a,rfl⟩ := LK hlen (by omega)
  have hc : [a].all (NF p n) = true ↔ (nod p a).kind = 5 := by simp [NF,h5,h78]
  rw [if_pos h78]
  simp only [List.getD_cons_zero]
  by_cases hk : (nod p a).kind = 5
  ·rw [if_pos hk,if_pos (hc.2 hk)]
   rcases h78 with rfl | rfl <;> rfl
  ·rw [if_neg hk,if_neg (fun h => hk (hc.1 h))]
 have hc : l.all (NF p n) = true := by simp [NF,h5,h78]
 rw [if_neg h78,if_pos hc,if_neg (fun h => h78 (.inl h)),if_neg (fun h => h78 (.inr h))]
 unfold Gw
 simp only
 rw [if_neg h6]
 by_cases h9 : n = 9
 ·simp only [h9,if_true]; rw [if_pos (hBw _)]
 rw [if_neg h9,if_neg h9]
 by_cases h10 : n = 10
 ·simp only [h10,if_true]; rw [if_pos (hBw _)]
 rw [if_neg h10,if_neg h10]
 by_cases h11 : n = 11
 ·simp only [h11,if_true]; rw [if_pos (hBw _)]
 have hn12 : n = 12 := by omega
 rw [if_neg h11,if_neg h11,if_pos hn12,if_pos (hBw _)]
theorem Um {n : Int} (h5 : 1 <= n /\ n <= 5) {x y : Nd} (hx : x.kind = 3 -> -1000000000 <= x.n /\ x.n <= 1000000000) (hy : y.kind = 3 -> -1000000000 <= y.n /\ y.n <= 1000000000) :
  ∃ z,V 250 [iN n,eN x,eN y] = some (.tup [eN (if x.kind = 3 /\ y.kind = 3 /\ wi (GI n x.n y.n).n (-1000000000) 1000000000 = true then GI n x.n y.n else z),iN (if x.kind = 3 /\ y.kind = 3 then (if wi (GI n x.n y.n).n (-1000000000) 1000000000 = true then 0 else 4) else 3)],[]) := by
 have hBw : ∀ b,wi (ndB b).n (-1000000000) 1000000000 = true := by intro b; cases b <;> rfl
 refine ⟨⟨0,0,⟨#[]⟩,0,0⟩,?_⟩
 rw [Mh]
 by_cases k1 : x.kind = 3
 ·rw [xb (yG k1)]
  by_cases k2 : y.kind = 3
  ·have a1 := hx k1
   have a2 := hy k2
   have hm := Vk a1 a2
   have hk : x.kind = 3 /\ y.kind = 3 := ⟨k1,k2⟩
   rw [xb (yG k2),if_pos hk]
   have fin : ∀ (q : Int),GI n x.n y.n = ndI q -> (jb V 62 [iN q,iN (-1000000000),iN 1000000000] fun v0 v1 => asB v0 fun b => unn v1 (br (!b) (some (D.tup [.agg [iN 0,iN 0,.str ⟨#[]⟩,iN 0,iN 0],iN 4],[])) (some (D.tup [.agg [iN 3,iN q,.str ⟨#[]⟩,iN 0,iN 0],iN 0],([] : List D))))) =
     some (D.tup [eN (if x.kind = 3 /\ y.kind = 3 /\ wi (GI n x.n y.n).n (-1000000000) 1000000000 = true then GI n x.n y.n else ⟨0,0,⟨#[]⟩,0,0⟩),iN (if wi (GI n x.n y.n).n (-1000000000) 1000000000 = true then 0 else 4)],[]) := by
    intro q hq
    rw [zB (zX _ _ _),hq]
    simp only
    cases hw : wi q (-1000000000) 1000000000 with
    | false => rw [if_neg (by simp),if_neg (by simp)]; rfl
    | true => rw [if_pos ⟨k1,k2,rfl⟩,if_pos rfl]; rfl
   have Mo : ∀ b,GI n x.n y.n = ndB b -> (jb V 251 [.bool b] fun v0 v1 => tk1 v0 fun n4 n7 s10 n13 n16 => (unn v1 (some (D.tup [.agg [iN n4,iN n7,.str s10,iN n13,iN n16],iN 0],([] : List D))))) =
     some (D.tup [eN (if x.kind = 3 /\ y.kind = 3 /\ wi (GI n x.n y.n).n (-1000000000) 1000000000 = true then GI n x.n y.n else ⟨0,0,⟨#[]⟩,0,0⟩),iN (if wi (GI n x.n y.n).n (-1000000000) 1000000000 = true then 0 else 4)],[]) := by
    intro b hb
    rw [BU (Ge b),hb,if_pos ⟨k1,k2,hBw b⟩,if_pos (hBw b)]
   have w1 : w6 (x.n - y.n) = x.n - y.n := w64 (by omega) (by omega)
   have w2 : w6 (x.n * y.n) = x.n * y.n := w64 (by omega) (by omega)
   have w3 : w6 (x.n + y.n) = x.n + y.n := w64 (by omega) (by omega)
   rw [w1,w2,w3]
   by_cases c2 : n = 2
   ·rw [xK (yF c2)]; exact fin _ (by subst c2; rfl)
   rw [xb (yE c2)]
   by_cases c3 : n = 3
   ·rw [xK (yF c3)]; exact fin _ (by subst c3; rfl)
   rw [xb (yE c3)]
   by_cases c4 : n = 4
   ·rw [xK (yF c4)]; exact Mo _ (by subst c4; rfl)
   rw [xb (yE c4)]
   by_cases c5 : n = 5
   ·rw [xK (yF c5)]; exact Mo _ (by subst c5; rfl)
   rw [xb (yE c5)]
   have c1 : n = 1 := by omega
   exact fin _ (by subst c1; rfl)
  ·rw [xK (yH k2),if_neg (fun h => k2 h.2.1),if_neg (fun h => k2 h.2)]
 ·rw [xK (yH k1),if_neg (fun h => k1 h.1),if_neg (fun h => k1 h.1)]
theorem XW {p : List Nd} (hp : y3 p) (hl : p.length < 4294967290) {n : Int} {l : List Int} (hv : ∀ v ∈ l,InP p v) (h12 : 1 <= n /\ n <= 12) (hlen : (l.length : Int) = zq n) :
  V 246 [rP p,iN n,.rs (1,0) (l.map eI)] = YF p (J7 p n l) := by
 obtain ⟨a,r,rfl⟩ : ∃ a r,l = a :: r := by
  by_cases h : n <= 6 \/ n = 11
  ·obtain ⟨a,b,rfl⟩ := FQ hlen (by omega); exact ⟨_,_,rfl⟩
  ·obtain ⟨a,rfl⟩ := LK hlen (by omega); exact ⟨_,_,rfl⟩
 have ha := hv a (by simp)
 rw [TE,Bi,Ft ha]
 unfold J7
 simp only [List.getD_cons_zero]
 by_cases h5 : n <= 5
 ·obtain ⟨a',b,e⟩ := FQ hlen (by omega)
  cases e
  have hb := hv b (by simp)
  obtain ⟨z,hz⟩ := Um (n := n) (by omega) (x := nod p a) (y := nod p b) (UN (Ia hp ha)) (UN (Ia hp hb))
  rw [xK (decide_eq_true h5),if_pos h5,Gl,Ft hb,Oh hz]
  simp only [List.getD_cons_zero,List.getD_cons_succ]
  by_cases hk : (nod p a).kind = 3 /\ (nod p b).kind = 3
  ·have e : (if n = 1 then ndI ((nod p a).n + (nod p b).n) else if n = 2 then ndI ((nod p a).n - (nod p b).n) else if n = 3 then ndI ((nod p a).n * (nod p b).n) else if n = 4 then ndB (decide ((nod p a).n < (nod p b).n)) else ndB ((nod p a).n == (nod p b).n)) = GI n (nod p a).n (nod p b).n := rfl
   rw [if_pos hk,if_pos hk,e]
   by_cases hw : wi (GI n (nod p a).n (nod p b).n).n (-1000000000) 1000000000 = true
   ·have hc : (nod p a).kind = 3 /\ (nod p b).kind = 3 /\ wi (GI n (nod p a).n (nod p b).n).n (-1000000000) 1000000000 = true := ⟨hk.1,hk.2,hw⟩
    rw [if_pos hw,if_pos hw,xb (yG rfl)]
    simp only [if_pos hc]
    rw [yU (zb (by omega) (GI n (nod p a).n (nod p b).n))]
    rfl
   ·rw [if_neg hw,if_neg hw]; rfl
  ·rw [if_neg hk,if_neg hk]; rfl
 rw [xb (decide_eq_false h5),if_neg h5]
 by_cases h6 : n = 6
 ·obtain ⟨a',b,e⟩ := FQ hlen (by omega)
  cases e
  rw [xK (yF h6),if_pos h6,Bi,Gl,yU (zb (by omega) (ndP a b))]
  rfl
 rw [xb (yE h6),if_neg h6]
 by_cases h8 : n <= 8
 ·rw [xK (decide_eq_true h8),if_pos (by omega)]
  by_cases hk : (nod p a).kind = 5
  ·rw [xb (yG hk),if_pos hk]
   by_cases h7 : n = 7
   ·rw [xK (yF h7),if_pos h7]; rfl
   ·rw [xb (yE h7),if_neg h7]; rfl
  ·rw [xK (yH hk),if_neg hk]; rfl
 rw [xb (decide_eq_false h8),if_neg (by omega)]
 by_cases h9 : n = 9
 ·rw [xK (yF h9),if_pos h9,BU (Ge _),yU (zb (by omega) (ndB _))]; rfl
 rw [xb (yE h9),if_neg h9]
 by_cases h10 : n = 10
 ·rw [xK (yF h10),if_pos h10,BU (Ge _),yU (zb (by omega) (ndB _))]; rfl
 rw [xb (yE h10),if_neg h10]
 by_cases h11 : n = 11
 ·obtain ⟨a',b,e⟩ := FQ hlen (by omega)
  cases e
  have hb := hv b (by simp)
  rw [xK (yF h11),if_pos h11,MR (SF hp hl),Bi,Fg ha.1 (by rw [QU]; exact ha.2),Gl,Fg hb.1 (by rw [QU]; exact hb.2),BU (Ge _),yU (zb (by omega) (ndB _))]
  rfl
 rw [xb (yE h11),if_neg h11]
 cases hk2 : (nod p a).kind == 2 with
 | true => rw [yk,BU (Ge _),yU (zb (by omega) (ndB _)),Bool.true_and]; rfl
 | false => rw [xJ,BU (Ge _),yU (zb (by omega) (ndB _)),Bool.false_and]; rfl
end
end Go.Eng
/-! a step of a machine keeps it right: plain -/
namespace Go.Eng

theorem zg {p : List Nd} (hp : y3 p) {x : Nd} (hx : okN x p.length = true) : y3 (p ++ [x]) := by
 intro j y hy
 rcases Nat.lt_or_ge j p.length with h | h
 ·rw [List.getElem?_append_left h] at hy; exact hp j y hy
 ·rw [List.getElem?_append_right h] at hy
  have : j = p.length := by have := aQ hy; simp at this; omega
  subst this
  simp at hy; subst hy; exact hx
theorem QB (h : Int) : okN ndN h = true := by
 show (wi 0 0 0 && (nz ⟨#[]⟩ && _)) = true
 rw [Gp]; rfl
theorem IP {a b : Int} {n : Nat} (ha : 0 <= a /\ a < (n : Int)) (hb : 0 <= b /\ b < (n : Int)) : okN (ndP a b) n = true := by
 show (wi 0 0 0 && (nz ⟨#[]⟩ && (wi a 0 _ && wi b 0 _))) = true
 rw [wi_iff.2 ⟨ha.1,by omega⟩,wi_iff.2 ⟨hb.1,by omega⟩,Gp]; rfl
theorem QA {n h : Int} (hn : -1000000000 <= n /\ n <= 1000000000) : okN (ndI n) h = true := by
 show (wi n (-1000000000) 1000000000 && (nz ⟨#[]⟩ && _)) = true
 rw [wi_iff.2 hn,Gp]; rfl
theorem UO {k a : Int} {n : Nat} (hk : 0 <= k /\ k <= 1000000000) (ha : 0 <= a /\ a < (n : Int)) : okN (ndF k a) n = true := by
 show (wi k 0 1000000000 && (nz ⟨#[]⟩ && (wi a 0 _ && _))) = true
 rw [wi_iff.2 hk,wi_iff.2 ⟨ha.1,by omega⟩,Gp]; rfl
theorem UQ {a : Int} {n : Nat} (ha : 0 <= a /\ a < (n : Int)) : okN (ndK a) n = true := by
 show (wi 0 0 0 && (nz ⟨#[]⟩ && (wi a 0 _ && _))) = true
 rw [wi_iff.2 ⟨ha.1,by omega⟩,Gp]; rfl
theorem Xo {k h : Int} (hk : 0 <= k /\ k <= 99) : okN (ndR k) h = true := by
 show (wi k 0 99 && (nz ⟨#[]⟩ && _)) = true
 rw [wi_iff.2 hk,Gp]; rfl
theorem zU (p : List Nd) (x : Nd) : InP (p ++ [x]) (p.length : Int) := ⟨by omega,by simp only [lnA,lnC,lnN]; omega⟩
theorem JV : ∀ (r : List Int) (q : List Nd) (c : Nat),y3 q -> c < q.length -> (∀ v ∈ r,InP q v) -> y3 (AP r q c).1 /\ (∃ t,(AP r q c).1 = q ++ t /\ t.length = r.length) /\ (AP r q c).2 < (AP r q c).1.length
 | [],q,c,hq,hc,hr => ⟨hq,⟨[],by simp [AP],rfl⟩,hc⟩
 | x :: r,q,c,hq,hc,hr => by
  have hx := hr x (by simp)
  obtain ⟨h1,⟨t,h2,h3⟩,h4⟩ := JV r (q ++ [ndP x c]) q.length (zg hq (IP hx ⟨by omega,by omega⟩)) (by simp) (fun v hv => y0 _ (hr v (by simp [hv])))
  exact ⟨h1,⟨ndP x c :: t,by rw [AP,h2]; simp,by simp [h3]⟩,h4⟩
theorem CX {q : List Nd} {row : List Int} (hq : y3 q) (hr : ∀ v ∈ row,InP q v) : y3 (yV q row).1 /\ (∃ t,(yV q row).1 = q ++ t /\ t.length = row.length + 1) /\ InP (yV q row).1 ((yV q row).2 : Int) := by
 obtain ⟨h1,⟨t,h2,h3⟩,h4⟩ := JV row.reverse (q ++ [ndN]) q.length (zg hq (QB _)) (by simp) (fun v hv => y0 _ (hr v (by simpa using hv)))
 refine ⟨h1,⟨ndN :: t,by unfold yV; rw [h2]; simp,by simp [h3]⟩,⟨by omega,?_⟩⟩
 have : (yV q row).2 < (yV q row).1.length := h4
 omega
structure GM (m : Mc) : Prop where
 ok : y3 m.pool
 s : InP m.pool m.s
 e : InP m.pool m.e
 d : InP m.pool m.d
theorem Gx {m : Mc} (h : GM m) {v : Int} (hv : InP m.pool v) : GM (Ly m v) :=
 ⟨zg h.ok (IP hv h.s),zU _ _,y0 _ h.e,y0 _ h.d⟩
theorem D8 {m m' : Mc} (h : GM m) {v : Int} (ht : Fk m = some (v,m')) : GM m' /\ InP m'.pool v /\ m'.pool = m.pool /\ m'.at' = m.at' /\ m'.state = m.state /\ m'.ask = m.ask /\ m'.arg = m.arg /\ m'.d = m.d := by
 obtain ⟨h1,h2,h3,h4,h5,h6,h7,h8,h9⟩ := SE h.ok h.s ht
 exact ⟨⟨by rw [h2]; exact h.ok,by rw [h2]; exact h3,by rw [h2,h4]; exact h.e,by rw [h2,h5]; exact h.d⟩,by rw [h2]; exact h1,h2,h6,h7,h8,h9,h5⟩
theorem IU : ∀ {k : Nat} {m m' : Mc} {l : List Int},GM m -> FC k m = some (l,m') -> GM m' /\ (∀ v ∈ l,InP m'.pool v) /\ l.length = k /\ m'.pool = m.pool /\ m'.at' = m.at' /\ m'.state = m.state /\ m'.ask = m.ask /\ m'.arg = m.arg /\ m'.d = m.d
 | 0,m,m',l,h,ht => by
  simp only [FC,Option.some.injEq,Prod.mk.injEq] at ht
  obtain ⟨rfl,rfl⟩ := ht
  exact ⟨h,by simp,rfl,rfl,rfl,rfl,rfl,rfl,rfl⟩
 | k + 1,m,m',l,h,ht => by
  simp only [FC] at ht
  split at ht
  ·cases ht
  ·rename_i v m1 h1
   split at ht
   ·cases ht
   ·rename_i l2 m2 h2
    cases ht
    obtain ⟨g1,g2,g3,g4,g5,g6,g7,g8⟩ := D8 h h1
    obtain ⟨f1,f2,f3,f4,f5,f6,f7,f8,f9⟩ := IU g1 h2
    refine ⟨f1,fun u hu => ?_,by simp [f3],f4.trans g3,f5.trans g4,f6.trans g5,f7.trans g6,f8.trans g7,f9.trans g8⟩
    rcases List.mem_cons.1 hu with rfl | hu
    ·rw [f4]; exact g2
    ·exact f2 u hu
theorem IG {p : List Nd} (hp : y3 p) {v : Int} (hv : InP p v) : ∀ x ∈ (zR p v).1,InP p x := UH hp _ v hv
theorem OT {c : Cd} {p : List Nd} (hp : y3 p) {v : Int} (hv : InP p v) {many : Nat} {n : Int} {r : List Int} (h : Jx c p v many = some (n,r)) : Bx c n = true /\ (∀ x ∈ r,InP p x) /\ r.length + 1 = many := by
 unfold Jx at h
 split at h
 ·rename_i a r' he
  split at h
  ·rename_i hc
   cases h
   have := IG hp hv
   rw [he] at this
   exact ⟨hc.2.2,fun x hx => this x (by simp [hx]),hc.1⟩
  ·cases h
 ·cases h
structure GoesM (c : Cd) (m m' : Mc) (k : Nat) : Prop where
 gm : GM m'
 ext : ∃ t,m'.pool = m.pool ++ t /\ t.length <= k
 st : J6 c m' = true
theorem Ic {c : Cd} {m : Mc} (h0 : m.state = 0) (h1 : m.ask = 0) (h2 : m.arg = 0) (h3 : Bx c m.at' = true) : J6 c m = true := by
 unfold J6
 rw [if_pos h0,h1,h2]
 unfold Bx at h3
 rw [h3]; rfl
structure RunM (c : Cd) (m : Mc) : Prop where
 gm : GM m
 st : m.state = 0
 ask : m.ask = 0
 arg : m.arg = 0
 pl : Bx c m.at' = true
theorem isPl_iff {c : Cd} {n : Int} : Bx c n = true ↔ 0 <= n /\ n <= (c.list.length : Int) - 1 := wi_iff
theorem Rf {c : Cd} (hc : c.list.length <= 400) {m m' : Mc} (h : RunM c m) {f : Nd} (hf : InP m.pool f.a) {l : List Int} (hl : ∀ v ∈ l,InP m.pool v) (he : Kx c m f l = .ok m') : GoesM c m m' (l.length + 9) := by
 unfold Kx at he
 split at he
 ·cases he
 split at he
 ·cases he
 rename_i h1 h2
 have hpl := isPl_iff.1 h.pl
 simp only [Except.ok.injEq] at he
 have o1 : y3 (m.pool ++ [ndI (m.at' + 1)]) := zg h.gm.ok (QA (by omega))
 obtain ⟨b1,⟨t,b2,b3⟩,b4⟩ := CX (row := [(m.pool.length : Int),m.s,m.e]) o1 (fun v hv => by
  simp only [List.mem_cons,List.not_mem_nil,or_false] at hv
  rcases hv with rfl | rfl | rfl
  ·exact zU _ _
  ·exact y0 _ h.gm.s
  ·exact y0 _ h.gm.e)
 have e1 : (yV (m.pool ++ [ndI (m.at' + 1)]) [(m.pool.length : Int),m.s,m.e]).1 = m.pool ++ (ndI (m.at' + 1) :: t) := by rw [b2]; simp
 have up : ∀ {v : Int},InP m.pool v -> InP (yV (m.pool ++ [ndI (m.at' + 1)]) [(m.pool.length : Int),m.s,m.e]).1 v := fun hv => by rw [e1]; exact y0 _ hv
 have o2 := zg b1 (IP b4 (up h.gm.d))
 obtain ⟨v1,⟨t2,v2,v3⟩,v4⟩ := CX (row := l) o2 (fun v hv => y0 _ (up (hl v hv)))
 have up2 : ∀ {v : Int},InP ((yV (m.pool ++ [ndI (m.at' + 1)]) [(m.pool.length : Int),m.s,m.e]).1 ++ [ndP ((yV (m.pool ++ [ndI (m.at' + 1)]) [(m.pool.length : Int),m.s,m.e]).2 : Int) m.d]) v -> InP (yV ((yV (m.pool ++ [ndI (m.at' + 1)]) [(m.pool.length : Int),m.s,m.e]).1 ++ [ndP ((yV (m.pool ++ [ndI (m.at' + 1)]) [(m.pool.length : Int),m.s,m.e]).2 : Int) m.d]) l).1 v := fun hv => by rw [v2]; exact y0 _ hv
 have o3 := zg v1 (IP v4 (up2 (y0 _ (up hf))))
 have o4 := zg o3 (QB _)
 subst he
 refine ⟨⟨o4,?_,?_,?_⟩,⟨ndI (m.at' + 1) :: t ++ [ndP ((yV (m.pool ++ [ndI (m.at' + 1)]) [(m.pool.length : Int),m.s,m.e]).2 : Int) m.d] ++ t2 ++ [ndP ((yV ((yV (m.pool ++ [ndI (m.at' + 1)]) [(m.pool.length : Int),m.s,m.e]).1 ++ [ndP ((yV (m.pool ++ [ndI (m.at' + 1)]) [(m.pool.length : Int),m.s,m.e]).2 : Int) m.d]) l).2 : Int) f.a] ++ [ndN],?_,?_⟩,?_⟩
 ·have := zU ((yV ((yV (m.pool ++ [ndI (m.at' + 1)]) [(m.pool.length : Int),m.s,m.e]).1 ++ [ndP ((yV (m.pool ++ [ndI (m.at' + 1)]) [(m.pool.length : Int),m.s,m.e]).2 : Int) m.d]) l).1 ++ [ndP ((yV ((yV (m.pool ++ [ndI (m.at' + 1)]) [(m.pool.length : Int),m.s,m.e]).1 ++ [ndP ((yV (m.pool ++ [ndI (m.at' + 1)]) [(m.pool.length : Int),m.s,m.e]).2 : Int) m.d]) l).2 : Int) f.a]) ndN
  simpa using this
 ·exact y0 _ (zU _ _)
 ·exact y0 _ (y0 _ (up2 (zU _ _)))
 ·show _ ++ _ ++ _ = _
  rw [v2,b2]
  simp
 ·simp only [lnA,lnC,lnN,b3,v3]; omega
 ·exact Ic h.st h.ask h.arg (by simpa using h2)
theorem VG {c : Cd} {m m' : Mc} (h : RunM c m) {st : Int} (hs : InP m.pool st) {l : List Int} (hl : ∀ v ∈ l,InP m.pool v) (he : VF c m st l = .ok m') : GoesM c m m' 1 := by
 unfold VF at he
 split at he
 ·cases he
 rename_i h1
 split at he
 ·rename_i n s e d hf
  obtain ⟨f1,f2,f3⟩ := OT h.gm.ok hs hf
  cases he
  have hv : InP m.pool (l.getD 0 0) := by
   match l,h1 with
   | [v],_ => exact hl v (by simp)
   | [],h => simp at h
   | _ :: _ :: _,h => simp at h
  have g : GM ⟨m.pool,n,s,e,d,m.state,m.ask,m.arg⟩ := ⟨h.gm.ok,f2 s (by simp),f2 e (by simp),f2 d (by simp)⟩
  exact ⟨Gx g hv,⟨[_],rfl,Nat.le_refl _⟩,Ic h.st h.ask h.arg f1⟩
 ·cases he
theorem Sq {p q : List Nd} (hp : y3 p) {n v : Int} {l : List Int} (hv : ∀ v ∈ l,InP p v) (h12 : 1 <= n /\ n <= 12) (hlen : (l.length : Int) = zq n) (h : J7 p n l = .ok (q,v)) : y3 q /\ InP q v /\ ∃ t,q = p ++ t /\ t.length <= 1 := by
 rw [J8 h12 hlen] at h
 split at h
 ·rename_i hc
  have one : n = 7 \/ n = 8 -> ∃ a,l = [a] /\ (nod p a).kind = 5 := by
   intro h78
   obtain ⟨a,rfl⟩ := LK hlen (by omega)
   have := List.all_eq_true.1 hc a (by simp)
   refine ⟨a,rfl,?_⟩
   have h5 : ¬ n <= 5 := by omega
   simpa [NF,h5,h78] using this
  split at h
  ·rename_i h7
   cases h
   obtain ⟨a,rfl,hk⟩ := one (.inl h7)
   exact ⟨hp,JY hp (hv a (by simp)) (.inl hk),[],by simp,by simp⟩
  ·split at h
   ·rename_i h7 h8
    cases h
    obtain ⟨a,rfl,hk⟩ := one (.inr h8)
    exact ⟨hp,KV hp (hv a (by simp)) hk,[],by simp,by simp⟩
   ·rename_i h7 h8
    split at h
    ·rename_i hw
     cases h
     exact ⟨zg hp (TZ hp hv hlen h12 ⟨h7,h8⟩ hw),zU _ _,_,rfl,Nat.le_refl _⟩
    ·cases h
 ·cases h
theorem Cq {n : Int} {k : Nat} (h : zq n = (k : Int)) : 1 <= n /\ n <= 19 /\ k <= 2 := by
 unfold zq at h
 split at h
 ·rename_i hw
  have := wi_iff.1 hw
  refine ⟨this.1,this.2,?_⟩
  have hm : prArgs.getD (n - 1).toNat 0 <= 2 := by
   rcases Nat.lt_or_ge (n - 1).toNat prArgs.length with h | h
   ·have := List.getElem_mem (l := prArgs) h
    rw [List.getD_eq_getElem?_getD,List.getElem?_eq_getElem h,Option.getD_some]
    have all : ∀ x ∈ prArgs,x <= 2 := by decide
    exact all _ this
   ·rw [List.getD_eq_getElem?_getD,List.getElem?_eq_none h]; decide
  omega
 ·omega
theorem LM {c : Cd} (hc : c.list.length <= 400) : ∀ (k : Nat) {m m' : Mc} {f : Int} {l : List Int},RunM c m -> Bx c (m.at' + 1) = true -> InP m.pool f -> (∀ v ∈ l,InP m.pool v) -> l.length <= 4 -> FT c k m f l = .ok m' -> ∃ t,GoesM c m m' t /\ t <= 13 + 7 * k
 | 0,m,m',f,l,h,hnx,hf,hl,h4,he => by cases he
 | k + 1,m,m',f,l,h,hnx,hf,hl,h4,he => by
  unfold FT at he
  simp only at he
  split at he
  ·rename_i h6
   exact ⟨_,Rf hc h (JY h.gm.ok hf (.inr (.inl h6))) hl he,by omega⟩
  split at he
  ·rename_i h6 h8
   split at he
   ·cases he
   rename_i hargs
   have hargs : zq (nod m.pool f).n = (l.length : Int) := by omega
   obtain ⟨n1,n19,l2⟩ := Cq hargs
   split at he
   ·rename_i h18
    have hpl := isPl_iff.1 h.pl
    have o1 : y3 (m.pool ++ [ndI (m.at' + 1)]) := zg h.gm.ok (QA (by omega))
    obtain ⟨b1,⟨t,b2,b3⟩,b4⟩ := CX (row := [(m.pool.length : Int),m.s,m.e,m.d]) o1 (fun v hv => by
     simp only [List.mem_cons,List.not_mem_nil,or_false] at hv
     rcases hv with rfl | rfl | rfl | rfl
     ·exact zU _ _
     ·exact y0 _ h.gm.s
     ·exact y0 _ h.gm.e
     ·exact y0 _ h.gm.d)
    have e1 : (yV (m.pool ++ [ndI (m.at' + 1)]) [(m.pool.length : Int),m.s,m.e,m.d]).1 = m.pool ++ (ndI (m.at' + 1) :: t) := by rw [b2]; simp
    have up : ∀ {v : Int},InP m.pool v -> InP ((yV (m.pool ++ [ndI (m.at' + 1)]) [(m.pool.length : Int),m.s,m.e,m.d]).1 ++ [ndK ((yV (m.pool ++ [ndI (m.at' + 1)]) [(m.pool.length : Int),m.s,m.e,m.d]).2 : Int)]) v := fun hv => y0 _ (by rw [e1]; exact y0 _ hv)
    have hl0 : InP m.pool (l.getD 0 0) := by
     match l,hargs with
     | v :: _,_ => exact hl v (by simp)
     | [],h => rw [h18] at h; cases h
    have g2 : RunM c ⟨(yV (m.pool ++ [ndI (m.at' + 1)]) [(m.pool.length : Int),m.s,m.e,m.d]).1 ++ [ndK ((yV (m.pool ++ [ndI (m.at' + 1)]) [(m.pool.length : Int),m.s,m.e,m.d]).2 : Int)],m.at',m.s,m.e,m.d,m.state,m.ask,m.arg⟩ :=
     ⟨⟨zg b1 (UQ b4),up h.gm.s,up h.gm.e,up h.gm.d⟩,h.st,h.ask,h.arg,h.pl⟩
    obtain ⟨q,⟨g3,⟨t3,g4,g5⟩,g6⟩,g7⟩ := LM hc k g2 hnx (up hl0) (fun v hv => by
     simp only [List.mem_singleton] at hv; subst hv; exact zU _ _) (by simp) he
    refine ⟨q + 7,⟨g3,⟨ndI (m.at' + 1) :: t ++ [ndK ((yV (m.pool ++ [ndI (m.at' + 1)]) [(m.pool.length : Int),m.s,m.e,m.d]).2 : Int)] ++ t3,?_,?_⟩,g6⟩,by omega⟩
    ·rw [g4]
     show _ ++ _ ++ _ = _
     rw [b2]
     simp
    ·simp only [lnA,lnC,lnN,b3]; omega
   split at he
   ·rename_i h18 h12
    simp only [Except.ok.injEq] at he
    obtain ⟨b1,⟨t,b2,b3⟩,b4⟩ := CX (row := l) h.gm.ok hl
    subst he
    have up : ∀ {v : Int},InP m.pool v -> InP (yV m.pool l).1 v := fun hv => by rw [b2]; exact y0 _ hv
    refine ⟨l.length + 1,⟨⟨b1,up h.gm.s,up h.gm.e,up h.gm.d⟩,⟨t,b2,by omega⟩,?_⟩,by omega⟩
    unfold J6
    have hpl : wi m.at' 0 ((c.list.length : Int) - 1) = true := h.pl
    have hn : wi (nod m.pool f).n 13 19 = true := wi_iff.2 ⟨by omega,n19⟩
    have hr : Lu (yV m.pool l).1 ((yV m.pool l).2 : Int) = true := wi_iff.2 ⟨b4.1,by have := b4.2; omega⟩
    simp only
    rw [if_neg (by omega),if_pos trivial,hpl,hn,hr,yH h18]
    rfl
   split at he
   ·cases he
   ·rename_i h18 h12 p v hp
    cases he
    obtain ⟨q1,q2,t,q3,q4⟩ := Sq h.gm.ok hl (by omega) hargs.symm hp
    have up : ∀ {v : Int},InP m.pool v -> InP p v := fun hv => by rw [q3]; exact y0 _ hv
    refine ⟨2,⟨⟨zg q1 (IP q2 (up h.gm.s)),zU _ _,y0 _ (up h.gm.e),y0 _ (up h.gm.d)⟩,⟨t ++ [ndP v m.s],by show p ++ _ = _; rw [q3]; simp,by simp; omega⟩,?_⟩,by omega⟩
    exact Ic h.st h.ask h.arg hnx
  split at he
  ·rename_i h6 h8 h7
   exact ⟨1,VG h (JY h.gm.ok hf (.inr (.inr h7))) hl he,by omega⟩
  ·cases he
theorem NC {c : Cd} (hc : c.list.length <= 400) {m m' : Mc} (h : RunM c m) {k : Nat} (hk : k <= 4) (he : CU c m k = .ok m') : ∃ t,GoesM c m m' t /\ t <= 34 := by
 unfold CU at he
 split at he
 ·cases he
 rename_i hnx
 split at he
 ·cases he
 ·rename_i l m1 ht
  obtain ⟨f1,f2,f3,f4,f5,f6,f7,f8,f9⟩ := IU h.gm ht
  have g : RunM c m1 := ⟨f1,f6.trans h.st,f7.trans h.ask,f8.trans h.arg,by rw [f5]; exact h.pl⟩
  have hrev : ∀ v ∈ l.reverse,InP m1.pool v := fun v hv => f2 v (by simpa using hv)
  obtain ⟨a,r,hr⟩ : ∃ a r,l.reverse = a :: r := by
   cases hq : l.reverse with
   | nil => rw [<- List.length_reverse,hq] at f3; simp at f3
   | cons a r => exact ⟨a,r,rfl⟩
  rw [hr] at he hrev
  have hlen : r.length = k := by rw [<- List.length_reverse,hr] at f3; simpa using f3
  obtain ⟨t,⟨g1,⟨q,g2,g3⟩,g4⟩,g5⟩ := LM hc 3 g (by rw [f5]; simpa using hnx) (hrev a (by simp)) (fun v hv => hrev v (by simpa using .inr hv)) (by simpa using (by omega : r.length <= 4)) he
  exact ⟨t,⟨g1,⟨q,by rw [g2,f4],g3⟩,g4⟩,by omega⟩
theorem Te {c : Cd} {m m' : Mc} (h : RunM c m) (he : KQ c m = .ok m') : GoesM c m m' 1 := by
 unfold KQ at he
 split at he
 ·cases he
 ·rename_i v m1 ht
  obtain ⟨f1,f2,f4,f5,f6,f7,f8,f9⟩ := D8 h.gm ht
  simp only at he
  split at he
  ·cases he
   refine ⟨⟨f1.ok,f1.s,f1.e,f1.d⟩,⟨[],by rw [List.append_nil]; exact f4,by simp⟩,?_⟩
   unfold J6
   have hv : Lu m1.pool v = true := wi_iff.2 ⟨f2.1,by have := f2.2; omega⟩
   show (if (2 : Int) = 0 then _ else if (2 : Int) = 1 then _ else if (2 : Int) = 2 then _ else _) = true
   rw [if_neg (by omega),if_neg (by omega),if_pos rfl,hv,f7,h.ask]
   rfl
  ·split at he
   ·cases he
   ·rename_i h1 h5
    have h5 : (nod m1.pool m1.d).kind = 5 := by simpa using h5
    split at he
    ·rename_i n s e hf
     obtain ⟨q1,q2,q3⟩ := OT f1.ok (JY f1.ok f1.d (.inl h5)) hf
     cases he
     have g : GM ⟨m1.pool,n,s,e,(nod m1.pool m1.d).b,m1.state,m1.ask,m1.arg⟩ := ⟨f1.ok,q2 s (by simp),q2 e (by simp),KV f1.ok f1.d h5⟩
     exact ⟨Gx g f2,⟨[_],by rw [<- f4]; rfl,Nat.le_refl _⟩,Ic (f6.trans h.st) (f7.trans h.ask) (f8.trans h.arg) q1⟩
    ·cases he
theorem Fc {q p : List Nd} (hq : yR q = true) (hp : y3 p) {v : Int} (hv : InP q v) (d : Int) : y3 (Ah d q v p).1 /\ InP (Ah d q v p).1 (Ah d q v p).2 /\ ∃ t,(Ah d q v p).1 = p ++ t /\ t.length <= q.length := by
 obtain ⟨h1,h2⟩ := Jy hq hp [v] d
 have hr : y1 q [v] = true := by
  simp only [y1,List.all_cons,List.all_nil,Bool.and_true]
  exact wi_iff.2 ⟨hv.1,by omega⟩
 have hon := AV hr v (by simp)
 obtain ⟨x,hx⟩ := xx (l := q) (i := v.toNat) (by omega)
 obtain ⟨j,hj,hj2⟩ := h2 v.toNat x hx hon
 refine ⟨h1,?_,?_⟩
 ·unfold Ah
  simp only
  rw [List.getD_eq_getElem?_getD,hj,Option.getD_some]
  have := aQ hj2
  exact ⟨by omega,by omega⟩
 ·obtain ⟨r,hr⟩ := MH d q (Au q [v]) q.length [] p
  have hl := GX d q (Au q [v]) q.length [] p
  refine ⟨r,hr,?_⟩
  rw [hr] at hl
  simp only [lnA] at hl
  omega
theorem KN {c : Cd} (hc : zG c = true) {k : Nat} {x : In} (hx : c.list[k]? = some x) : Ja c x k = true := by
 unfold zG at hc
 simp only [Bool.and_eq_true] at hc
 have key : ∀ (n i : Nat),Gb c i n = true -> ∀ j,i <= j -> j < i + n -> ∀ x,c.list[j]? = some x -> Ja c x j = true := by
  intro n
  induction n with
  | zero => intro i _ j h1 h2; omega
  | succ n ih =>
   intro i h j h1 h2 x hx
   simp only [Gb,Bool.and_eq_true] at h
   rcases Nat.lt_or_ge i j with hij | hij
   ·exact ih (i + 1) h.2 j hij (by omega) x hx
   ·have : j = i := by omega
    subst this
    have h3 := h.1
    rw [hx] at h3
    exact h3
 exact key c.list.length 0 hc.2.2.2.1 k (Nat.zero_le _) (by have := aQ hx; omega) x hx
theorem Pc {c : Cd} (hc : zG c = true) {k : Nat} {x : Df} (hx : c.defs[k]? = some x) : Vv c x k = true := by
 unfold zG at hc
 simp only [Bool.and_eq_true] at hc
 have key : ∀ (n i : Nat),D0 c i n = true -> ∀ j,i <= j -> j < i + n -> ∀ x,c.defs[j]? = some x -> Vv c x j = true := by
  intro n
  induction n with
  | zero => intro i _ j h1 h2; omega
  | succ n ih =>
   intro i h j h1 h2 x hx
   simp only [D0,Bool.and_eq_true] at h
   rcases Nat.lt_or_ge i j with hij | hij
   ·exact ih (i + 1) h.2 j hij (by omega) x hx
   ·have : j = i := by omega
    subst this
    have h3 := h.1
    rw [hx] at h3
    exact h3
 exact key c.defs.length 0 hc.2.2.2.2 k (Nat.zero_le _) (by have := aQ hx; omega) x hx
theorem zF {c : Cd} (hc : zG c = true) : yR c.pool = true /\ c.list.length <= 400 /\ c.defs.length <= 20 := by
 unfold zG at hc
 simp only [Bool.and_eq_true,decide_eq_true_eq] at hc
 exact ⟨hc.1,hc.2.1,hc.2.2.1⟩
theorem Ga {c : Cd} {m : Mc} {r : Except Int Mc} {next : Int} {m' : Mc} {k : Nat} (hr : ∀ m1,r = .ok m1 -> GM m1 /\ (∃ t,m1.pool = m.pool ++ t /\ t.length <= k) /\ m1.state = 0 /\ m1.ask = 0 /\ m1.arg = 0) (he : goM c r next = .ok m') : GoesM c m m' k := by
 unfold goM at he
 split at he
 ·cases he
 ·rename_i m1
  obtain ⟨h1,h2,h3,h4,h5⟩ := hr m1 rfl
  split at he
  ·rename_i hp
   cases he
   exact ⟨⟨h1.ok,h1.s,h1.e,h1.d⟩,h2,Ic h3 h4 h5 hp⟩
  ·cases he
theorem Xx {m m1 : Mc} (h : GM m) {o i : Int} (he : WX m o i = .ok m1) : GM m1 /\ (∃ t,m1.pool = m.pool ++ t /\ t.length <= 1) /\ m1.state = m.state /\ m1.ask = m.ask /\ m1.arg = m.arg := by
 unfold WX at he
 split at he
 ·cases he
 ·rename_i fr hfr
  split at he
  ·cases he
  ·rename_i v hv
   cases he
   exact ⟨Gx h (LG h.ok _ _ _ (LG h.ok _ _ _ h.e hfr) hv),⟨[_],rfl,Nat.le_refl _⟩,rfl,rfl,rfl⟩
theorem OJ {c : Cd} {s : ByteArray} (h : 0 <= Dn c s) : ∃ d,c.defs[(Dn c s).toNat]? = some d := by
 have hb : Dn c s < (c.defs.length : Int) := by
  unfold Dn ya at h ⊢
  cases hq : c.defs.findIdx? (fun d : Df => kc d.name s) with
  | none => rw [hq] at h; simp at h
  | some k =>
   rw [List.findIdx?_eq_some_iff_getElem] at hq
   obtain ⟨hk,_⟩ := hq
   simp only; omega
 exact xx (by omega)
theorem Wh {c : Cd} (hc : zG c = true) {m m1 : Mc} (h : GM m) {s : ByteArray} (he : KR c m s = .ok m1) : GM m1 /\ (∃ t,m1.pool = m.pool ++ t /\ t.length <= 3) /\ m1.state = m.state /\ m1.ask = m.ask /\ m1.arg = m.arg := by
 obtain ⟨_,c2,_⟩ := zF hc
 unfold KR at he
 split at he
 ·rename_i hd
  obtain ⟨d,hdg⟩ := OJ hd
  have hok := Pc hc hdg
  unfold Vv at hok
  simp only [Bool.and_eq_true] at hok
  have a1 := wi_iff.1 hok.2.2.1
  have a2 := wi_iff.1 hok.2.2.2
  simp only [List.getD_eq_getElem?_getD,hdg,Option.getD_some,Except.ok.injEq] at he
  subst he
  have o1 := zg h.ok (QB (m.pool.length : Int))
  have o2 := zg o1 (UO (k := 8 * d.at' + d.args) (a := (m.pool.length : Int)) (n := (m.pool ++ [ndN]).length) (by omega) ⟨by omega,by simp only [lnA,lnC,lnN]; omega⟩)
  have g : GM ⟨m.pool ++ [ndN] ++ [ndF (8 * d.at' + d.args) m.pool.length],m.at',m.s,m.e,m.d,m.state,m.ask,m.arg⟩ := ⟨o2,y0 _ (y0 _ h.s),y0 _ (y0 _ h.e),y0 _ (y0 _ h.d)⟩
  refine ⟨Gx g ⟨by omega,by simp only [lnA,lnC,lnN]; omega⟩,⟨_,by show _ ++ _ ++ _ ++ _ = _; rw [List.append_assoc,List.append_assoc],by simp⟩,rfl,rfl,rfl⟩
 ·split at he
  ·cases he
  ·simp only [Except.ok.injEq] at he
   subst he
   have hb := Nb s
   have o1 := zg h.ok (Xo (k := D4 s) (h := (m.pool.length : Int)) (by omega))
   have g : GM ⟨m.pool ++ [ndR (D4 s)],m.at',m.s,m.e,m.d,m.state,m.ask,m.arg⟩ := ⟨o1,y0 _ h.s,y0 _ h.e,y0 _ h.d⟩
   exact ⟨Gx g (zU _ _),⟨_,by show _ ++ _ ++ _ = _; rw [List.append_assoc],by simp⟩,rfl,rfl,rfl⟩
theorem Si {c : Cd} {x : In} {k : Int} (h : Ja c x k = true) (h1 : x.op = 1) : InP c.pool x.n := by
 unfold Ja at h
 rw [if_pos h1] at h
 simp only [Bool.and_eq_true] at h
 have := wi_iff.1 h.1
 exact ⟨this.1,by omega⟩
theorem Wv {c : Cd} {x : In} {k : Int} (h : Ja c x k = true) (h1 : x.op = 2) : (0 <= x.n /\ x.n <= 20) /\ 0 <= x.i /\ x.i <= 3 := by
 unfold Ja at h
 rw [if_neg (by omega),if_pos h1] at h
 simp only [Bool.and_eq_true] at h
 exact ⟨wi_iff.1 h.1,wi_iff.1 h.2.1⟩
theorem Sg {c : Cd} {x : In} {k : Int} (h : Ja c x k = true) (h1 : x.op = 6) : (k + 1 <= x.n /\ x.n <= (c.list.length : Int) - 1) /\ 0 <= x.i /\ x.i <= 4 := by
 unfold Ja at h
 rw [if_neg (by omega),if_neg (by omega),if_neg (by omega),if_neg (by omega),if_pos h1] at h
 simp only [Bool.and_eq_true] at h
 exact ⟨wi_iff.1 h.1,wi_iff.1 h.2.1⟩
theorem Pe {c : Cd} {x : In} {k : Int} (h : Ja c x k = true) (h1 : x.op = 7) : 0 <= x.i /\ x.i <= 4 := by
 unfold Ja at h
 rw [if_neg (by omega),if_neg (by omega),if_neg (by omega),if_neg (by omega),if_neg (by omega),if_pos h1] at h
 simp only [Bool.and_eq_true] at h
 exact wi_iff.1 h.2.1
theorem Sn {c : Cd} (hc : zG c = true) {m m' : Mc} (h : RunM c m) {x : In} {k : Nat} (hx : c.list[k]? = some x) (he : Jz c m x = .ok m') : GoesM c m m' (c.pool.length + 3) := by
 have hok := KN hc hx
 have hk := aQ hx
 obtain ⟨c1,c2,_⟩ := zF hc
 unfold Jz at he
 split at he
 ·rename_i h1
  have hlit := Si hok h1
  obtain ⟨f1,f2,t,f3,f4⟩ := Fc c1 h.gm.ok hlit (-1)
  refine Ga (fun m1 e => ?_) he
  cases e
  have up : ∀ {v : Int},InP m.pool v -> InP (Ah (-1) c.pool x.n m.pool).1 v := fun hv => by rw [f3]; exact y0 _ hv
  have g : GM ⟨(Ah (-1) c.pool x.n m.pool).1,m.at',m.s,m.e,m.d,m.state,m.ask,m.arg⟩ := ⟨f1,up h.gm.s,up h.gm.e,up h.gm.d⟩
  refine ⟨Gx g f2,⟨t ++ [_],by show (Ah (-1) c.pool x.n m.pool).1 ++ _ = _; rw [f3,List.append_assoc],by simp; omega⟩,h.st,h.ask,h.arg⟩
 split at he
 ·refine Ga (fun m1 e => ?_) he
  obtain ⟨g1,⟨t,g2,g3⟩,g4,g5,g6⟩ := Xx h.gm e
  exact ⟨g1,⟨t,g2,by omega⟩,g4.trans h.st,g5.trans h.ask,g6.trans h.arg⟩
 split at he
 ·refine Ga (fun m1 e => ?_) he
  obtain ⟨g1,⟨t,g2,g3⟩,g4,g5,g6⟩ := Wh hc h.gm e
  exact ⟨g1,⟨t,g2,by omega⟩,g4.trans h.st,g5.trans h.ask,g6.trans h.arg⟩
 split at he
 ·refine Ga (fun m1 e => ?_) he
  cases e
  exact ⟨h.gm,⟨[],by simp,by simp⟩,h.st,h.ask,h.arg⟩
 split at he
 ·rename_i h6
  have hf := Sg hok h6
  refine Ga (fun m1 e => ?_) he
  cases e
  have o1 := zg h.gm.ok (UO (k := 8 * x.n + x.i) (n := m.pool.length) (by omega) h.gm.e)
  have g : GM ⟨m.pool ++ [ndF (8 * x.n + x.i) m.e],m.at',m.s,m.e,m.d,m.state,m.ask,m.arg⟩ := ⟨o1,y0 _ h.gm.s,y0 _ h.gm.e,y0 _ h.gm.d⟩
  exact ⟨Gx g (zU _ _),⟨_,by show _ ++ _ ++ _ = _; rw [List.append_assoc],by simp⟩,h.st,h.ask,h.arg⟩
 ·split at he
  ·cases he
  ·rename_i v m1 ht
   obtain ⟨f1,f2,f4,f5,f6,f7,f8,f9⟩ := D8 h.gm ht
   refine Ga (fun m2 e => ?_) he
   cases e
   exact ⟨f1,⟨[],by simp [f4],by simp⟩,f6.trans h.st,f7.trans h.ask,f8.trans h.arg⟩
theorem Sk {c : Cd} {m : Mc} (h : GJ c m = true) (h0 : m.state = 0) : RunM c m /\ zG c = true /\ m.pool.length <= 3000 := by
 unfold GJ at h
 simp only [Bool.and_eq_true] at h
 obtain ⟨h1,h2,h3,h4,h5,h6⟩ := h
 obtain ⟨p1,p2⟩ := okPool_iff.1 h2
 have a3 := wi_iff.1 h3
 have a4 := wi_iff.1 h4
 have a5 := wi_iff.1 h5
 unfold J6 at h6
 rw [if_pos h0] at h6
 simp only [Bool.and_eq_true,beq_iff_eq] at h6
 exact ⟨⟨⟨p1,⟨a3.1,by omega⟩,⟨a4.1,by omega⟩,⟨a5.1,by omega⟩⟩,h0,h6.2.1,h6.2.2,h6.1⟩,h1,p2⟩
theorem UV {c : Cd} {m : Mc} (h : RunM c m) : ∃ x,c.list[m.at'.toNat]? = some x := by
 have := isPl_iff.1 h.pl
 exact xx (by omega)
theorem Ra {c : Cd} (hc : zG c = true) {m m' : Mc} (h : RunM c m) (he : doM c m = .ok m') : GoesM c m m' (c.pool.length + 34) := by
 obtain ⟨x,hx⟩ := UV h
 have hok := KN hc hx
 obtain ⟨c1,c2,_⟩ := zF hc
 unfold doM at he
 simp only [List.getD_eq_getElem?_getD,hx,Option.getD_some] at he
 split at he
 ·rename_i h7
  have := Pe hok h7
  obtain ⟨t,⟨g1,⟨q,g2,g3⟩,g4⟩,g5⟩ := NC c2 h (k := x.i.toNat) (by omega) he
  exact ⟨g1,⟨q,g2,by omega⟩,g4⟩
 split at he
 ·obtain ⟨g1,⟨q,g2,g3⟩,g4⟩ := Te h he
  exact ⟨g1,⟨q,g2,by omega⟩,g4⟩
 ·obtain ⟨g1,⟨q,g2,g3⟩,g4⟩ := Sn hc h hx he
  exact ⟨g1,⟨q,g2,by omega⟩,g4⟩
theorem UM {c : Cd} {m : Mc} (hc : zG c = true) (hp : y3 m.pool) (hl : m.pool.length <= 3000) (hs : InP m.pool m.s) (he : InP m.pool m.e) (hd : InP m.pool m.d) (ht : J6 c m = true) : GJ c m = true := by
 unfold GJ
 have h1 : yR m.pool = true := okPool_iff.2 ⟨hp,hl⟩
 have h2 : Lu m.pool m.s = true := wi_iff.2 ⟨hs.1,by omega⟩
 have h3 : Lu m.pool m.e = true := wi_iff.2 ⟨he.1,by omega⟩
 have h4 : Lu m.pool m.d = true := wi_iff.2 ⟨hd.1,by omega⟩
 rw [hc,h1,h2,h3,h4,ht]
 rfl
theorem Gv {c : Cd} {m : Mc} (h : GJ c m = true) : zG c = true /\ y3 m.pool /\ m.pool.length <= 3000 /\ InP m.pool m.s /\ InP m.pool m.e /\ InP m.pool m.d /\ J6 c m = true := by
 unfold GJ at h
 simp only [Bool.and_eq_true] at h
 obtain ⟨h1,h2,h3,h4,h5,h6⟩ := h
 obtain ⟨p1,p2⟩ := okPool_iff.1 h2
 have a3 := wi_iff.1 h3
 have a4 := wi_iff.1 h4
 have a5 := wi_iff.1 h5
 exact ⟨h1,p1,p2,⟨a3.1,by omega⟩,⟨a4.1,by omega⟩,⟨a5.1,by omega⟩,h6⟩
theorem Rz {c : Cd} {m : Mc} (h : GJ c m = true) {k : Int} (hk : 1 <= k /\ k <= 7) : GJ c (Ml m k) = true := by
 obtain ⟨h1,h2,h3,h4,h5,h6,_⟩ := Gv h
 refine UM h1 h2 h3 h4 h5 h6 ?_
 unfold J6 Ml
 simp only
 rw [if_neg (by omega),if_neg (by omega),if_neg (by omega),wi_iff.2 hk]
 rfl
end Go.Eng
/-! a step of a machine: the program's side: calls -/
namespace Go.Eng
open Go.Proofs Go.Proofs.Tryz
set_option maxHeartbeats 4000000

theorem KU {α : Type} {f : α -> D} {l : List α} {k : Int} (h : (l.length : Int) = k) : ni (l.map f).length = k := by rw [lnM]; exact h
theorem O8 {α : Type} {f : α -> D} {l : List α} {k : Int} (h : ¬ (l.length : Int) = k) : ¬ ni (l.map f).length = k := by rw [lnM]; exact h
theorem Wg {c : Cd} {p : List Nd} {v : Int} {many : Nat} {xs : List Int} {b : Bool} (h : zR p v = (xs,b)) (hm : 0 < many) : Jx c p v many = if b = true /\ xs.length = many /\ (nod p (xs.getD 0 0)).kind = 3 /\ Bx c (nod p (xs.getD 0 0)).n = true then some ((nod p (xs.getD 0 0)).n,xs.drop 1) else none := by
 unfold Jx
 rw [h]
 cases b with
 | false => rw [if_neg (fun h => by simp at h)]; cases xs <;> rfl
 | true =>
  cases xs with
  | nil => rw [if_neg (fun h => by have := h.2.1; simp at this; omega)]
  | cons a r =>
   simp only [lnC,List.getD_cons_zero,true_and,List.drop_one,List.tail_cons]
end Go.Eng
/-! a step of a machine: the program's side: whole -/
namespace Go.Eng
open Go.Proofs Go.Proofs.Tryz
set_option maxHeartbeats 4000000

theorem MC : ∀ (r : List Int) (q : List Nd) (c : Nat),∃ t,(AP r q c).1 = q ++ t
 | [],q,c => ⟨[],by simp [AP]⟩
 | x :: r,q,c => by
  obtain ⟨t,h⟩ := MC r (q ++ [ndP x c]) q.length
  exact ⟨ndP x c :: t,by rw [AP,h]; simp⟩
theorem Vh (q : List Nd) (row : List Int) : ∃ t,(yV q row).1 = q ++ t := by
 obtain ⟨t,h⟩ := MC row.reverse (q ++ [ndN]) q.length
 exact ⟨ndN :: t,by unfold yV; rw [h]; simp⟩
theorem Ws (p : List Nd) (x : Nd) : nod (p ++ [x]) (p.length : Int) = x := by simp [nod]
theorem LN {c : Cd} : ∀ (k : Nat) {m : Mc} {f : Int} {l : List Int},(∀ v ∈ l,InP m.pool v) -> (3 <= k \/ (2 <= k /\ (nod m.pool (l.getD 0 0)).kind = 7) \/ (1 <= k /\ (nod m.pool f).kind = 7)) -> FT c k m f l ≠ .error 0
 | 0,m,f,l,hv,hk => by omega
 | k + 1,m,f,l,hv,hk => by
  unfold FT
  simp only
  split
  ·unfold Kx
   split
   ·intro h; cases h
   ·split
    ·intro h; cases h
    ·intro h; cases h
  split
  ·rename_i h6 h8
   split
   ·intro h; cases h
   rename_i hargs
   split
   ·rename_i h18
    obtain ⟨v,r,rfl⟩ : ∃ v r,l = v :: r := by
     cases l with
     | nil => exact absurd (by rw [h18]; decide) hargs
     | cons v r => exact ⟨v,r,rfl⟩
    obtain ⟨t,ht⟩ := Vh (m.pool ++ [ndI (m.at' + 1)]) [(m.pool.length : Int),m.s,m.e,m.d]
    have e1 : (yV (m.pool ++ [ndI (m.at' + 1)]) [(m.pool.length : Int),m.s,m.e,m.d]).1 = m.pool ++ (ndI (m.at' + 1) :: t) := by rw [ht]; simp
    have hv0 := hv v (by simp)
    have up : nod ((yV (m.pool ++ [ndI (m.at' + 1)]) [(m.pool.length : Int),m.s,m.e,m.d]).1 ++ [ndK ((yV (m.pool ++ [ndI (m.at' + 1)]) [(m.pool.length : Int),m.s,m.e,m.d]).2 : Int)]) v = nod m.pool v := by
     rw [e1,List.append_assoc,Xm hv0]
    refine LN k (fun u hu => ?_) ?_
    ·simp only [List.mem_singleton] at hu; subst hu
     exact zU _ _
    ·rcases hk with hk | ⟨hk,h7⟩ | ⟨hk,h7⟩
     ·refine .inr (.inl ⟨by omega,?_⟩)
      simp only [List.getD_cons_zero]
      rw [Ws]
     ·refine .inr (.inr ⟨by omega,?_⟩)
      simp only [List.getD_cons_zero] at h7 ⊢
      rw [up,h7]
     ·omega
   split
   ·intro h; cases h
   split
   ·rename_i q hq
    intro h
    have hz : q + 1 = 0 := by injection h
    obtain ⟨n1,n19,l2⟩ := Cq (n := (nod m.pool f).n) (k := l.length) (by simpa using hargs)
    rw [J8 (by omega) (by simpa using (Eq.symm (by simpa using hargs : zq (nod m.pool f).n = (l.length : Int))))] at hq
    split at hq
    ·split at hq
     ·cases hq
     ·split at hq
      ·cases hq
      ·split at hq
       ·cases hq
       ·cases hq; omega
    ·cases hq; omega
   ·intro h; cases h
  split
  ·unfold VF
   split
   ·intro h; cases h
   ·split <;> (intro h; cases h)
  ·intro h; cases h
theorem Ox {c : Cd} : ∀ (k : Nat) {m : Mc} {f : Int} {l : List Int} {h : Int},FT c k m f l = .error h -> h = 0 \/ (1 <= h /\ h <= 7)
 | 0,m,f,l,h,he => by cases he; exact .inl rfl
 | k + 1,m,f,l,h,he => by
  unfold FT at he
  simp only at he
  split at he
  ·unfold Kx at he
   split at he
   ·cases he; omega
   ·split at he
    ·cases he; omega
    ·cases he
  split at he
  ·split at he
   ·cases he; omega
   rename_i hargs
   split at he
   ·exact Ox k he
   split at he
   ·cases he
   split at he
   ·rename_i q hq
    cases he
    obtain ⟨n1,n19,l2⟩ := Cq (n := (nod m.pool f).n) (k := l.length) (by simpa using hargs)
    rw [J8 (by omega) (by simpa using (Eq.symm (by simpa using hargs : zq (nod m.pool f).n = (l.length : Int))))] at hq
    split at hq
    ·split at hq
     ·cases hq
     ·split at hq
      ·cases hq
      ·split at hq
       ·cases hq
       ·cases hq; omega
    ·cases hq; omega
   ·cases he
  split at he
  ·unfold VF at he
   split at he
   ·cases he; omega
   ·split at he
    ·cases he
    ·cases he; omega
  ·cases he; omega
theorem Xb {c : Cd} (_ : zG c = true) {m : Mc} (h : RunM c m) {q : Int} (he : doM c m = .error q) : 1 <= q /\ q <= 7 := by
 unfold doM at he
 simp only at he
 split at he
 ·unfold CU at he
  split at he
  ·cases he; omega
  split at he
  ·cases he; omega
  ·rename_i l m1 ht
   obtain ⟨f1,f2,f3,f4,f5,f6,f7,f8,f9⟩ := IU h.gm ht
   rcases Ox 3 he with rfl | h1
   ·exact absurd he (LN 3 (fun v hv => f2 v (by have := List.mem_of_mem_drop hv; simpa using this)) (.inl (Nat.le_refl _)))
   ·exact h1
 split at he
 ·unfold KQ at he
  split at he
  ·cases he; omega
  simp only at he
  split at he
  ·cases he
  split at he
  ·cases he; omega
  split at he
  ·cases he
  ·cases he; omega
 ·have go : ∀ {r : Except Int Mc} {n : Int},(∀ q',r = .error q' -> 1 <= q' /\ q' <= 7) -> goM c r n = .error q -> 1 <= q /\ q <= 7 := by
   intro r n hr hg
   unfold goM at hg
   split at hg
   ·cases hg; exact hr _ rfl
   ·split at hg
    ·cases hg
    ·cases hg; omega
  unfold Jz at he
  split at he
  ·exact go (fun q' e => by cases e) he
  split at he
  ·refine go (fun q' e => ?_) he
   unfold WX at e
   split at e
   ·cases e; omega
   ·split at e
    ·cases e; omega
    ·cases e
  split at he
  ·refine go (fun q' e => ?_) he
   unfold KR at e
   split at e
   ·cases e
   ·split at e
    ·cases e; omega
    ·cases e
  split at he
  ·exact go (fun q' e => by cases e) he
  split at he
  ·exact go (fun q' e => by cases e) he
  split at he
  ·cases he; omega
  ·exact go (fun q' e => by cases e) he
theorem WA {c : Cd} {m : Mc} (h : GJ c m = true) (h0 : m.state = 0) : GJ c (SC c m) = true := by
 obtain ⟨hr,hc,hl⟩ := Sk h h0
 unfold SC
 cases he : doM c m with
 | error q => exact Rz h (Xb hc hr he)
 | ok m' =>
  obtain ⟨g1,⟨t,g2,g3⟩,g4⟩ := Ra hc hr he
  simp only
  split
  ·exact UM hc g1.ok ‹_› g1.s g1.e g1.d g4
  ·exact Rz h (by omega)

theorem Vw (a : Int) (r : List Int) : part ((a :: r).map eI) (some (Int.toNat 1,((a :: r).map eI).length - Int.toNat 1)) = r.map eI := by
 simp only [part,List.map_cons,lnC]
 show (r.map eI).take ((r.map eI).length + 1 - 1) = _
 exact List.take_of_length_le (by simp)
end Go.Eng
/-! a step of a machine: the reference's side: the stack,the frames,calls -/
namespace Go.Eng
noncomputable section
open Go.Proofs Go.Proofs.Tryz
set_option maxHeartbeats 4000000

abbrev eMo (m : Mc) : D := .op [.os (5,0) (m.pool.map eN),iN m.at',iN m.s,iN m.e,iN m.d,iN m.state,iN m.ask,iN m.arg]
def Ko (c : Cd) (X : Option Ret) (r : Except Int Mc) : Prop := match r with
 | .ok m => X = some (iN 0,[eMo m])
 | .error h => (h ≠ 0 /\ ∃ m',X = some (iN h,[eMo m'])) \/ (h = 7 /\ ∃ m',Bx c m'.at' = false /\ X = some (iN 0,[eMo m']))
theorem QC {c : Cd} {X : Option Ret} {m : Mc} (h : Ko c X (.ok m)) : X = some (iN 0,[eMo m]) := h
theorem M9 {c : Cd} {X : Option Ret} {h : Int} (e : Ko c X (.error h)) : (h ≠ 0 /\ ∃ m',X = some (iN h,[eMo m'])) \/ (h = 7 /\ ∃ m',Bx c m'.at' = false /\ X = some (iN 0,[eMo m'])) := e
theorem Ie {c : Cd} {X Y : Option Ret} {r : Except Int Mc} (h : Ko c X r) (hy : ∀ q m',X = some (iN q,[eMo m']) -> Y = some (iN q,[eMo m'])) : Ko c Y r := by
 cases r with
 | ok m => exact hy _ _ (QC h)
 | error q =>
  rcases M9 h with ⟨q0,m',hx⟩ | ⟨q7,m',hp,hx⟩
  ·exact .inl ⟨q0,m',hy _ _ hx⟩
  ·exact .inr ⟨q7,m',hp,hy _ _ hx⟩
theorem zh {c : Cd} {X : Option Ret} {h : Int} (m : Mc) (h0 : h ≠ 0) (e : X = some (iN h,[eMo m])) : Ko c X (.error h) := .inl ⟨h0,m,e⟩

theorem DA {m : Mc} (hl : m.pool.length < 4294967296) (v : Int) : V 95 [eMo m,iN v] = some (.tup [],[eMo (Ly m v)]) := by
 have h := zb hl (ndP v m.s)
 rw [Rx,yU h]
 rfl
theorem Ki {m : Mc} (hs : InP m.pool m.s) {v : Int} {m' : Mc} (h : Fk m = some (v,m')) : V 218 [eMo m] = some (.tup [iN v,.bool true],[eMo m']) := by
 unfold Fk at h
 rw [JQ,Ft hs]
 split at h
 ·rename_i h5
  cases h
  rw [xb (yG h5)]
 ·cases h
theorem Fm {m : Mc} (hs : InP m.pool m.s) (h : Fk m = none) : V 218 [eMo m] = some (.tup [iN 0,.bool false],[eMo m]) := by
 unfold Fk at h
 rw [JQ,Ft hs]
 split at h
 ·cases h
 ·rename_i h5
  rw [xK (yH h5)]
theorem Nj {p : List Nd} (hp : y3 p) : ∀ (k : Nat) (v : Int),InP p v -> k < 4611686018427387904 ->
  CJ v (k : Int) (p.map eN) = some (alD (Lv p k v),[])
 | 0,v,hv,hk => by
  rw [FM,xb (decide_eq_false (by omega)),PB hv]
  unfold Lv
  by_cases h5 : (nod p v).kind = 5
  ·rw [if_pos h5,xb (yG h5),Ye hv]; rfl
  ·rw [if_neg h5,xK (yH h5)]; rfl
 | k + 1,v,hv,hk => by
  have hw : w6 (((k + 1 : Nat) : Int) - 1) = (k : Int) := by rw [w64 (by omega) (by omega)]; omega
  rw [FM,xK (decide_eq_true (by omega)),PB hv]
  unfold Lv
  by_cases h5 : (nod p v).kind = 5
  ·have ih := Nj hp k (nod p v).b (KV hp hv h5) (by omega)
   rw [if_pos h5,xK (yF h5),Yf hv,hw,ih]
  ·rw [if_neg h5,xb (yE h5),PB hv,xK (yH h5)]; rfl
theorem UY {p : List Nd} (hp : y3 p) {v : Int} (hv : InP p v) {n : Int} (h0 : 0 <= n) (h1 : n < 4611686018427387904) : V 216 [eP p,iN v,iN n] = some (alD (Lv p n.toNat v),[]) := by
 have := Nj hp n.toNat v hv (by omega)
 rw [Int.toNat_of_nonneg h0] at this
 rw [Rv]
 exact this
theorem Jl {p : List Nd} (hp : y3 p) (hl : p.length < 4294967290) : ∀ (k : Nat) (v : Int) (acc : List Int),InP p v -> v < k -> acc.length + k < 4294967296 ->
  AX v (p.map eN) (acc.map eI) = some (.tup [.os (1,0) ((if (GW p k v).2 = true then acc ++ (GW p k v).1 else []).map eI),.bool (GW p k v).2],[])
 | 0,v,acc,hv,hk,ha => by omega
 | k + 1,v,acc,hv,hk,ha => by
  rw [IW,PB hv]
  unfold GW
  by_cases h5 : (nod p v).kind = 5
  ·have hb := zn (Ia hp hv) h5
   have ih := Jl hp hl k (nod p v).b (acc ++ [(nod p v).a]) (KV hp hv h5) (by omega) (by simp only [lnA,lnC,lnN]; omega)
   have ea : acc.map eI ++ [iN (nod p v).a] = (acc ++ [(nod p v).a]).map eI := by simp
   have hlim : decide (ni ((acc ++ [(nod p v).a]).map eI).length <= LIM) = true := decide_eq_true (by rw [pE]; simp only [ni,lnM,lnA,lnC,lnN]; omega)
   rw [if_pos h5,xK (yF h5),Ye hv,ea,yu hlim,yA,Yf hv,ih]
   simp
  ·rw [if_neg h5,xb (yE h5),PB hv]
   by_cases h1 : (nod p v).kind = 1
   ·rw [xb (yG h1)]; simp [h1]
   ·rw [xK (yH h1)]; simp [h1]
theorem D9 {p : List Nd} (hp : y3 p) (hl : p.length < 2147483648) {v : Int} (hv : InP p v) : V 228 [eP p,iN v] = some (.tup [.os (1,0) ((if (zR p v).2 = true then (zR p v).1 else []).map eI),.bool (zR p v).2],[]) := by
 have := Jl hp (by omega) (v.toNat + 1) v [] hv (by omega) (by simp only [lnN]; omega)
 rw [Mf]
 simp only [List.nil_append] at this
 exact this
def GP (p : List Nd) (v : Int) (many : Nat) : Option (Int × List Int) := if (zR p v).2 = true /\ (zR p v).1.length = many /\ (nod p ((zR p v).1.getD 0 0)).kind = 3 then some ((nod p ((zR p v).1.getD 0 0)).n,(zR p v).1.drop 1) else none
theorem OU {c : Cd} {p : List Nd} {v : Int} {many : Nat} (hm : 0 < many) : Jx c p v many = match GP p v many with
  | none => none
  | some (n,r) => if Bx c n = true then some (n,r) else none := by
 rw [Wg (xs := (zR p v).1) (b := (zR p v).2) rfl hm]
 unfold GP
 by_cases h : (zR p v).2 = true /\ (zR p v).1.length = many /\ (nod p ((zR p v).1.getD 0 0)).kind = 3
 ·rw [if_pos h]
  simp only
  by_cases h2 : Bx c (nod p ((zR p v).1.getD 0 0)).n = true
  ·rw [if_pos ⟨h.1,h.2.1,h.2.2,h2⟩,if_pos h2]
  ·rw [if_neg (fun q => h2 q.2.2.2),if_neg h2]
 ·rw [if_neg h,if_neg (fun q => h ⟨q.1,q.2.1,q.2.2.1⟩)]
theorem Mr {p : List Nd} {v : Int} {many : Nat} {n : Int} {r : List Int} (hm : 0 < many) (h : GP p v many = some (n,r)) : r.length + 1 = many := by
 unfold GP at h
 split at h
 ·rename_i hh; cases h; rw [List.length_drop]; omega
 ·cases h
def frD (r : Option (Int × List Int)) : D := match r with | some (n,l) => .tup [iN n,.os (1,0) (l.map eI),.bool true] | none => .tup [iN 0,.os (1,0) [],.bool false]
theorem Pt {p : List Nd} (hp : y3 p) (hl : p.length < 2147483648) {v : Int} (hv : InP p v) {many : Nat} (hm : 0 < many) : V 234 [eP p,iN v,iN (many : Int)] = some (frD (GP p v many),[]) := by
 have hlst := D9 hp hl hv
 have hin := IG hp hv
 rw [NY,Bz hlst]
 unfold GP
 cases hb : (zR p v).2 with
 | false => rw [if_neg (fun h => by simp at h)]; rfl
 | true =>
  rw [if_pos rfl,Bool.not_true,xJ]
  by_cases h4 : (zR p v).1.length = many
  ·cases hq : (zR p v).1 with
   | nil => rw [hq] at h4; simp at h4; omega
   | cons a r =>
    rw [hq] at hin h4
    have ha := hin a (by simp)
    rw [xb (yG (KU (by rw [h4]))),Bi,PB ha]
    by_cases h3 : (nod p a).kind = 3
    ·rw [xb (yG h3),Bi,Yu ha,yu (by simp [cW]; omega),Vw,if_pos ⟨rfl,h4,h3⟩]
     rfl
    ·rw [xK (yH h3),if_neg (fun h => h3 h.2.2)]; rfl
  ·rw [xK (yH (O8 (fun h => h4 (by omega)))),if_neg (fun h => h4 h.2.1)]; rfl

theorem Vy {p : List Nd} {n q : Int} {l : List Int} (h12 : 1 <= n /\ n <= 12) (hargs : (l.length : Int) = zq n) (hr : J7 p n l = .error q) : q = 3 \/ q = 4 := by
 rw [J8 h12 hargs] at hr
 split at hr
 ·split at hr
  ·cases hr
  ·split at hr
   ·cases hr
   ·split at hr
    ·cases hr
    ·cases hr; exact .inr rfl
 ·cases hr; exact .inl rfl
theorem Pq {c : Cd} (hc : c.list.length <= 400) : ∀ (k : Nat) {m : Mc} {f : Int} {l : List Int},RunM c m -> Bx c (m.at' + 1) = true -> m.pool.length + 100 * k < 2147483600 -> InP m.pool f -> (∀ v ∈ l,InP m.pool v) -> l.length <= 4 -> FT c k m f l ≠ .error 0 ->
  Ko c (V 233 [eCd c,eMo m,iN f,.rs (1,0) (l.map eI),iN (m.at' + 1)]) (FT c k m f l)
 | 0,m,f,l,h,hnx,hl,hf,hv,h4,h0 => absurd rfl h0
 | k + 1,m,f,l,h,hnx,hl,hf,hv,h4,h0 => by
  have hok := Ia h.gm.ok hf
  have hpl := isPl_iff.1 h.pl
  rw [NW,Ft hf]
  unfold FT at h0 ⊢
  simp only at h0 ⊢
  by_cases h6 : (nod m.pool f).kind = 6
  ·rw [if_pos h6,xK (yF h6)]
   have hfn : 0 <= (nod m.pool f).n /\ (nod m.pool f).n <= 1000000000 := by
    simp [okN,h6] at hok
    exact wi_iff.1 hok.1
   have t1 : Int.tmod (nod m.pool f).n 8 = (nod m.pool f).n % 8 := Int.tmod_eq_emod_of_nonneg hfn.1
   have t2 : Int.tdiv (nod m.pool f).n 8 = (nod m.pool f).n / 8 := Int.tdiv_eq_ediv_of_nonneg hfn.1
   rw [yu (by decide),t1,t2]
   unfold Kx
   by_cases h1 : (nod m.pool f).n % 8 = (l.length : Int)
   ·rw [if_neg (by omega),xb (yG (by rw [KU rfl]; exact h1)),yu (by decide),w64 (n := (nod m.pool f).n / 8) (by omega) (by omega),lnM]
    cases h2 : Bx c ((nod m.pool f).n / 8) with
    | false =>
     have : ¬ ((nod m.pool f).n / 8 <= (c.list.length : Int) - 1) := fun h => by
      have := isPl_iff.2 ⟨by omega,h⟩
      rw [h2] at this; cases this
     rw [if_pos rfl,xK (decide_eq_true (by simp only [ni]; omega))]
     exact zh m (by decide) rfl
    | true =>
     have h2' := isPl_iff.1 h2
     rw [if_neg (by simp),xb (decide_eq_false (by simp only [ni]; omega))]
     have a1 := zb (p := m.pool) (by omega) (ndI (m.at' + 1))
     have l1 := DD (m.pool ++ [ndI (m.at' + 1)]) [(m.pool.length : Int),m.s,m.e]
     simp only [lnA,lnC,lnN] at l1
     have a2 : V 210 [rP (m.pool ++ [ndI (m.at' + 1)]),.rs (1,0) [iN (m.pool.length : Int),iN m.s,iN m.e]] = _ := Iz (q := m.pool ++ [ndI (m.at' + 1)]) (row := [(m.pool.length : Int),m.s,m.e]) (by simp only [lnA,lnC,lnN]; omega)
     have a3 := zb (p := (yV (m.pool ++ [ndI (m.at' + 1)]) [(m.pool.length : Int),m.s,m.e]).1) (by omega) (ndP (yV (m.pool ++ [ndI (m.at' + 1)]) [(m.pool.length : Int),m.s,m.e]).2 m.d)
     rw [yU a1,BQ a2,yU a3]
     generalize hB : yV (m.pool ++ [ndI (m.at' + 1)]) [(m.pool.length : Int),m.s,m.e] = B at l1 ⊢
     have l2 := DD (B.1 ++ [ndP B.2 m.d]) l
     simp only [lnA,lnC,lnN] at l2
     have a4 := Iz (q := B.1 ++ [ndP B.2 m.d]) (row := l) (by simp only [lnA,lnC,lnN]; omega)
     have a5 := zb (p := (yV (B.1 ++ [ndP B.2 m.d]) l).1) (by omega) (ndP (yV (B.1 ++ [ndP B.2 m.d]) l).2 (nod m.pool f).a)
     have a6 := zb (p := (yV (B.1 ++ [ndP B.2 m.d]) l).1 ++ [ndP (yV (B.1 ++ [ndP B.2 m.d]) l).2 (nod m.pool f).a]) (by simp only [lnA,lnC,lnN]; omega) ndN
     have e6 : (((yV (B.1 ++ [ndP B.2 m.d]) l).1 ++ [ndP (yV (B.1 ++ [ndP B.2 m.d]) l).2 (nod m.pool f).a]).length : Int) = (yV (B.1 ++ [ndP B.2 m.d]) l).1.length + 1 := by simp
     rw [e6] at a6
     rw [BQ a4,yU a5,yU a6,yu (by decide)]
     rfl
   ·rw [if_pos h1,xK (yH (by rw [KU rfl]; exact h1))]
    exact zh m (by decide) rfl
  rw [if_neg h6] at h0 ⊢
  rw [xb (yE h6)]
  by_cases h8 : (nod m.pool f).kind = 8
  ·rw [if_pos h8] at h0 ⊢
   rw [xK (yF h8)]
   have prim : Ko c (V 240 [eCd c,eMo m,iN (nod m.pool f).n,.rs (1,0) (l.map eI),iN (m.at' + 1)]) (if zq (nod m.pool f).n ≠ (l.length : Int) then .error 2
     else if (nod m.pool f).n = 18 then
      FT c k ⟨(yV (m.pool ++ [ndI (m.at' + 1)]) [(m.pool.length : Int),m.s,m.e,m.d]).1 ++ [ndK (yV (m.pool ++ [ndI (m.at' + 1)]) [(m.pool.length : Int),m.s,m.e,m.d]).2],m.at',m.s,m.e,m.d,m.state,m.ask,m.arg⟩ (l.getD 0 0) [((yV (m.pool ++ [ndI (m.at' + 1)]) [(m.pool.length : Int),m.s,m.e,m.d]).1.length : Int)]
     else if (nod m.pool f).n > 12 then
      .ok ⟨(yV m.pool l).1,m.at',m.s,m.e,m.d,1,(nod m.pool f).n,(yV m.pool l).2⟩
     else match J7 m.pool (nod m.pool f).n l with
      | .error h => .error (h + 1)
      | .ok (p,v) => .ok ⟨p ++ [ndP v m.s],m.at' + 1,p.length,m.e,m.d,m.state,m.ask,m.arg⟩) := by
    rw [Qn,Og Lz]
    by_cases hargs : zq (nod m.pool f).n = (l.length : Int)
    ·have hargs' : ¬ zq (nod m.pool f).n ≠ (l.length : Int) := fun h => h hargs
     obtain ⟨n1,n19,l2⟩ := Cq hargs
     rw [if_neg hargs'] at h0 ⊢
     rw [xb (yG (KU hargs.symm))]
     by_cases h18 : (nod m.pool f).n = 18
     ·rw [if_pos h18] at h0 ⊢
      rw [xK (yF h18)]
      obtain ⟨v,rfl⟩ : ∃ v,l = [v] := by
       rw [h18] at hargs
       match l,hargs with
       | [v],_ => exact ⟨v,rfl⟩
       | [],h => cases h
       | _ :: _ :: r,h => simp only [lnC] at h; have : zq 18 = 1 := rfl; omega
      have a1 := zb (p := m.pool) (by omega) (ndI (m.at' + 1))
      have l1 := DD (m.pool ++ [ndI (m.at' + 1)]) [(m.pool.length : Int),m.s,m.e,m.d]
      simp only [lnA,lnC,lnN] at l1
      have a2 : V 210 [rP (m.pool ++ [ndI (m.at' + 1)]),.rs (1,0) [iN (m.pool.length : Int),iN m.s,iN m.e,iN m.d]] = _ := Iz (q := m.pool ++ [ndI (m.at' + 1)]) (row := [(m.pool.length : Int),m.s,m.e,m.d]) (by simp only [lnA,lnC,lnN]; omega)
      have o1 : y3 (m.pool ++ [ndI (m.at' + 1)]) := zg h.gm.ok (QA (by omega))
      obtain ⟨b1,⟨t,b2,b3⟩,b4⟩ := CX (row := [(m.pool.length : Int),m.s,m.e,m.d]) o1 (fun v hv => by
       simp only [List.mem_cons,List.not_mem_nil,or_false] at hv
       rcases hv with rfl | rfl | rfl | rfl
       ·exact zU _ _
       ·exact y0 _ h.gm.s
       ·exact y0 _ h.gm.e
       ·exact y0 _ h.gm.d)
      have e1 : (yV (m.pool ++ [ndI (m.at' + 1)]) [(m.pool.length : Int),m.s,m.e,m.d]).1 = m.pool ++ (ndI (m.at' + 1) :: t) := by rw [b2]; simp
      have up : ∀ {v : Int},InP m.pool v -> InP ((yV (m.pool ++ [ndI (m.at' + 1)]) [(m.pool.length : Int),m.s,m.e,m.d]).1 ++ [ndK ((yV (m.pool ++ [ndI (m.at' + 1)]) [(m.pool.length : Int),m.s,m.e,m.d]).2 : Int)]) v := fun hv => y0 _ (by rw [e1]; exact y0 _ hv)
      have g2 : RunM c ⟨(yV (m.pool ++ [ndI (m.at' + 1)]) [(m.pool.length : Int),m.s,m.e,m.d]).1 ++ [ndK ((yV (m.pool ++ [ndI (m.at' + 1)]) [(m.pool.length : Int),m.s,m.e,m.d]).2 : Int)],m.at',m.s,m.e,m.d,m.state,m.ask,m.arg⟩ :=
       ⟨⟨zg b1 (UQ b4),up h.gm.s,up h.gm.e,up h.gm.d⟩,h.st,h.ask,h.arg,h.pl⟩
      rw [yU a1,BQ a2]
      generalize hB : yV (m.pool ++ [ndI (m.at' + 1)]) [(m.pool.length : Int),m.s,m.e,m.d] = B at l1 b1 b2 b4 e1 up g2 h0 ⊢
      have a3 := zb (p := B.1) (by omega) (ndK (B.2 : Int))
      have a4 := Pq hc k g2 hnx (by show (B.1 ++ [ndK (B.2 : Int)]).length + 100 * k < _; simp only [lnA,lnC,lnN]; omega) (up (hv v (by simp))) (l := [(B.1.length : Int)]) (fun u hu => by
       simp only [List.mem_singleton] at hu; subst hu; exact zU _ _) (by simp) h0
      rw [yU a3,Bi]
      simp only [List.getD_cons_zero] at a4 ⊢
      simp only [List.map_cons,List.map_nil] at a4
      exact Ie a4 (fun q m' hx => by rw [J4 hx])
     rw [if_neg h18] at h0 ⊢
     rw [xb (yE h18)]
     by_cases h12 : (nod m.pool f).n > 12
     ·rw [if_pos h12,xK (decide_eq_true h12)]
      have a1 := Iz (q := m.pool) (row := l) (by omega)
      rw [BQ a1]
      rfl
     rw [if_neg h12,xb (decide_eq_false h12)]
     have hp := XW h.gm.ok (by omega) (n := (nod m.pool f).n) hv (by omega) hargs.symm
     cases hr : J7 m.pool (nod m.pool f).n l with
     | error q =>
      rw [hr] at hp
      have hq := Vy (by omega) hargs.symm hr
      rw [Pb hp]
      rcases hq with rfl | rfl
      ·exact zh m (by decide) rfl
      ·exact zh m (by decide) rfl
     | ok r =>
      obtain ⟨p,v⟩ := r
      rw [hr] at hp
      obtain ⟨q1,q2,t,q3,q4⟩ := Sq h.gm.ok hv (by omega) hargs.symm hr
      have hpl' : p.length < 4294967296 := by rw [q3]; simp only [lnA]; omega
      have a3 := DA (m := ⟨p,m.at',m.s,m.e,m.d,m.state,m.ask,m.arg⟩) hpl' v
      rw [Pb hp,xb (yE (by omega)),xb (yE (by omega)),zW a3]
      rfl
    ·rw [if_pos hargs,xK (yH (O8 (fun h => hargs h.symm)))]
     exact zh m (by decide) rfl
   exact Ie prim (fun q m' hx => by rw [Se hx])
  rw [if_neg h8,xb (yE h8)]
  by_cases h7 : (nod m.pool f).kind = 7
  ·rw [if_pos h7,xK (yF h7)]
   unfold VF
   by_cases h1 : l.length = 1
   ·have hs := JY h.gm.ok hf (.inr (.inr h7))
    have hfr : V 234 [eP m.pool,iN (nod m.pool f).a,iN 4] = _ := Pt h.gm.ok (by omega) hs (many := 4) (by omega)
    rw [if_neg (by omega),xb (yG (KU (by omega))),OU (by omega)]
    obtain ⟨v,rfl⟩ : ∃ v,l = [v] := by
     match l,h1 with
     | [v],_ => exact ⟨v,rfl⟩
     | [],h => simp at h
     | _ :: _ :: _,h => simp at h
    cases hq : GP m.pool (nod m.pool f).a 4 with
    | none =>
     rw [hq] at hfr
     rw [Bg hfr]
     exact zh m (by decide) rfl
    | some nr =>
     obtain ⟨n,r⟩ := nr
     rw [hq] at hfr
     have hlen := Mr (by omega) hq
     obtain ⟨s,e,d,rfl⟩ : ∃ s e d,r = [s,e,d] := by
      match r,hlen with
      | [s,e,d],_ => exact ⟨s,e,d,rfl⟩
      | [],h => simp at h
      | [_],h => simp at h
      | [_,_],h => simp at h
      | _ :: _ :: _ :: _ :: _,h => simp at h
     have a3 := DA (m := ⟨m.pool,n,s,e,d,m.state,m.ask,m.arg⟩) (by show m.pool.length < _; omega) v
     by_cases h5 : Bx c n = true
     ·simp only [h5,if_true]
      rw [Bg hfr,Bool.not_true,xJ,Bi,Gl,Wk,Bi,zW a3]
      rfl
     ·have h5f : Bx c n = false := by cases hz : Bx c n with | true => exact absurd hz h5 | false => rfl
      simp only [h5f]
      refine .inr ⟨rfl,Ly ⟨m.pool,n,s,e,d,m.state,m.ask,m.arg⟩ v,h5f,?_⟩
      rw [Bg hfr,Bool.not_true,xJ,Bi,Gl,Wk,Bi,zW a3]
   ·rw [if_pos h1,xK (yH (O8 (l := l) (k := 1) (fun h => h1 (by omega))))]
    exact zh m (by decide) rfl
  ·rw [if_neg h7,xb (yE h7)]
   exact zh m (by decide) rfl
end
end Go.Eng
/-! a step of a machine: the program's side: every instruction; runs -/
namespace Go.Eng
open Go.Proofs Go.Proofs.Tryz
set_option maxHeartbeats 4000000

theorem Pi {q : List Nd} {v : Int} (hv : InP q v) : y1 q [v] = true := by
 simp only [y1,List.all_cons,List.all_nil,Bool.and_true]
 exact wi_iff.2 ⟨hv.1,by omega⟩
theorem Wl {l : List Int} {v : Int} (h : 0 <= v /\ v < (l.length : Int)) {R : Type} (K : Int -> Option R) : grd (decide (0 <= v) && decide (v < ni (l.map eI).length)) (cT (l.map eI) v.toNat fun x => asI .i64 x fun n => K n) = K (l.getD v.toNat 0) := by
 obtain ⟨u,hu⟩ := AZ (l := l) h.1 h.2
 rw [JS h.1 hu]
 simp [hu]
noncomputable def QF (m : Mc) (p : List Nd) (v : Int) : Mc := ⟨(Ah (-1) p v m.pool).1 ++ [ndP (Ah (-1) p v m.pool).2 m.s],m.at' + 1,(Ah (-1) p v m.pool).1.length,m.e,m.d,0,0,0⟩
noncomputable def JE (c : Cd) (m : Mc) (p : List Nd) (v : Int) : Mc :=
 if GJ c m = true then
  if m.state = 1 /\ yR p = true /\ wi v 0 ((p.length : Int) - 1) = true then
   if Bx c (m.at' + 1) = true then (if (QF m p v).pool.length <= 3000 then QF m p v else Ml m 6) else Ml m 7
  else m
 else U3
end Go.Eng
/-! compiling: the reference's side -/
namespace Go.Eng
noncomputable section
open Go.Proofs Go.Proofs.Tryz
set_option maxHeartbeats 4000000

abbrev eMs (p : List Nd) (m : Ms) : D := .op [.os (5,0) (p.map eN),.os (4,0) (m.list.map eIn),.os (3,0) (m.defs.map eDf),iN m.how]
abbrev eEs (env : List (List ByteArray)) : List D := env.map fun e => D.rs (1,0) (e.map D.str)
structure Le (m m' : Ms) : Prop where
 len : m.list.length <= m'.list.length
 four : m'.list.length <= 400
 how : m'.how = 0 -> m.how = 0
 defs : m'.defs = m.defs
theorem Le.refl {m : Ms} (h : m.list.length <= 400) : Le m m := ⟨Nat.le_refl _,h,id,rfl⟩
theorem Le.trans {a b c : Ms} (h : Le a b) (h2 : Le b c) : Le a c := ⟨Nat.le_trans h.len h2.len,h2.four,fun x => h.how (h2.how x),h2.defs.trans h.defs⟩
theorem zI {m : Ms} (h : m.list.length <= 400) (x : In) : Le m (zN m x) := by
 unfold zN
 split
 ·rename_i h0
  split
  ·exact ⟨Nat.le_refl _,h,fun _ => h0,rfl⟩
  ·exact ⟨by simp,by simp; omega,fun _ => h0,rfl⟩
 ·exact Le.refl h
theorem LD {m : Ms} (_ : m.list.length <= 400) (x : In) (h0 : (zN m x).how = 0) : 0 <= Cn m /\ Cn m < ((zN m x).list.length : Int) := by
 unfold zN at h0 ⊢
 unfold Cn
 split at h0
 ·rename_i e
  split at h0
  ·simp at h0
  ·rename_i e2
   rw [if_pos e,if_pos e,if_neg e2,if_neg e2]
   simp
   omega
 ·rename_i e; exact absurd h0 e
theorem Pn {m : Ms} (h : m.list.length <= 400) (k : Int) : Le m (toC m k) := by
 unfold toC
 split
 ·exact ⟨by simp,by simpa using h,fun _ => ‹_›,rfl⟩
 ·exact Le.refl h
theorem Ul {p : List Nd} {m : Ms} (h : m.list.length <= 400) (x : In) : V 237 [eMs p m,eIn x] = some (iN (Cn m),[eMs p (zN m x)]) := by
 have e : m.list.map eIn ++ [D.agg [iN x.op,iN x.n,iN x.i,D.str x.s]] = (m.list ++ [x]).map eIn := by simp
 rw [Qd,e]
 unfold zN Cn
 by_cases h0 : m.how = 0
 ·rw [xK (yF h0),if_pos h0,if_pos h0]
  by_cases h4 : m.list.length = 400
  ·rw [xK (yF (KU (by omega))),if_pos h4,if_pos h4]
  ·rw [xb (yE (O8 (by omega))),xb (yG h0),if_neg h4,if_neg h4,yu (decide_eq_true (by rw [pE,lnM]; simp only [ni,lnA,lnC,lnN]; omega)),yA,w64 (by rw [lnM]; simp only [ni,lnA,lnC,lnN]; omega) (by rw [lnM]; simp only [ni,lnA,lnC,lnN]; omega),h0]
   simp [ni]
 ·rw [xb (yE h0),xK (yH h0),if_neg h0,if_neg h0]
theorem Xw {p : List Nd} {m : Ms} (_ : m.list.length <= 400) {k : Int} (hk : m.how = 0 -> 0 <= k /\ k < (m.list.length : Int)) : V 253 [eMs p m,iN k] = some (.tup [],[eMs p (toC m k)]) := by
 rw [TC]
 unfold toC
 by_cases h0 : m.how = 0
 ·obtain ⟨k0,k1⟩ := hk h0
  obtain ⟨x,hx⟩ := xx (l := m.list) (i := k.toNat) (by omega)
  have hg : m.list.getD k.toNat (inO 0) = x := by rw [List.getD_eq_getElem?_getD,hx]; rfl
  have e : List.set (m.list.map eIn) k.toNat (D.agg (List.take 1 [iN x.op,iN x.n,iN x.i,D.str x.s] ++ [iN (ni (m.list.map eIn).length)] ++ List.drop 2 [iN x.op,iN x.n,iN x.i,D.str x.s])) = (m.list.set k.toNat ⟨x.op,m.list.length,x.i,x.s⟩).map eIn := by
   rw [List.map_set,lnM]; rfl
  rw [xK (yF h0),if_pos h0,yu (by rw [lnM]; simp only [ni,Bool.and_eq_true,decide_eq_true_eq]; omega),xW hx,xu,yA,e,hg,h0]
 ·rw [xb (yE h0),if_neg h0]
theorem Un (s : ByteArray) : V 238 [.str s] = some (.bool (Uc s),[]) := by
 rw [KH]
 unfold Uc wrds
 simp only [List.any_cons,List.any_nil,Bool.or_false]
 show br (kc s (mk [113,117,111,116,101])) (some (D.bool true,[])) (br (kc s (mk [105,102])) (some (D.bool true,[])) (br (kc s (mk [102,110])) (some (D.bool true,[])) (br (kc s (mk [100,111])) (some (D.bool true,[])) (br (kc s (mk [108,101,116])) (some (D.bool true,[])) (some (D.bool (kc s (mk [100,101,102,105,110,101])),[])))))) = _
 cases kc s (mk [113,117,111,116,101]) <;> cases kc s (mk [105,102]) <;> cases kc s (mk [102,110]) <;> cases kc s (mk [100,111]) <;> cases kc s (mk [108,101,116]) <;> rfl
theorem WT {p : List Nd} (m : Ms) {v : Int} (hv : InP p v) : V 230 [eMs p m,iN v] = some (.tup [.str (nod p v).s,.bool (nmC p v)],[eMs p m]) := by
 rw [Qg,Ft hv]
 unfold nmC
 by_cases h4 : (nod p v).kind = 4
 ·rw [xK (yF h4),De (Un _),yF h4,Bool.true_and]
 ·rw [xb (yE h4),yE h4,Bool.false_and]
theorem JH {p : List Nd} (m : Ms) {xs : List Int} (hl : xs.length <= 100000) (hx : ∀ x ∈ xs,InP p x) : ∀ (k i : Nat) (h : Int) (out : List ByteArray),i + k = xs.length -> out.length <= i ->
  zK (xs.map eI) (i : Int) h (out.map D.str) (p.map eN) (m.list.map eIn) (m.defs.map eDf) = zA 0 (I9 p (xs.drop i) h out).2 ((I9 p (xs.drop i) h out).1.map D.str) (p.map eN) (m.list.map eIn) (m.defs.map eDf) /\ (I9 p (xs.drop i) h out).1.length <= xs.length
 | 0,i,h,out,hi,ho => by
  rw [DH,xb (by rw [lnM]; exact yr (by omega)),List.drop_of_length_le (by omega),I9]
  exact ⟨rfl,by show out.length <= _; omega⟩
 | k + 1,i,h,out,hi,ho => by
  obtain ⟨x,hg⟩ := xx (l := xs) (i := i) (by omega)
  have hp := hx x (List.mem_of_getElem? hg)
  rw [DH,xK (by rw [lnM]; exact yz (by omega)),tU hg,I9]
  by_cases h0 : h = 0
  ·have ea : out.map D.str ++ [D.str (nod p x).s] = (out ++ [(nod p x).s]).map D.str := by simp
   have hlim : decide (ni ((out ++ [(nod p x).s]).map D.str).length <= LIM) = true := decide_eq_true (by rw [pE]; simp only [ni,lnM,lnA,lnC,lnN]; omega)
   have hn : V 230 [.op [.os (5,0) (p.map eN),.os (4,0) (m.list.map eIn),.os (3,0) (m.defs.map eDf),iN h],iN x] = _ := WT (p := p) ⟨m.list,m.defs,h⟩ hp
   rw [xK (yF h0),yu (by rw [lnM]; exact yx (by omega)),Int.toNat_natCast,xW hg,ye,KY hn,ea,yM (by omega),if_pos h0]
   have ih := fun h' => JH m hl hx k (i + 1) h' (out ++ [(nod p x).s]) (by omega) (by simp; omega)
   cases hc : nmC p x with
   | false => rw [Bool.not_false,yk,if_neg (by simp),yu hlim,yA]; exact ih 1
   | true => rw [Bool.not_true,xJ,if_pos rfl,h0,yu hlim,yA]; exact ih 0
  ·rw [xb (yE h0),if_neg h0]
   exact ⟨rfl,by show out.length <= _; omega⟩
theorem Tm {p : List Nd} (m : Ms) {out : List ByteArray} (hl : out.length <= 100000) {i : Nat} (hi : i < out.length) {s : ByteArray} (hs : out[i]? = some s) : ∀ (k j : Nat) (h : Int),j + k = i ->
  Al (i : Int) (j : Int) h (out.map D.str) (p.map eN) (m.list.map eIn) (m.defs.map eDf) = zA ((i + 1 : Nat) : Int) (if ((out.take i).drop j).any (fun t => kc t s) = true then 2 else h) (out.map D.str) (p.map eN) (m.list.map eIn) (m.defs.map eDf)
 | 0,j,h,hj => by
  rw [Dl,xb (decide_eq_false (by omega)),yM (by omega),List.drop_of_length_le (by simp; omega)]
  rfl
 | k + 1,j,h,hj => by
  obtain ⟨t,ht⟩ := xx (l := out) (i := j) (by omega)
  have ht2 : (out.take i)[j]? = some t := by rw [List.getElem?_take]; rw [if_pos (by omega)]; exact ht
  rw [Dl,xK (decide_eq_true (by omega)),yu (by rw [lnM]; exact yx (by omega)),Int.toNat_natCast,xW ht,yi,yu (by rw [lnM]; exact yx (by omega)),Int.toNat_natCast,xW hs,yi,yM (by omega),Tm m hl hi hs k (j + 1) 2 (by omega),Tm m hl hi hs k (j + 1) h (by omega),tU ht2,List.any_cons]
  cases kc t s with
  | true => rw [yk,Bool.true_or,if_pos rfl]; split <;> rfl
  | false => rw [xJ,Bool.false_or]
theorem Rb {p : List Nd} (m : Ms) {out : List ByteArray} (hl : out.length <= 100000) : ∀ (k i : Nat) (h : Int),i + k = out.length ->
  zA (i : Int) h (out.map D.str) (p.map eN) (m.list.map eIn) (m.defs.map eDf) = some (.os (1,0) (out.map D.str),[eMs p (CT m (LT out k i h))])
 | 0,i,h,hi => by
  rw [Dk,xb (by rw [lnM]; exact yr (by omega))]
  rfl
 | k + 1,i,h,hi => by
  obtain ⟨s,hs⟩ := xx (l := out) (i := i) (by omega)
  have hg : out.getD i ⟨#[]⟩ = s := by rw [List.getD_eq_getElem?_getD,hs]; rfl
  have hin := Tm (p := p) m hl (i := i) (by omega) hs i 0 h (by omega)
  rw [Int.natCast_zero,List.drop_zero] at hin
  rw [Dk,xK (by rw [lnM]; exact yz (by omega)),hin,Rb m hl k (i + 1) _ (by omega),LT,hg]
  by_cases h0 : h = 0
  ·rw [xK (yF h0),if_pos h0,h0]
  ·rw [xb (yE h0),if_neg h0]
   rfl
theorem QO {p : List Nd} (m : Ms) {xs : List Int} (hl : xs.length <= 100000) (hx : ∀ x ∈ xs,InP p x) : V 231 [eMs p m,.rs (1,0) (xs.map eI)] = some (.os (1,0) ((Ae p xs m.how).1.map D.str),[eMs p (CT m (Ae p xs m.how).2)]) /\ (Ae p xs m.how).1.length <= xs.length := by
 have h := fun h' => JH (p := p) m hl hx xs.length 0 h' [] (by omega) (by simp)
 simp only [Int.natCast_zero,List.drop_zero,List.map_nil] at h
 have key : ∀ h',zK (xs.map eI) 0 h' [] (p.map eN) (m.list.map eIn) (m.defs.map eDf) = some (.os (1,0) ((I9 p xs h' []).1.map D.str),[eMs p (CT m (LT (I9 p xs h' []).1 (I9 p xs h' []).1.length 0 (I9 p xs h' []).2))]) := fun h' => by
  have hd := Rb (p := p) m (out := (I9 p xs h' []).1) (by have := (h h').2; omega) (I9 p xs h' []).1.length 0 (I9 p xs h' []).2 (by omega)
  rw [(h h').1]
  exact hd
 rw [NT,lnM]
 unfold Ae
 by_cases h4 : xs.length > 4
 ·rw [xK (decide_eq_true (by simp only [ni]; omega)),if_pos h4]
  exact ⟨key 1,(h 1).2⟩
 ·rw [xb (decide_eq_false (by simp only [ni]; omega)),if_neg h4]
  exact ⟨key m.how,(h m.how).2⟩

def vrD (r : Option (Nat × Nat)) : D := match r with | some (n,i) => .tup [iN n,iN i] | none => .tup [iN (-1),iN 0]
theorem WY {env : List (List ByteArray)} {s : ByteArray} (h1 : env.length <= 100000) {n : Nat} {e : List ByteArray} (he : env[n]? = some e) (h2 : e.length <= 100000) : ∀ (k i : Nat),i + k = e.length ->
  CI (eEs env) s (n : Int) (i : Int) = match WW s (e.drop i) i with
   | some j => some (.tup [iN n,iN j],[])
   | none => Bv (eEs env) s ((n + 1 : Nat) : Int)
 | 0,i,hi => by
  have hn := aQ he
  rw [FK,yu (by rw [lnM]; exact yx (by omega)),Int.toNat_natCast,xW he,yh,lnM,xb (yr (by omega)),List.drop_of_length_le (by omega),yM (by omega)]
  rfl
 | k + 1,i,hi => by
  have hn := aQ he
  obtain ⟨t,ht⟩ := xx (l := e) (i := i) (by omega)
  rw [FK,yu (by rw [lnM]; exact yx (by omega)),Int.toNat_natCast,xW he,yh,lnM,xK (yz (by omega)),xW he,yh,yu (by rw [lnM]; exact yx (by omega)),Int.toNat_natCast,xW ht,yi,tU ht,WW,yM (by omega),WY h1 he h2 k (i + 1) (by omega),yu (by rw [lnM]; exact yx (by omega))]
  cases kc t s with
  | true => rw [yk,if_pos rfl]
  | false => rw [xJ,if_neg (by simp)]
theorem SQ {env : List (List ByteArray)} {s : ByteArray} (h1 : env.length <= 100000) (h2 : ∀ e ∈ env,e.length <= 100000) : ∀ (k n : Nat),n + k = env.length -> Bv (eEs env) s (n : Int) = some (vrD (VT s (env.drop n) n),[])
 | 0,n,hn => by
  rw [FJ,xb (by rw [lnM]; exact yr (by omega)),List.drop_of_length_le (by omega)]
  rfl
 | k + 1,n,hn => by
  obtain ⟨e,he⟩ := xx (l := env) (i := n) (by omega)
  have hi := WY (s := s) h1 he (h2 e (List.mem_of_getElem? he)) e.length 0 (by omega)
  rw [Int.natCast_zero,List.drop_zero] at hi
  rw [FJ,xK (by rw [lnM]; exact yz (by omega)),hi,tU he,VT,SQ h1 h2 k (n + 1) (by omega)]
  cases WW s e 0 <;> rfl
theorem Yq {env : List (List ByteArray)} (s : ByteArray) (h1 : env.length <= 100000) (h2 : ∀ e ∈ env,e.length <= 100000) : V 248 [.rs (1,1) (eEs env),.str s] = some (vrD (VT s env 0),[]) := by
 rw [Ru]
 exact SQ h1 h2 env.length 0 (by omega)
end
end Go.Eng
