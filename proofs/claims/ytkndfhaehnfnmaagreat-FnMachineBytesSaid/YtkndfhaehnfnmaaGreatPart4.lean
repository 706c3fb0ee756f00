/- the program and the reference on plain data, part 4 -/
import Derived.Test.YtkndfhaehnfnmaaGreatPart1
import Derived.Test.YtkndfhaehnfnmaaGreatPart2
import Derived.Test.YtkndfhaehnfnmaaGreatPart3
import Derived.Test.YtkndfhaehnfnmaaGreatEngC
/-! sizes told: printed by mkz.py -/
namespace Go.Eng
open Go.Proofs Go.Proofs.Tryz
set_option maxHeartbeats 4000000
set_option maxRecDepth 100000

theorem sz3 : TypeInfo.size (Tables.types (Program.toTables Tryz.prog))[3] = 1 := by kernel_rfl
theorem fl3 : qU Tryz.prog (3) = true := by kernel_rfl

theorem zz (p0 : ByteArray) (p1 : Nat) (p2 : Int) (p3 : List D) (p4 : List D) (p5 : List D) (p6 : List D) : za p0 p1 p2 p3 p4 p5 p6 =
 br (decide (p2 < ni (ByteArray.size p0)))
  (
  grd (decide (0 <= p2) && decide (p2 < ni (ByteArray.size p0))) (br (bt p0 p2 == 32)
  (za p0 p1 (w6 (p2 + 1)) p3 p4 p5 p6)
  (
   br (bt p0 p2 == 40)
   (grd (decide
 (ni
   (List.length
    (part p5 (some (0,p1)) ++
     [D.agg
       [iN p2,
        D.os
         (1,0)
         []]])) <=
  LIM)) (nam (part p5 (some (0,p1)) ++
 [D.agg
   [iN p2,
    D.os
     (1,0)
     []]]) fun a =>
   zg p0 (w6 (p2 + 1)) p3 p4 a p6))
   (
   br (bt p0 p2 == 41)
   (
    br (w6 (ni p1 - 1) == 0)
    (ck9 147 [(.agg [(.rs (5,0) p3)])] fun a => ((some ((.tup [(.agg [(.os (5,0) a)]),(.os (1,0) p4),(iN (5)),(iN p2)]),[]))))
    (
    grd (decide (0 <= w6 (ni p1 - 1)) && decide (w6 (ni p1 - 1) < ni p1) && decide (0 + p1 <= List.length p5)) (cT p5 (0 + Int.toNat (w6 (ni p1 - 1))) fun a =>
    asAgg a fun b => cT b 1 fun c =>
     jl (1,0) c fun d => asAgg a fun e => zP 210 [(.op [(.os (5,0) p6)]),(.rs (1,0) d)] fun f g => ((grd (gW p1 (List.length (List.set p5 (0 + Int.toNat (w6 (ni p1 - 1))) (D.agg (List.take 1 e ++ [D.dead] ++ List.drop 2 e))) - 0) none (some (w6 (ni p1 - 1)))) (grd (decide (0 <= w6 (w6 (ni p1 - 1) - 1)) && decide (w6 (w6 (ni p1 - 1) - 1) < ni (Int.toNat (w6 (ni p1 - 1)))) && decide (0 + Int.toNat (w6 (ni p1 - 1)) <= List.length (List.set p5 (0 + Int.toNat (w6 (ni p1 - 1))) (D.agg (List.take 1 e ++ [D.dead] ++ List.drop 2 e))))) (cT (List.set p5 (0 + Int.toNat (w6 (ni p1 - 1))) (D.agg (List.take 1 e ++ [D.dead] ++ List.drop 2 e))) (0 + Int.toNat (w6 (w6 (ni p1 - 1) - 1))) fun h =>
          asAgg h fun i => cT i 1 fun j =>
           jl (1,0) j fun k => asAgg h fun l => grd (decide (ni (List.length (k ++ [iN f])) <= LIM)) (nam (k ++ [iN f]) fun m =>
            grd (decide (0 <= w6 (w6 (ni p1 - 1) - 1)) && decide (w6 (w6 (ni p1 - 1) - 1) < ni (Int.toNat (w6 (ni p1 - 1)))) && decide (0 + Int.toNat (w6 (ni p1 - 1)) <= List.length (List.set (List.set p5 (0 + Int.toNat (w6 (ni p1 - 1))) (D.agg (List.take 1 e ++ [D.dead] ++ List.drop 2 e))) (0 + Int.toNat (w6 (w6 (ni p1 - 1) - 1))) (D.agg (List.take 1 l ++ [D.dead] ++ List.drop 2 l))))) (cT (List.set (List.set p5 (0 + Int.toNat (w6 (ni p1 - 1))) (D.agg (List.take 1 e ++ [D.dead] ++ List.drop 2 e))) (0 + Int.toNat (w6 (w6 (ni p1 - 1) - 1))) (D.agg (List.take 1 l ++ [D.dead] ++ List.drop 2 l))) (0 + Int.toNat (w6 (w6 (ni p1 - 1) - 1))) fun n =>
             asAgg n fun o => nam (List.set (List.set (List.set p5 (0 + Int.toNat (w6 (ni p1 - 1))) (D.agg (List.take 1 e ++ [D.dead] ++ List.drop 2 e))) (0 + Int.toNat (w6 (w6 (ni p1 - 1) - 1))) (D.agg (List.take 1 l ++ [D.dead] ++ List.drop 2 l))) (0 + Int.toNat (w6 (w6 (ni p1 - 1) - 1)))
 (D.agg
  (List.take 1 o ++
    [D.os
      (1,0)
      m] ++
   List.drop 2 o))) fun p =>
              za p0 (Int.toNat (w6 (ni p1 - 1))) (w6 (p2 + 1)) p3 p4 p g)))))))))
   (ck6 211 [(.int .u8 (bt p0 p2))] fun a => (br a
     (z5 p0 p1 p2 (w6 (ni p1 - 1)) p2 p3 p4 p5 p6)
     (ck9 147 [(.agg [(.rs (5,0) p3)])] fun b => ((some ((.tup [(.agg [(.os (5,0) b)]),(.os (1,0) p4),(iN (2)),(iN p2)]),[]))))))))))
  (
  br (decide (ni p1 > 1))
  (ck9 147 [(.agg [(.rs (5,0) p3)])] fun a => ((grd (decide (0 <= w6 (ni p1 - 1)) && decide (w6 (ni p1 - 1) < ni p1) && decide (0 + p1 <= List.length p5)) (cT p5 (0 + Int.toNat (w6 (ni p1 - 1))) fun b =>
     asAgg b fun c => cT c 0 fun d =>
      asI .i64 d fun e => some ((.tup [(.agg [(.os (5,0) a)]),(.os (1,0) p4),(iN (4)),(iN e)]),[])))))
  (ck6 60 [(.agg [(.rs (5,0) p6)])] fun a => (br (!a)
    (ck9 147 [(.agg [(.rs (5,0) p3)])] fun b => ((some ((.tup [(.agg [(.os (5,0) b)]),(.os (1,0) p4),(iN (6)),(iN (0))]),[]))))
    (
    grd (decide (0 <= 0) && decide (0 < ni p1) && decide (0 + p1 <= List.length p5)) (cT p5 0 fun b =>
    asAgg b fun c => cT c 1 fun d =>
     jl (1,0) d fun e => asAgg b fun _ => grd (decide (ni (List.length ([] ++ e)) <= LIM)) (nam ([] ++ e) fun f =>
       some ((.tup [(.agg [(.os (5,0) p6)]),(.os (1,0) f),(iN (0)),(iN (ni (ByteArray.size p0)))]),[]))))))) := by
 have h := LQ p0 p1 p2 p3 p4 p5 p6
 simp only [sz3,fl3] at h
 exact h
theorem zH (p0 : ByteArray) (p1 : Int) (p2 : List D) (p3 : List D) (p4 : List D) (p5 : List D) : zg p0 p1 p2 p3 p4 p5 =
 br (decide (p1 < ni (ByteArray.size p0)))
  (
  grd (decide (0 <= p1) && decide (p1 < ni (ByteArray.size p0))) (br (bt p0 p1 == 32)
  (zg p0 (w6 (p1 + 1)) p2 p3 p4 p5)
  (
   br (bt p0 p1 == 40)
   (grd (decide
 (ni
   (List.length
    (p4 ++
     [D.agg
       [iN p1,
        D.os
         (1,0)
         []]])) <=
  LIM)) (nam (p4 ++
 [D.agg
   [iN p1,
    D.os
     (1,0)
     []]]) fun a =>
   zg p0 (w6 (p1 + 1)) p2 p3 a p5))
   (
   br (bt p0 p1 == 41)
   (
    br (w6 (ni p4.length - 1) == 0)
    (ck9 147 [(.agg [(.rs (5,0) p2)])] fun a => ((some ((.tup [(.agg [(.os (5,0) a)]),(.os (1,0) p3),(iN (5)),(iN p1)]),[]))))
    (
    grd (decide (0 <= w6 (ni p4.length - 1)) && decide (w6 (ni p4.length - 1) < ni p4.length)) (cT p4 (Int.toNat (w6 (ni p4.length - 1))) fun a =>
    asAgg a fun b => cT b 1 fun c =>
     jl (1,0) c fun d => asAgg a fun e => zP 210 [(.op [(.os (5,0) p5)]),(.rs (1,0) d)] fun f g => ((grd (cW (List.length (List.set p4 (Int.toNat (w6 (ni p4.length - 1))) (D.agg (List.take 1 e ++ [D.dead] ++ List.drop 2 e)))) none (some (w6 (ni p4.length - 1)))) (grd (decide (0 <= w6 (w6 (ni p4.length - 1) - 1)) && decide (w6 (w6 (ni p4.length - 1) - 1) < ni (Int.toNat (w6 (ni p4.length - 1)))) && decide (0 + Int.toNat (w6 (ni p4.length - 1)) <= List.length (List.set p4 (Int.toNat (w6 (ni p4.length - 1))) (D.agg (List.take 1 e ++ [D.dead] ++ List.drop 2 e))))) (cT (List.set p4 (Int.toNat (w6 (ni p4.length - 1))) (D.agg (List.take 1 e ++ [D.dead] ++ List.drop 2 e))) (0 + Int.toNat (w6 (w6 (ni p4.length - 1) - 1))) fun h =>
          asAgg h fun i => cT i 1 fun j =>
           jl (1,0) j fun k => asAgg h fun l => grd (decide (ni (List.length (k ++ [iN f])) <= LIM)) (nam (k ++ [iN f]) fun m =>
            grd (decide (0 <= w6 (w6 (ni p4.length - 1) - 1)) && decide (w6 (w6 (ni p4.length - 1) - 1) < ni (Int.toNat (w6 (ni p4.length - 1)))) && decide (0 + Int.toNat (w6 (ni p4.length - 1)) <= List.length (List.set (List.set p4 (Int.toNat (w6 (ni p4.length - 1))) (D.agg (List.take 1 e ++ [D.dead] ++ List.drop 2 e))) (0 + Int.toNat (w6 (w6 (ni p4.length - 1) - 1))) (D.agg (List.take 1 l ++ [D.dead] ++ List.drop 2 l))))) (cT (List.set (List.set p4 (Int.toNat (w6 (ni p4.length - 1))) (D.agg (List.take 1 e ++ [D.dead] ++ List.drop 2 e))) (0 + Int.toNat (w6 (w6 (ni p4.length - 1) - 1))) (D.agg (List.take 1 l ++ [D.dead] ++ List.drop 2 l))) (0 + Int.toNat (w6 (w6 (ni p4.length - 1) - 1))) fun n =>
             asAgg n fun o => nam (List.set (List.set (List.set p4 (Int.toNat (w6 (ni p4.length - 1))) (D.agg (List.take 1 e ++ [D.dead] ++ List.drop 2 e))) (0 + Int.toNat (w6 (w6 (ni p4.length - 1) - 1))) (D.agg (List.take 1 l ++ [D.dead] ++ List.drop 2 l))) (0 + Int.toNat (w6 (w6 (ni p4.length - 1) - 1)))
 (D.agg
  (List.take 1 o ++
    [D.os
      (1,0)
      m] ++
   List.drop 2 o))) fun p =>
              za p0 (Int.toNat (w6 (ni p4.length - 1))) (w6 (p1 + 1)) p2 p3 p g)))))))))
   (ck6 211 [(.int .u8 (bt p0 p1))] fun a => (br a
     (AA p0 p1 (w6 (ni p4.length - 1)) p1 p2 p3 p4 p5)
     (ck9 147 [(.agg [(.rs (5,0) p2)])] fun b => ((some ((.tup [(.agg [(.os (5,0) b)]),(.os (1,0) p3),(iN (2)),(iN p1)]),[]))))))))))
  (
  br (decide (ni p4.length > 1))
  (ck9 147 [(.agg [(.rs (5,0) p2)])] fun a => ((grd (decide (0 <= w6 (ni p4.length - 1)) && decide (w6 (ni p4.length - 1) < ni p4.length)) (cT p4 (Int.toNat (w6 (ni p4.length - 1))) fun b =>
     asAgg b fun c => cT c 0 fun d =>
      asI .i64 d fun e => some ((.tup [(.agg [(.os (5,0) a)]),(.os (1,0) p3),(iN (4)),(iN e)]),[])))))
  (ck6 60 [(.agg [(.rs (5,0) p5)])] fun a => (br (!a)
    (ck9 147 [(.agg [(.rs (5,0) p2)])] fun b => ((some ((.tup [(.agg [(.os (5,0) b)]),(.os (1,0) p3),(iN (6)),(iN (0))]),[]))))
    (
    grd (decide (0 <= 0) && decide (0 < ni p4.length)) (cT p4 0 fun b =>
    asAgg b fun c => cT c 1 fun d =>
     jl (1,0) d fun e => asAgg b fun _ => grd (decide (ni (List.length ([] ++ e)) <= LIM)) (nam ([] ++ e) fun f =>
       some ((.tup [(.agg [(.os (5,0) p5)]),(.os (1,0) f),(iN (0)),(iN (ni (ByteArray.size p0)))]),[]))))))) := by
 have h := OX p0 p1 p2 p3 p4 p5
 simp only [sz3,fl3] at h
 exact h
theorem GN (p0 : ByteArray) (p1 : Int) (p2 : Int) (p3 : Int) (p4 : List D) (p5 : List D) (p6 : List D) (p7 : List D) : AA p0 p1 p2 p3 p4 p5 p6 p7 =
 br (decide (p1 < ni (ByteArray.size p0)))
  (grd (decide (0 <= p1) && decide (p1 < ni (ByteArray.size p0))) (ck6 211 [(.int .u8 (bt p0 p1))] fun a => (br a
   (AA p0 (w6 (p1 + 1)) p2 p3 p4 p5 p6 p7)
   (grd (cW (ByteArray.size p0) (some p3) (some p1)) (PG 212 [(.str (ByteArray.extract p0 p3.toNat p1.toNat))] fun b c d e f g => (((br (!g)
            (ck9 147 [(.agg [(.rs (5,0) p4)])] fun h => ((some ((.tup [(.agg [(.os (5,0) h)]),(.os (1,0) p5),(iN (3)),(iN p3)]),[]))))
            (
            grd (decide (0 <= p2) && decide (p2 < ni p6.length)) (cT p6 p2.toNat fun h =>
            asAgg h fun i => cT i 1 fun j =>
             jl (1,0) j fun k => asAgg h fun l => zP 158 [(.op [(.os (5,0) p7)]),(.agg [(iN b),(iN c),(.str d),(iN e),(iN f)])] fun m n => ((grd (decide (ni (List.length (k ++ [iN m])) <= LIM)) (nam (k ++ [iN m]) fun o =>
                  grd (decide (0 <= p2) && decide (p2 < ni (List.length (List.set p6 p2.toNat (D.agg (List.take 1 l ++ [D.dead] ++ List.drop 2 l)))))) (cT (List.set p6 p2.toNat (D.agg (List.take 1 l ++ [D.dead] ++ List.drop 2 l))) p2.toNat fun p =>
                  asAgg p fun q => nam (List.set (List.set p6 p2.toNat (D.agg (List.take 1 l ++ [D.dead] ++ List.drop 2 l))) p2.toNat
 (D.agg
  (List.take 1 q ++
    [D.os
      (1,0)
      o] ++
   List.drop 2 q))) fun r =>
                   zg p0 p1 p4 p5 r n))))))))))))))
  (grd (cW (ByteArray.size p0) (some p3) (some p1)) (PG 212 [(.str (ByteArray.extract p0 p3.toNat p1.toNat))] fun a b c d e f => (((br (!f)
          (ck9 147 [(.agg [(.rs (5,0) p4)])] fun g => ((some ((.tup [(.agg [(.os (5,0) g)]),(.os (1,0) p5),(iN (3)),(iN p3)]),[]))))
          (
           grd (decide (0 <= p2) && decide (p2 < ni p6.length)) (cT p6 p2.toNat fun g =>
           asAgg g fun h => cT h 1 fun i =>
            jl (1,0) i fun j => asAgg g fun k => zP 158 [(.op [(.os (5,0) p7)]),(.agg [(iN a),(iN b),(.str c),(iN d),(iN e)])] fun l m => ((grd (decide (ni (List.length (j ++ [iN l])) <= LIM)) (nam (j ++ [iN l]) fun n =>
                grd (decide (0 <= p2) && decide (p2 < ni (List.length (List.set p6 p2.toNat (D.agg (List.take 1 k ++ [D.dead] ++ List.drop 2 k)))))) (cT (List.set p6 p2.toNat (D.agg (List.take 1 k ++ [D.dead] ++ List.drop 2 k))) p2.toNat fun o =>
                 asAgg o fun p => nam (List.set (List.set p6 p2.toNat (D.agg (List.take 1 k ++ [D.dead] ++ List.drop 2 k))) p2.toNat
 (D.agg
  (List.take 1 p ++
    [D.os
      (1,0)
      n] ++
   List.drop 2 p))) fun q =>
                  zg p0 p1 p4 p5 q m))))))))))) := by
 have h := Nn p0 p1 p2 p3 p4 p5 p6 p7
 simp only [sz3,fl3] at h
 exact h
theorem Fg (p0 : ByteArray) (p1 : Nat) (p2 : Int) (p3 : Int) (p4 : Int) (p5 : List D) (p6 : List D) (p7 : List D) (p8 : List D) : z5 p0 p1 p2 p3 p4 p5 p6 p7 p8 =
 br (decide (p2 < ni (ByteArray.size p0)))
  (grd (decide (0 <= p2) && decide (p2 < ni (ByteArray.size p0))) (ck6 211 [(.int .u8 (bt p0 p2))] fun a => (br a
   (z5 p0 p1 (w6 (p2 + 1)) p3 p4 p5 p6 p7 p8)
   (grd (cW (ByteArray.size p0) (some p4) (some p2)) (PG 212 [(.str (ByteArray.extract p0 p4.toNat p2.toNat))] fun b c d e f g => (((br (!g)
            (ck9 147 [(.agg [(.rs (5,0) p5)])] fun h => ((some ((.tup [(.agg [(.os (5,0) h)]),(.os (1,0) p6),(iN (3)),(iN p4)]),[]))))
            (
            grd (decide (0 <= p3) && decide (p3 < ni p1) && decide (0 + p1 <= List.length p7)) (cT p7 (0 + Int.toNat p3) fun h =>
            asAgg h fun i => cT i 1 fun j =>
             jl (1,0) j fun k => asAgg h fun l => zP 158 [(.op [(.os (5,0) p8)]),(.agg [(iN b),(iN c),(.str d),(iN e),(iN f)])] fun m n => ((grd (decide (ni (List.length (k ++ [iN m])) <= LIM)) (nam (k ++ [iN m]) fun o =>
                  grd (decide (0 <= p3) && decide (p3 < ni p1) && decide (0 + p1 <= List.length (List.set p7 (0 + Int.toNat p3) (D.agg (List.take 1 l ++ [D.dead] ++ List.drop 2 l))))) (cT (List.set p7 (0 + Int.toNat p3) (D.agg (List.take 1 l ++ [D.dead] ++ List.drop 2 l))) (0 + Int.toNat p3) fun p =>
                  asAgg p fun q => nam (List.set (List.set p7 (0 + Int.toNat p3) (D.agg (List.take 1 l ++ [D.dead] ++ List.drop 2 l))) (0 + Int.toNat p3)
 (D.agg
  (List.take 1 q ++
    [D.os
      (1,0)
      o] ++
   List.drop 2 q))) fun r =>
                   za p0 p1 p2 p5 p6 r n))))))))))))))
  (grd (cW (ByteArray.size p0) (some p4) (some p2)) (PG 212 [(.str (ByteArray.extract p0 p4.toNat p2.toNat))] fun a b c d e f => (((br (!f)
          (ck9 147 [(.agg [(.rs (5,0) p5)])] fun g => ((some ((.tup [(.agg [(.os (5,0) g)]),(.os (1,0) p6),(iN (3)),(iN p4)]),[]))))
          (
           grd (decide (0 <= p3) && decide (p3 < ni p1) && decide (0 + p1 <= List.length p7)) (cT p7 (0 + Int.toNat p3) fun g =>
           asAgg g fun h => cT h 1 fun i =>
            jl (1,0) i fun j => asAgg g fun k => zP 158 [(.op [(.os (5,0) p8)]),(.agg [(iN a),(iN b),(.str c),(iN d),(iN e)])] fun l m => ((grd (decide (ni (List.length (j ++ [iN l])) <= LIM)) (nam (j ++ [iN l]) fun n =>
                grd (decide (0 <= p3) && decide (p3 < ni p1) && decide (0 + p1 <= List.length (List.set p7 (0 + Int.toNat p3) (D.agg (List.take 1 k ++ [D.dead] ++ List.drop 2 k))))) (cT (List.set p7 (0 + Int.toNat p3) (D.agg (List.take 1 k ++ [D.dead] ++ List.drop 2 k))) (0 + Int.toNat p3) fun o =>
                 asAgg o fun p => nam (List.set (List.set p7 (0 + Int.toNat p3) (D.agg (List.take 1 k ++ [D.dead] ++ List.drop 2 k))) (0 + Int.toNat p3)
 (D.agg
  (List.take 1 p ++
    [D.os
      (1,0)
      n] ++
   List.drop 2 p))) fun q =>
                  za p0 p1 p2 p5 p6 q m))))))))))) := by
 have h := Lr p0 p1 p2 p3 p4 p5 p6 p7 p8
 simp only [sz3,fl3] at h
 exact h
theorem Xk (a0_0 : List D) (a1_ : ByteArray) : V 191 [.agg [.rs (5,0) a0_0],.str a1_] =
 ck6 60 [(.agg [(.rs (5,0) a0_0)])] fun a => (br (!a)
   (some ((.tup [(.agg [(.os (5,0) [])]),(.os (1,0) []),(iN (6)),(iN (0))]),[]))
   (
   br (decide (ni (ByteArray.size a1_) > 400))
   (ck9 147 [(.agg [(.rs (5,0) a0_0)])] fun b => ((some ((.tup [(.agg [(.os (5,0) b)]),(.os (1,0) []),(iN (1)),(iN (0))]),[]))))
   (ck9 147 [(.agg [(.rs (5,0) a0_0)])] fun b => ((zg a1_ (0) a0_0 [] ([D.agg
  [iN (0),
   D.os
    (1,0)
    []]]) b))))) := by
 have h := XD a0_0 a1_
 simp only [sz3,fl3] at h
 exact h

end Go.Eng
/-! reading a text,on both sides -/
namespace Go.Eng
noncomputable section
open Go.Proofs Go.Proofs.Tryz
set_option maxHeartbeats 4000000

def BQ : List Int -> List Nd -> Nat -> List Nd × Nat
 | [],q,c => (q,c)
 | x :: r,q,c => BQ r (q ++ [⟨5,0,⟨#[]⟩,x,(c : Int)⟩]) q.length
def y2 (q : List Nd) (row : List Int) : List Nd × Nat := BQ row.reverse (q ++ [⟨1,0,⟨#[]⟩,0,0⟩]) q.length
theorem Qi : ∀ (r : List Int) (q : List Nd) (c : Nat),(BQ r q c).1.length = q.length + r.length
 | [],q,c => rfl
 | x :: r,q,c => by rw [BQ,Qi r]; simp only [lnA,lnC,lnN]; omega
theorem Fq (q : List Nd) (row : List Int) : (y2 q row).1.length = q.length + row.length + 1 := by
 rw [y2,Qi]; simp only [lnA,lnC,lnN,List.length_reverse]; omega
theorem IA {q : List Nd} (h : zZ q) {x : Nd} (hx : x.s.size < 4611686018427387904) : zZ (q ++ [x]) := by
 intro y hy
 rcases List.mem_append.1 hy with h1 | h1
 ·exact h y h1
 ·rw [List.mem_singleton.1 h1]; exact hx
theorem Ol : ∀ (r : List Int) (q : List Nd) (c : Nat),zZ q -> zZ (BQ r q c).1
 | [],q,c,h => h
 | x :: r,q,c,h => Ol r _ _ (IA h (x := ⟨5,0,⟨#[]⟩,x,(c : Int)⟩) (by show (0 : Nat) < _; omega))
theorem Qk {q : List Nd} (h : zZ q) (row : List Int) : zZ (y2 q row).1 := Ol _ _ _ (IA h (x := ⟨1,0,⟨#[]⟩,0,0⟩) (by show (0 : Nat) < _; omega))
theorem aaR {row : List Int} {k : Nat} {x : Int} (hx : row[k]? = some x) : (row.take (k + 1)).reverse = x :: (row.take k).reverse := by
 rw [List.take_add_one,hx]; simp
theorem QK {row : List Int} (hr : row.length < 4294967296) : ∀ (k : Nat) (q : List Nd) (c : Nat),k <= row.length -> q.length + k < 4294967296 ->
  Dr (row.map eI) (c : Int) ((k : Int) - 1) (q.map eN) = some (iN (BQ (row.take k).reverse q c).2,[rP (BQ (row.take k).reverse q c).1])
 | 0,q,c,_,_ => by rw [Gw,xb (decide_eq_false (by omega))]; rfl
 | k + 1,q,c,hk,hq => by
  obtain ⟨x,hx⟩ := xx (l := row) (i := k) (by omega)
  have hp := zo (p := q) (by omega) ⟨5,0,⟨#[]⟩,x,(c : Int)⟩
  have ih := QK hr k (q ++ [⟨5,0,⟨#[]⟩,x,(c : Int)⟩]) q.length (by omega) (by simp only [lnA,lnC,lnN]; omega)
  have e : ((k + 1 : Nat) : Int) - 1 = (k : Int) := by omega
  rw [Gw,e,xK (decide_eq_true (by omega)),yu (by rw [lnM]; exact yx (by omega)),Int.toNat_natCast,xW hx,ye,y1 hp,w64 (by omega) (by omega),ih,aaR hx,BQ]
theorem Kf {q : List Nd} {row : List Int} (h : q.length + row.length < 4294967290) : V 210 [rP q,.rs (1,0) (row.map eI)] = some (iN (y2 q row).2,[rP (y2 q row).1]) := by
 have ha := zo (p := q) (by omega) ⟨1,0,⟨#[]⟩,0,0⟩
 have hl := QK (row := row) (by omega) row.length (q ++ [⟨1,0,⟨#[]⟩,0,0⟩]) q.length (Nat.le_refl _) (by simp only [lnA,lnC,lnN]; omega)
 rw [List.take_length] at hl
 rw [TN,y1 ha,lnM,w64 (by simp only [ni]; omega) (by simp only [ni]; omega)]
 exact hl
abbrev RwF := Int × List Int
inductive RdR where
 | err (c a : Int)
 | ok (q : List Nd) (row : List Int)
def Ez (l : List UInt8) (j : Nat) : Nat := j + ((l.drop j).takeWhile Ju).length
def Y3 (l : List UInt8) (G : Nat -> List RwF -> RwF -> List Nd -> RdR) (i : Nat) (o : List RwF) (t : RwF) (q : List Nd) : Option UInt8 -> RdR
 | none => if o = [] then .ok q t.2 else .err 4 t.1
 | some x =>
   if x = 32 then G (i + 1) o t q
   else if x = 40 then G (i + 1) (t :: o) ((i : Int),[]) q
   else if x = 41 then match o with
    | [] => .err 5 (i : Int)
    | u :: o => G (i + 1) o (u.1,u.2 ++ [((y2 q t.2).2 : Int)]) (y2 q t.2).1
   else if Ju x = true then match Ff ((l.drop i).take (Ez l i - i)) with
    | none => .err 3 (i : Int)
    | some nd => G (Ez l i) o (t.1,t.2 ++ [(q.length : Int)]) (q ++ [nd])
   else .err 2 (i : Int)
def Ct (l : List UInt8) : Nat -> Nat -> List RwF -> RwF -> List Nd -> RdR
 | 0,_,_,_,_ => .err 1 0
 | k + 1,i,o,t,q => Y3 l (Ct l k) i o t q l[i]?
theorem Na (l : List UInt8) (G : Nat -> List RwF -> RwF -> List Nd -> RdR) (i : Nat) (o : List RwF) (t : RwF) (q : List Nd) : Y3 l G i o t q none = if o = [] then .ok q t.2 else .err 4 t.1 := rfl
theorem Kz (l : List UInt8) (G : Nat -> List RwF -> RwF -> List Nd -> RdR) (i : Nat) (o : List RwF) (t : RwF) (q : List Nd) (x : UInt8) : Y3 l G i o t q (some x) = (if x = 32 then G (i + 1) o t q
   else if x = 40 then G (i + 1) (t :: o) ((i : Int),[]) q
   else if x = 41 then match o with
    | [] => .err 5 (i : Int)
    | u :: o => G (i + 1) o (u.1,u.2 ++ [((y2 q t.2).2 : Int)]) (y2 q t.2).1
   else if Ju x = true then match Ff ((l.drop i).take (Ez l i - i)) with
    | none => .err 3 (i : Int)
    | some nd => G (Ez l i) o (t.1,t.2 ++ [(q.length : Int)]) (q ++ [nd])
   else .err 2 (i : Int)) := rfl
theorem IJ (l : List UInt8) (k i : Nat) (o : List RwF) (t : RwF) (q : List Nd) : Ct l (k + 1) i o t q = Y3 l (Ct l k) i o t q l[i]? := rfl
theorem Kj {l : List UInt8} {j : Nat} {x : UInt8} (hx : l[j]? = some x) (h : Ju x = true) : Ez l j = Ez l (j + 1) := by
 unfold Ez; rw [tU hx,List.takeWhile_cons,if_pos h]; simp only [lnC]; omega
theorem SP {l : List UInt8} {j : Nat} {x : UInt8} (hx : l[j]? = some x) (h : Ju x = false) : Ez l j = j := by
 unfold Ez; rw [tU hx,List.takeWhile_cons,if_neg (by rw [h]; simp)]; rfl
theorem Xj {l : List UInt8} {j : Nat} (h : l.length <= j) : Ez l j = j := by
 unfold Ez; rw [List.drop_of_length_le h]; rfl
theorem U9 {l : List UInt8} {j : Nat} (h : j <= l.length) : j <= Ez l j /\ Ez l j <= l.length := by
 unfold Ez
 have := (List.takeWhile_sublist (p := Ju) (l := l.drop j)).length_le
 rw [List.length_drop] at this
 omega
def phi (o : List RwF) (t : RwF) (q : List Nd) : Nat := q.length + t.2.length + (o.map fun x => x.2.length).sum
theorem LK {l : List UInt8} {x : Nd} (h : Ff l = some x) : x.s.size <= l.length := by
 unfold Ff YU at h
 split at h
 ·cases h; exact Nat.zero_le _
 split at h
 ·cases h; exact Nat.zero_le _
 split at h
 ·cases h; exact Nat.zero_le _
 split at h
 ·cases h; exact Nat.le_of_eq (yO _)
 ·cases h
theorem Bg {A B : List D} {x : D} (K : D -> Option Ret) : cT (A ++ x :: B) A.length K = K x := by simp [cT]
theorem Cj {A B : List D} {x v : D} : (A ++ x :: B).set A.length v = A ++ v :: B := by simp
theorem Wd {l : List D} (h : l.length <= 4294967296) : decide (ni l.length <= LIM) = true := decide_eq_true (by rw [pE]; simp only [ni]; omega)
theorem EH {x : UInt8} (c : UInt8) (n : Int) (hn : (c.toNat : Int) = n) (h : ¬ x = c) : ((x.toNat : Int) == n) = false := by
 subst hn
 simp only [beq_eq_false_iff_ne,ne_eq]
 intro e
 exact h (UInt8.toNat_inj.1 (by omega))
end
end Go.Eng
/-! a step of a machine,plain -/
namespace Go.Eng
noncomputable section

abbrev ndN : Nd := ⟨1,0,⟨#[]⟩,0,0⟩
abbrev ndI (n : Int) : Nd := ⟨3,n,⟨#[]⟩,0,0⟩
abbrev ndP (a b : Int) : Nd := ⟨5,0,⟨#[]⟩,a,b⟩
abbrev ndF (n a : Int) : Nd := ⟨6,n,⟨#[]⟩,a,0⟩
abbrev ndK (a : Int) : Nd := ⟨7,0,⟨#[]⟩,a,0⟩
abbrev ndR (n : Int) : Nd := ⟨8,n,⟨#[]⟩,0,0⟩
def ndB (b : Bool) : Nd := match b with | true => ⟨2,1,⟨#[]⟩,0,0⟩ | false => ⟨2,0,⟨#[]⟩,0,0⟩
def nod (p : List Nd) (v : Int) : Nd := p.getD v.toNat ndN
abbrev InP (p : List Nd) (v : Int) : Prop := 0 <= v /\ v < (p.length : Int)

def prNames : List (List UInt8) := [[43],[45],[42],[60],[61],[99,111,110,115],[99,97,114],[99,100,114],[110,117,108,108,63],[112,97,105,114,63],[101,113,63],[110,111,116],[112,114,105,110,116],[115,101,108,102],[115,101,110,100],[114,101,99,118],[115,112,97,119,110],[99,97,108,108,99,99],[103,111]]
def FX (s : ByteArray) : Int := ya (fun x => kc s (mk x)) prNames + 1
def prArgs : List Int := [2,2,2,2,2,2,1,1,1,1,2,1,1,0,2,0,1,1,1]
def zF (n : Int) : Int := if wi n 1 19 = true then prArgs.getD (n - 1).toNat 0 else -1

def EF (out : List Int) (x : Nd) : Nd :=
 if x.kind = 5 then ⟨x.kind,x.n,x.s,out.getD x.a.toNat 0,out.getD x.b.toNat 0⟩
 else if x.kind = 6 \/ x.kind = 7 then ⟨x.kind,x.n,x.s,out.getD x.a.toNat 0,x.b⟩ else x
def Wj (x y : Nd) : Bool := (x.kind == y.kind) && ((x.n == y.n) && (kc x.s y.s && ((x.a == y.a) && (x.b == y.b))))
def Xt : List Nd -> List Int -> List Nd -> List Int × List Nd
 | [],out,keys => (out,keys)
 | x :: r,out,keys => Xt r (out ++ [match keys.findIdx? (fun y => Wj y (EF out x)) with | some k => (k : Int) | none => (out.length : Int)]) (keys ++ [EF out x])
def aal (p : List Nd) : List Int := (Xt p [] []).1
def abL (p : List Nd) (a b : Int) : Bool := (aal p).getD a.toNat 0 == (aal p).getD b.toNat 0

def MZ (p : List Nd) (n : Int) (l : List Int) : Except Int (List Nd × Int) :=
 let x := nod p (l.getD 0 0); let y := nod p (l.getD 1 0)
 if n <= 5 then
  if x.kind = 3 /\ y.kind = 3 then
   let z := if n = 1 then ndI (x.n + y.n) else if n = 2 then ndI (x.n - y.n) else if n = 3 then ndI (x.n * y.n) else if n = 4 then ndB (decide (x.n < y.n)) else ndB (x.n == y.n)
   if wi z.n (-1000000000) 1000000000 = true then .ok (p ++ [z],p.length) else .error 4
  else .error 3
 else if n = 6 then .ok (p ++ [ndP (l.getD 0 0) (l.getD 1 0)],p.length)
 else if n = 7 \/ n = 8 then
  if x.kind = 5 then .ok (p,if n = 7 then x.a else x.b) else .error 3
 else if n = 9 then .ok (p ++ [ndB (x.kind == 1)],p.length)
 else if n = 10 then .ok (p ++ [ndB (x.kind == 5)],p.length)
 else if n = 11 then .ok (p ++ [ndB (abL p (l.getD 0 0) (l.getD 1 0))],p.length)
 else .ok (p ++ [ndB (x.kind == 2 && x.n == 0)],p.length)

def Pf (m : Mc) (v : Int) : Mc := ⟨m.pool ++ [ndP v m.s],m.at',m.pool.length,m.e,m.d,m.state,m.ask,m.arg⟩
def GK (m : Mc) : Option (Int × Mc) := if (nod m.pool m.s).kind = 5 then some ((nod m.pool m.s).a,⟨m.pool,m.at',(nod m.pool m.s).b,m.e,m.d,m.state,m.ask,m.arg⟩) else none
def GW : Nat -> Mc -> Option (List Int × Mc)
 | 0,m => some ([],m)
 | k + 1,m => match GK m with
  | none => none
  | some (v,m') => match GW k m' with
   | none => none
   | some (l,m'') => some (v :: l,m'')
def Pc (p : List Nd) : Nat -> Int -> Option Int
 | 0,v => if (nod p v).kind = 5 then some (nod p v).a else none
 | k + 1,v => if (nod p v).kind = 5 then Pc p k (nod p v).b else none
def JQ (p : List Nd) : Nat -> Int -> List Int × Bool
 | 0,_ => ([],false)
 | k + 1,v => if (nod p v).kind = 5 then ((nod p v).a :: (JQ p k (nod p v).b).1,(JQ p k (nod p v).b).2) else ([],(nod p v).kind == 1)
def Ac (p : List Nd) (v : Int) : List Int × Bool := JQ p (v.toNat + 1) v
def CE (c : Cd) (n : Int) : Bool := wi n 0 ((c.list.length : Int) - 1)
def LD (c : Cd) (p : List Nd) (v : Int) (many : Nat) : Option (Int × List Int) := match Ac p v with
 | (a :: r,true) => if r.length + 1 = many /\ (nod p a).kind = 3 /\ CE c (nod p a).n = true then some ((nod p a).n,r) else none
 | _ => none

def aa9 (m : Mc) (o i : Int) : Except Int Mc := match Pc m.pool o.toNat m.e with
 | none => .error 7
 | some fr => match Pc m.pool i.toNat fr with
  | none => .error 7
  | some v => .ok (Pf m v)
def Oj (c : Cd) (m : Mc) (s : ByteArray) : Except Int Mc :=
 if 0 <= Dw c s then
  let d := c.defs.getD (Dw c s).toNat ⟨⟨#[]⟩,0,0⟩
  .ok (Pf ⟨m.pool ++ [ndN] ++ [ndF (8 * d.at' + d.args) m.pool.length],m.at',m.s,m.e,m.d,m.state,m.ask,m.arg⟩ (m.pool.length + 1))
 else if FX s = 0 then .error 1
 else .ok (Pf ⟨m.pool ++ [ndR (FX s)],m.at',m.s,m.e,m.d,m.state,m.ask,m.arg⟩ m.pool.length)
def NF (c : Cd) (m : Mc) (f : Nd) (l : List Int) : Except Int Mc :=
 if f.n % 8 ≠ (l.length : Int) then .error 2
 else if CE c (f.n / 8) = false then .error 7
 else
  let b := y2 (m.pool ++ [ndI (m.at' + 1)]) [(m.pool.length : Int),m.s,m.e]
  let v := y2 (b.1 ++ [ndP b.2 m.d]) l
  .ok ⟨v.1 ++ [ndP v.2 f.a] ++ [ndN],f.n / 8,((v.1.length : Int) + 1),v.1.length,b.1.length,m.state,m.ask,m.arg⟩
def ZO (c : Cd) (m : Mc) (st : Int) (l : List Int) : Except Int Mc :=
 if l.length ≠ 1 then .error 2
 else match LD c m.pool st 4 with
  | some (n,[s,e,d]) => .ok (Pf ⟨m.pool,n,s,e,d,m.state,m.ask,m.arg⟩ (l.getD 0 0))
  | _ => .error 7
def Iu (c : Cd) : Nat -> Mc -> Int -> List Int -> Except Int Mc
 | 0,_,_,_ => .error 0
 | k + 1,m,f,l =>
  let x := nod m.pool f
  if x.kind = 6 then NF c m x l
  else if x.kind = 8 then
   if zF x.n ≠ (l.length : Int) then .error 2
   else if x.n = 18 then
    let st := y2 (m.pool ++ [ndI (m.at' + 1)]) [(m.pool.length : Int),m.s,m.e,m.d]
    Iu c k ⟨st.1 ++ [ndK st.2],m.at',m.s,m.e,m.d,m.state,m.ask,m.arg⟩ (l.getD 0 0) [(st.1.length : Int)]
   else if x.n > 12 then
    let r := y2 m.pool l
    .ok ⟨r.1,m.at',m.s,m.e,m.d,1,x.n,r.2⟩
   else match MZ m.pool x.n l with
    | .error h => .error (h + 1)
    | .ok (p,v) => .ok ⟨p ++ [ndP v m.s],m.at' + 1,p.length,m.e,m.d,m.state,m.ask,m.arg⟩
  else if x.kind = 7 then ZO c m x.a l
  else .error 3
def D7 (c : Cd) (m : Mc) (many : Nat) : Except Int Mc :=
 if CE c (m.at' + 1) = false then .error 7
 else match GW (many + 1) m with
  | none => .error 7
  | some (l,m') => Iu c 3 m' (l.reverse.getD 0 0) (l.reverse.drop 1)
def Oh (c : Cd) (m : Mc) : Except Int Mc := match GK m with
 | none => .error 7
 | some (v,m1) =>
  let d := nod m1.pool m1.d
  if d.kind = 1 then .ok ⟨m1.pool,0,m1.s,m1.e,m1.d,2,m1.ask,v⟩
  else if d.kind ≠ 5 then .error 7
  else match LD c m1.pool d.a 3 with
   | some (n,[s,e]) => .ok (Pf ⟨m1.pool,n,s,e,d.b,m1.state,m1.ask,m1.arg⟩ v)
   | _ => .error 7
def AH (d : Int) (q : List Nd) (v : Int) (acc : List Nd) : List Nd × Int := ((Bz d q [v] acc).2,(Bz d q [v] acc).1.getD v.toNat 0)
def ac9 (c : Cd) (m : Mc) (v : Int) : Mc := Pf ⟨(AH (-1) c.pool v m.pool).1,m.at',m.s,m.e,m.d,m.state,m.ask,m.arg⟩ (AH (-1) c.pool v m.pool).2
def goM (c : Cd) (r : Except Int Mc) (next : Int) : Except Int Mc := match r with
 | .error h => .error h
 | .ok m => if CE c next = true then .ok ⟨m.pool,next,m.s,m.e,m.d,m.state,m.ask,m.arg⟩ else .error 7
def LG (c : Cd) (m : Mc) (x : In) : Except Int Mc :=
 if x.op = 1 then goM c (.ok (ac9 c m x.n)) (m.at' + 1)
 else if x.op = 2 then goM c (aa9 m x.n x.i) (m.at' + 1)
 else if x.op = 3 then goM c (Oj c m x.s) (m.at' + 1)
 else if x.op = 5 then goM c (.ok m) x.n
 else if x.op = 6 then goM c (.ok (Pf ⟨m.pool ++ [ndF (8 * x.n + x.i) m.e],m.at',m.s,m.e,m.d,m.state,m.ask,m.arg⟩ m.pool.length)) (m.at' + 1)
 else match GK m with
  | none => .error 7
  | some (v,m1) => goM c (.ok m1) (if x.op = 4 /\ (nod m1.pool v).kind = 2 /\ (nod m1.pool v).n = 0 then x.n else m.at' + 1)
def PX (m : Mc) (h : Int) : Mc := ⟨m.pool,0,m.s,m.e,m.d,3,h,0⟩
def doM (c : Cd) (m : Mc) : Except Int Mc :=
 let x := c.list.getD m.at'.toNat ⟨0,0,0,⟨#[]⟩⟩
 if x.op = 7 then D7 c m x.i.toNat else if x.op = 8 then Oh c m else LG c m x
def W7 (c : Cd) (m : Mc) : Mc := match doM c m with
 | .error h => PX m h
 | .ok m' => if m'.pool.length <= 3000 then m' else PX m 6
def Zg : Mc := ⟨[],0,0,0,0,3,7,0⟩
def WZ (c : Cd) (m : Mc) : Mc := if CU c m = true then (if m.state = 0 then W7 c m else m) else Zg
end
end Go.Eng
/-! reading a text: the spec -/
namespace Go.Eng
noncomputable section
open Go.Proofs Go.Proofs.Tryz
set_option maxHeartbeats 4000000

theorem U3 {p : List Nd} (hl : p.length <= 4294967296) : V 147 [eP p] = some (oP p,[]) := by
 rw [Mo,List.nil_append]
 simp (disch := first | omega | (simp only [lnA,lnC,lnN,lnM,yO,wY]; omega)) only [↓xP,↓yA,yJ,lnM,pE,wY]

abbrev eO (x : RwF) : D := .agg [iN x.1,.os (1,0) (x.2.map eI)]
theorem DV (t : RwF) (K : List D -> List D -> Option Ret) : (asAgg (eO t) fun l => cT l 1 fun y => jl (1,0) y fun r => asAgg (eO t) fun l2 => K r l2) = K (t.2.map eI) [iN t.1,.os (1,0) (t.2.map eI)] := rfl
theorem abJ (t : RwF) (K : Int -> Option Ret) : (asAgg (eO t) fun l => cT l 0 fun y => asI .i64 y fun r => K r) = K t.1 := rfl
theorem tdd (a b : D) : List.take 1 [a,b] ++ [D.dead] ++ List.drop 2 [a,b] = [a,.dead] := rfl
theorem tds (a b c : D) : List.take 1 [a,b] ++ [c] ++ List.drop 2 [a,b] = [a,c] := rfl
theorem acn (A J : List D) (x : D) : part (A ++ x :: J) (some (0,A.length + 1)) = A ++ [x] := by
 simp only [part,List.drop_zero]
 rw [show A ++ x :: J = (A ++ [x]) ++ J by simp,List.take_left' (by simp)]
def SR (P : List D) (n : Nat) (r : RdR) : Option Ret := match r with
 | .err c a => some (.tup [.agg [.os (5,0) P],.os (1,0) [],iN c,iN a],[])
 | .ok q row => if yV q = true then some (.tup [.agg [.os (5,0) (q.map eN)],.os (1,0) (row.map eI),iN 0,iN (n : Int)],[]) else some (.tup [.agg [.os (5,0) P],.os (1,0) [],iN 6,iN 0],[])
def SQ (r : Option Nd) (p : List Nd) (i : Nat) (X : Nd -> Option Ret) : Option Ret := match r with
 | none => some (.tup [.agg [.os (5,0) (p.map eN)],.os (1,0) [],iN 3,iN (i : Int)],[])
 | some nd => X nd
theorem abM {l : List UInt8} (hl : l.length < 1000000000) {i : Nat} {p q : List Nd} {A : List D} {t : RwF} (hp : p.length < 4294967290) (hq : q.length < 4294967290) (hA : A.length < 4294967290) (ht : t.2.length < 4294967290) : ∀ (m j : Nat),j + m = l.length -> i <= j ->
  AA (mk l) (j : Int) (A.length : Int) (i : Int) (p.map eN) [] (A ++ [eO t]) (q.map eN) = SQ (Ff ((l.drop i).take (Ez l j - i))) p i fun nd => zg (mk l) (Ez l j : Nat) (p.map eN) [] (A ++ [eO (t.1,t.2 ++ [(q.length : Int)])]) ((q ++ [nd]).map eN)
 | m,j,hm,hij => by
  have hcut : cW l.length (some (i : Int)) (some (j : Int)) = true := by unfold cW; simp; omega
  obtain ⟨x,b,h1,h2⟩ := Xa (l := (l.drop i).take (j - i)) (by simp only [List.length_take,List.length_drop]; omega)
  have ha := zo (p := q) (by omega) x
  have hc := U3 (p := p) (by omega)
  have hin : ∀ x : D,(decide (0 <= (A.length : Int)) && decide ((A.length : Int) < ni (A ++ [x]).length)) = true := fun x => yx (by simp)
  have hlim : decide (ni (t.2.map eI ++ [iN (q.length : Int)]).length <= LIM) = true := Wd (by simp only [lnA,lnM,lnC,lnN]; omega)
  have hrow : (t.2 ++ [(q.length : Int)]).map eI = t.2.map eI ++ [iN (q.length : Int)] := by simp
  match m with
  | 0 =>
   rw [GN,yO,xb (yr (by omega)),yu hcut,Int.toNat_natCast,Int.toNat_natCast,FM,GI h1,Xj (by omega)]
   cases hw : Ff ((l.drop i).take (j - i)) with
   | none =>
    rw [hw] at h2
    have h2 : b = false := h2
    rw [h2,Bool.not_false,yk,zp hc]; rfl
   | some nd =>
    rw [hw] at h2
    obtain ⟨rfl,rfl⟩ : x = nd /\ b = true := h2
    rw [Bool.not_true,xJ,yu (hin _),Int.toNat_natCast,Bg,DV,y1 ha,yu hlim,yA,Cj,tdd,yu (hin _),Bg,xu,Cj,tds,yA,SQ,eO,hrow]
  | m + 1 =>
   obtain ⟨y,hy⟩ := xx (l := l) (i := j) (by omega)
   have hb := RL hy
   have hwb := Jn y
   rw [GN,yO,xK (yz (by omega)),yu (yx (by omega)),hb,Av hwb]
   cases hwu : Ju y with
   | true =>
    have ih := abM hl hp hq hA ht (A := A) (i := i) m (j + 1) (by omega) (by omega)
    rw [yk,yM (by omega),ih,Kj hy hwu]
   | false =>
    rw [xJ,yu hcut,Int.toNat_natCast,Int.toNat_natCast,FM,GI h1,SP hy hwu]
    cases hw : Ff ((l.drop i).take (j - i)) with
    | none =>
     rw [hw] at h2
     have h2 : b = false := h2
     rw [h2,Bool.not_false,yk,zp hc]; rfl
    | some nd =>
     rw [hw] at h2
     obtain ⟨rfl,rfl⟩ : x = nd /\ b = true := h2
     rw [Bool.not_true,xJ,yu (hin _),Int.toNat_natCast,Bg,DV,y1 ha,yu hlim,yA,Cj,tdd,yu (hin _),Bg,xu,Cj,tds,yA,SQ,eO,hrow]
theorem UA {A J : List D} {x : D} : (decide (0 <= (A.length : Int)) && decide ((A.length : Int) < ni (A.length + 1)) && decide (0 + (A.length + 1) <= (A ++ x :: J).length)) = true := by
 simp only [ni,Bool.and_eq_true,decide_eq_true_eq,lnA,lnC]; omega
theorem aaO {l : List UInt8} (hl : l.length < 1000000000) {i : Nat} {p q : List Nd} {A J : List D} {t : RwF} (hp : p.length < 4294967290) (hq : q.length < 4294967290) (hA : A.length < 4294967290) (ht : t.2.length < 4294967290) : ∀ (m j : Nat),j + m = l.length -> i <= j ->
  z5 (mk l) (A.length + 1) (j : Int) (A.length : Int) (i : Int) (p.map eN) [] (A ++ eO t :: J) (q.map eN) = SQ (Ff ((l.drop i).take (Ez l j - i))) p i fun nd => za (mk l) (A.length + 1) (Ez l j : Nat) (p.map eN) [] (A ++ eO (t.1,t.2 ++ [(q.length : Int)]) :: J) ((q ++ [nd]).map eN)
 | m,j,hm,hij => by
  have hcut : cW l.length (some (i : Int)) (some (j : Int)) = true := by unfold cW; simp; omega
  obtain ⟨x,b,h1,h2⟩ := Xa (l := (l.drop i).take (j - i)) (by simp only [List.length_take,List.length_drop]; omega)
  have ha := zo (p := q) (by omega) x
  have hc := U3 (p := p) (by omega)
  have hlim : decide (ni (t.2.map eI ++ [iN (q.length : Int)]).length <= LIM) = true := Wd (by simp only [lnA,lnM,lnC,lnN]; omega)
  have hrow : (t.2 ++ [(q.length : Int)]).map eI = t.2.map eI ++ [iN (q.length : Int)] := by simp
  match m with
  | 0 =>
   rw [Fg,yO,xb (yr (by omega)),yu hcut,Int.toNat_natCast,Int.toNat_natCast,FM,GI h1,Xj (by omega)]
   cases hw : Ff ((l.drop i).take (j - i)) with
   | none =>
    rw [hw] at h2
    have h2 : b = false := h2
    rw [h2,Bool.not_false,yk,zp hc]; rfl
   | some nd =>
    rw [hw] at h2
    obtain ⟨rfl,rfl⟩ : x = nd /\ b = true := h2
    rw [Bool.not_true,xJ,yu UA,Int.toNat_natCast,Nat.zero_add,Bg,DV,y1 ha,yu hlim,yA,Cj,tdd,yu UA,Bg,xu,Cj,tds,yA,SQ,eO,hrow]
  | m + 1 =>
   obtain ⟨y,hy⟩ := xx (l := l) (i := j) (by omega)
   have hb := RL hy
   have hwb := Jn y
   rw [Fg,yO,xK (yz (by omega)),yu (yx (by omega)),hb,Av hwb]
   cases hwu : Ju y with
   | true =>
    have ih := aaO hl hp hq hA ht (A := A) (J := J) (i := i) m (j + 1) (by omega) (by omega)
    rw [yk,yM (by omega),ih,Kj hy hwu]
   | false =>
    rw [xJ,yu hcut,Int.toNat_natCast,Int.toNat_natCast,FM,GI h1,SP hy hwu]
    cases hw : Ff ((l.drop i).take (j - i)) with
    | none =>
     rw [hw] at h2
     have h2 : b = false := h2
     rw [h2,Bool.not_false,yk,zp hc]; rfl
    | some nd =>
     rw [hw] at h2
     obtain ⟨rfl,rfl⟩ : x = nd /\ b = true := h2
     rw [Bool.not_true,xJ,yu UA,Int.toNat_natCast,Nat.zero_add,Bg,DV,y1 ha,yu hlim,yA,Cj,tdd,yu UA,Bg,xu,Cj,tds,yA,SQ,eO,hrow]
theorem aco {A J : List D} {x y v : D} : ((A ++ [x]) ++ y :: J).set (A.length + 1) v = A ++ x :: v :: J := by
 have := Cj (A := A ++ [x]) (B := J) (x := y) (v := v)
 rw [lnA,List.length_singleton] at this
 rw [this,List.append_assoc]; rfl
theorem acm {A J : List D} {x y : D} (K : D -> Option Ret) : cT ((A ++ [x]) ++ y :: J) (A.length + 1) K = K y := by
 have := Bg (A := A ++ [x]) (B := J) (x := y) K
 rw [lnA,List.length_singleton] at this
 exact this
theorem abb {n : Nat} (h : n < 4611686018427387904) : w6 (((n + 1 : Nat) : Int) - 1) = (n : Int) := by
 rw [w64 (by omega) (by omega)]; omega
theorem Z9 (P : List D) (n : Nat) (q : List Nd) (row : List Int) : SR P n (.ok q row) = if yV q = true then some (.tup [.agg [.os (5,0) (q.map eN)],.os (1,0) (row.map eI),iN 0,iN (n : Int)],[]) else some (.tup [.agg [.os (5,0) P],.os (1,0) [],iN 6,iN 0],[]) := rfl
theorem SG {l : List UInt8} (hl : l.length < 1000000000) {p : List Nd} (hp : p.length < 4294967290) : ∀ (k i : Nat) (o : List RwF) (t : RwF) (q : List Nd),l.length < i + k -> i <= l.length -> phi o t q + 2 * (l.length - i) < 4000000000 -> o.length + (l.length - i) < 4000000000 -> zZ q ->
  zg (mk l) (i : Int) (p.map eN) [] (o.reverse.map eO ++ [eO t]) (q.map eN) = SR (p.map eN) l.length (Ct l k i o t q) /\
  ∀ J,za (mk l) (o.length + 1) (i : Int) (p.map eN) [] (o.reverse.map eO ++ eO t :: J) (q.map eN) = SR (p.map eN) l.length (Ct l k i o t q)
 | 0,i,o,t,q,h1,h2,_,_,_ => by omega
 | k + 1,i,o,t,q,h1,h2,h3,h4,hf => by
  have hph : phi o t q = q.length + t.2.length + (o.map fun x => x.2.length).sum := rfl
  have hc := U3 (p := p) (by omega)
  have hAl : (o.reverse.map eO).length = o.length := by rw [lnM,List.length_reverse]
  have hn1 : (o.reverse.map eO ++ [eO t]).length = o.length + 1 := by rw [lnA,hAl]; rfl
  have hw1 : w6 (ni (o.length + 1) - 1) = ((o.reverse.map eO).length : Int) := by rw [hAl]; exact abb (by omega)
  have hin : ∀ J,(decide (0 <= ((o.reverse.map eO).length : Int)) && decide (((o.reverse.map eO).length : Int) < ni (o.length + 1)) && decide (0 + (o.length + 1) <= (o.reverse.map eO ++ eO t :: J).length)) = true := fun J => by
   rw [<- hAl]; exact UA
  rw [IJ]
  by_cases hi : i = l.length
  ·have hx : l[i]? = none := List.getElem?_eq_none (by omega)
   have hok := zK hf (by omega)
   rw [hx,Na]
   cases o with
   | nil =>
    have hlim : decide (ni ([] ++ t.2.map eI).length <= LIM) = true := Wd (by rw [List.nil_append,lnM]; omega)
    rw [if_pos rfl]
    constructor
    ·rw [zH,yO,xb (yr (by omega)),xb (by rfl),BV hok]
     rw [Z9]
     cases hq : yV q with
     | false => rw [Bool.not_false,yk,zp hc,if_neg (by simp)]
     | true => rw [Bool.not_true,xJ,yu (by rfl),if_pos rfl,show ∀ K : D -> Option Ret,cT (([] : List RwF).reverse.map eO ++ [eO t]) 0 K = K (eO t) from fun K => rfl,DV,yu hlim,yA,List.nil_append]
    ·intro J
     rw [zz,yO,xb (yr (by omega)),xb (by rfl),BV hok]
     rw [Z9]
     cases hq : yV q with
     | false => rw [Bool.not_false,yk,zp hc,if_neg (by simp)]
     | true => rw [Bool.not_true,xJ,yu (by simp [ni]),if_pos rfl,show ∀ K : D -> Option Ret,cT (([] : List RwF).reverse.map eO ++ eO t :: J) 0 K = K (eO t) from fun K => rfl,DV,yu hlim,yA,List.nil_append]
   | cons u o =>
    rw [if_neg (by simp)]
    constructor
    ·rw [zH,yO,xb (yr (by omega)),hn1,xK (decide_eq_true (by simp only [ni,lnC]; omega)),zp hc,hw1,yu (by rw [hAl]; exact yx (by omega)),Int.toNat_natCast,Bg,abJ]; rfl
    ·intro J
     rw [zz,yO,xb (yr (by omega)),xK (decide_eq_true (by simp only [ni,lnC]; omega)),zp hc,hw1,yu (hin J),Int.toNat_natCast,Nat.zero_add,Bg,abJ]; rfl
  obtain ⟨x,hx⟩ := xx (l := l) (i := i) (by omega)
  have hb := RL hx
  rw [hx,Kz]
  by_cases h32 : x = 32
  ·subst h32
   have ih := SG hl hp k (i + 1) o t q (by omega) (by omega) (by omega) (by omega) hf
   rw [if_pos rfl]
   constructor
   ·rw [zH,yO,xK (yz (by omega)),yu (yx (by omega)),hb,xK (by rfl),yM (by omega)]
    exact ih.1
   ·intro J
    rw [zz,yO,xK (yz (by omega)),yu (yx (by omega)),hb,xK (by rfl),yM (by omega)]
    exact ih.2 J
  rw [if_neg h32]
  by_cases h40 : x = 40
  ·subst h40
   have hlo : decide (ni (o.reverse.map eO ++ [eO t] ++ [D.agg [iN (i : Int),.os (1,0) []]]).length <= LIM) = true := Wd (by rw [lnA,hn1]; simp only [lnC,lnN]; omega)
   have ih := (SG hl hp k (i + 1) (t :: o) ((i : Int),[]) q (by omega) (by omega) (by simp only [phi,List.map_cons,List.sum_cons,lnN]; omega) (by simp only [lnC]; omega) hf).1
   rw [show (t :: o).reverse.map eO = o.reverse.map eO ++ [eO t] by simp] at ih
   rw [if_pos rfl]
   constructor
   ·rw [zH,yO,xK (yz (by omega)),yu (yx (by omega)),hb,xb (by rfl),xK (by rfl),yu hlo,yA,yM (by omega)]
    exact ih
   ·intro J
    have hpt := acn (o.reverse.map eO) J (eO t)
    rw [hAl] at hpt
    rw [zz,yO,xK (yz (by omega)),yu (yx (by omega)),hb,xb (by rfl),xK (by rfl),hpt,yu hlo,yA,yM (by omega)]
    exact ih
  rw [if_neg h40]
  by_cases h41 : x = 41
  ·subst h41
   rw [if_pos rfl]
   cases o with
   | nil =>
    constructor
    ·rw [zH,yO,xK (yz (by omega)),yu (yx (by omega)),hb,xb (by rfl),xb (by rfl),xK (by rfl),hn1,hw1,xK (by rfl),zp hc]; rfl
    ·intro J
     rw [zz,yO,xK (yz (by omega)),yu (yx (by omega)),hb,xb (by rfl),xb (by rfl),xK (by rfl),hw1,xK (by rfl),zp hc]; rfl
   | cons u o =>
    simp only [List.map_cons,List.sum_cons] at hph
    simp only [lnC] at h4
    have hll := Kf (q := q) (row := t.2) (by omega)
    have ih := (SG hl hp k (i + 1) o (u.1,u.2 ++ [((y2 q t.2).2 : Int)]) (y2 q t.2).1 (by omega) (by omega) (by simp only [phi,Fq,lnA,lnC,lnN]; omega) (by omega) (Qk hf _)).2
    obtain ⟨O,hO⟩ : ∃ O,O = o.reverse.map eO := ⟨_,rfl⟩
    have hA : O.length = o.length := by rw [hO,lnM,List.length_reverse]
    have hrev : (u :: o).reverse.map eO = O ++ [eO u] := by rw [hO]; simp
    have hlim : decide (ni (u.2.map eI ++ [iN ((y2 q t.2).2 : Int)]).length <= LIM) = true := Wd (by simp only [lnA,lnM,lnC,lnN]; omega)
    have hrow : (u.2 ++ [((y2 q t.2).2 : Int)]).map eI = u.2.map eI ++ [iN ((y2 q t.2).2 : Int)] := by simp
    have hl2 : (u :: o).length = O.length + 1 := by rw [hA]; rfl
    have hn2 : (O ++ [eO u] ++ [eO t]).length = O.length + 1 + 1 := by simp
    have hw2 : w6 (ni (O.length + 1 + 1) - 1) = ((O.length + 1 : Nat) : Int) := abb (by omega)
    have hw3 : w6 (((O.length + 1 : Nat) : Int) - 1) = (O.length : Int) := abb (by omega)
    have hne : (((O.length + 1 : Nat) : Int) == 0) = false := by simp only [beq_eq_false_iff_ne,ne_eq]; omega
    rw [<- hA,<- hO] at ih
    rw [hrev,hl2]
    constructor
    ·rw [zH,yO,xK (yz (by omega)),yu (yx (by omega)),hb,xb (by rfl),xb (by rfl),xK (by rfl),hn2,hw2,xb hne,yu (yx (by omega)),Int.toNat_natCast,acm,DV,CY hll,tdd,aco,hw3,Int.toNat_natCast,Nat.zero_add O.length]
     rw [yu (by unfold cW; simp; try omega),yu UA,Bg,DV,yu hlim,yA,Cj,tdd,yu UA,Bg,xu,Cj,tds,yA,yM (by omega),<- hrow]
     exact ih _
    ·intro J
     rw [zz,yO,xK (yz (by omega)),yu (yx (by omega)),hb,xb (by rfl),xb (by rfl),xK (by rfl),hw2,xb hne,yu (by simp only [ni,Bool.and_eq_true,decide_eq_true_eq,lnA,lnC,lnN]; omega),Int.toNat_natCast,Nat.zero_add (O.length + 1),acm,DV,CY hll,tdd,aco,hw3,Int.toNat_natCast,Nat.zero_add O.length]
     rw [yu (by unfold gW; simp; try omega),yu (by have := UA (A := O) (J := D.agg [iN t.1,.dead] :: J) (x := eO u); rwa [Nat.zero_add] at this),Bg,DV,yu hlim,yA,Cj,tdd,yu (by have := UA (A := O) (J := D.agg [iN t.1,.dead] :: J) (x := .agg [iN u.1,.dead]); rwa [Nat.zero_add] at this),Bg,xu,Cj,tds,yA,yM (by omega),<- hrow]
     exact ih _
  rw [if_neg h41]
  have hwb := Jn x
  cases hw : Ju x with
  | false =>
   rw [hw] at hwb
   rw [if_neg (by simp)]
   constructor
   ·rw [zH,yO,xK (yz (by omega)),yu (yx (by omega)),hb,xb (EH 32 32 rfl h32),xb (EH 40 40 rfl h40),xb (EH 41 41 rfl h41),Av hwb,xJ,zp hc]; rfl
   ·intro J
    rw [zz,yO,xK (yz (by omega)),yu (yx (by omega)),hb,xb (EH 32 32 rfl h32),xb (EH 40 40 rfl h40),xb (EH 41 41 rfl h41),Av hwb,xJ,zp hc]; rfl
  | true =>
   rw [hw] at hwb
   have hs := abM hl (i := i) (p := p) (q := q) (A := o.reverse.map eO) (t := t) hp (by omega) (by rw [hAl]; omega) (by omega) (l.length - i) i (by omega) (by omega)
   have hs1 := fun J => aaO hl (i := i) (p := p) (q := q) (A := o.reverse.map eO) (J := J) (t := t) hp (by omega) (by rw [hAl]; omega) (by omega) (l.length - i) i (by omega) (by omega)
   rw [hAl] at hs hs1
   have hwe := Kj hx hw
   have hwl := U9 (l := l) (j := i + 1) (by omega)
   rw [hAl] at hw1
   rw [if_pos rfl]
   constructor
   ·rw [zH,yO,xK (yz (by omega)),yu (yx (by omega)),hb,xb (EH 32 32 rfl h32),xb (EH 40 40 rfl h40),xb (EH 41 41 rfl h41),Av hwb,yk,hn1,hw1,hs]
    cases hwd : Ff ((l.drop i).take (Ez l i - i)) with
    | none => rfl
    | some nd =>
     have hz := LK hwd
     exact (SG hl hp k (Ez l i) o (t.1,t.2 ++ [(q.length : Int)]) (q ++ [nd]) (by omega) (by omega) (by simp only [phi,lnA,lnC,lnN]; omega) (by omega) (IA hf (by rw [List.length_take,List.length_drop] at hz; omega))).1
   ·intro J
    rw [zz,yO,xK (yz (by omega)),yu (yx (by omega)),hb,xb (EH 32 32 rfl h32),xb (EH 40 40 rfl h40),xb (EH 41 41 rfl h41),Av hwb,yk,hw1,hs1]
    cases hwd : Ff ((l.drop i).take (Ez l i - i)) with
    | none => rfl
    | some nd =>
     have hz := LK hwd
     exact (SG hl hp k (Ez l i) o (t.1,t.2 ++ [(q.length : Int)]) (q ++ [nd]) (by omega) (by omega) (by simp only [phi,lnA,lnC,lnN]; omega) (by omega) (IA hf (by rw [List.length_take,List.length_drop] at hz; omega))).2 J
end
end Go.Eng
/-! reading a text: both sides agree -/
namespace Go.Eng
noncomputable section
open Go.Proofs Go.Proofs.Tryz
set_option maxHeartbeats 4000000

theorem IK {l : List UInt8} (hl : l.length < 1000000000) : ∀ (k i : Nat) (o : List RwF) (t : RwF) (q : List Nd),i <= l.length -> phi o t q + 2 * (l.length - i) < 4000000000 -> zZ q -> ∀ q' row,Ct l k i o t q = .ok q' row -> zZ q' /\ q'.length < 4000000000 /\ row.length < 4000000000
 | 0,i,o,t,q,_,_,_,q',row,h => by rw [Ct] at h; cases h
 | k + 1,i,o,t,q,h2,h3,hf,q',row,h => by
  have hph : phi o t q = q.length + t.2.length + (o.map fun x => x.2.length).sum := rfl
  rw [IJ] at h
  by_cases hi : i = l.length
  ·have hx : l[i]? = none := List.getElem?_eq_none (by omega)
   rw [hx,Na] at h
   by_cases ho : o = []
   ·rw [if_pos ho] at h
    cases h
    exact ⟨hf,by omega,by omega⟩
   ·rw [if_neg ho] at h; cases h
  obtain ⟨x,hx⟩ := xx (l := l) (i := i) (by omega)
  rw [hx,Kz] at h
  by_cases h32 : x = 32
  ·rw [if_pos h32] at h
   exact IK hl k (i + 1) o t q (by omega) (by omega) hf q' row h
  rw [if_neg h32] at h
  by_cases h40 : x = 40
  ·rw [if_pos h40] at h
   exact IK hl k (i + 1) (t :: o) ((i : Int),[]) q (by omega) (by simp only [phi,List.map_cons,List.sum_cons,lnN]; omega) hf q' row h
  rw [if_neg h40] at h
  by_cases h41 : x = 41
  ·rw [if_pos h41] at h
   cases o with
   | nil => cases h
   | cons u o =>
    simp only [List.map_cons,List.sum_cons] at hph
    exact IK hl k (i + 1) o (u.1,u.2 ++ [((y2 q t.2).2 : Int)]) (y2 q t.2).1 (by omega) (by simp only [phi,Fq,lnA,lnC,lnN]; omega) (Qk hf _) q' row h
  rw [if_neg h41] at h
  by_cases hw : Ju x = true
  ·rw [if_pos hw] at h
   have hwe := Kj hx hw
   have hwl := U9 (l := l) (j := i + 1) (by omega)
   cases hwd : Ff ((l.drop i).take (Ez l i - i)) with
   | none => rw [hwd] at h; cases h
   | some nd =>
    rw [hwd] at h
    have hz := LK hwd
    exact IK hl k (Ez l i) o (t.1,t.2 ++ [(q.length : Int)]) (q ++ [nd]) (by omega) (by simp only [phi,lnA,lnC,lnN]; omega) (IA hf (by rw [List.length_take,List.length_drop] at hz; omega)) q' row h
  ·rw [if_neg hw] at h; cases h
def ZQ (p : List Nd) (n : Nat) (r : RdR) : List Nd × List Int × Int × Int := match r with
 | .err c a => (p,[],c,a)
 | .ok q row => if yV q = true then (q,row,0,(n : Int)) else (p,[],6,0)
def CK (p : List Nd) (l : List UInt8) : List Nd × List Int × Int × Int := if yV p = false then ([],[],6,0) else if 400 < l.length then (p,[],1,0) else ZQ p l.length (Ct l (l.length + 1) 0 [] (0,[]) p)
abbrev UQ (r : List Nd × List Int × Int × Int) : Option Ret := some (.tup [oP r.1,.os (1,0) (r.2.1.map eI),iN r.2.2.1,iN r.2.2.2],[])
theorem abf (p : List Nd) (n : Nat) (r : RdR) : SR (p.map eN) n r = UQ (ZQ p n r) := by
 cases r with
 | err c a => rfl
 | ok q row =>
  rw [Z9]
  unfold ZQ
  by_cases h : yV q = true
  ·rw [if_pos h]; simp only [if_pos h]
  ·rw [if_neg h]; simp only [if_neg h]; rfl
theorem OT {p : List Nd} (hf : zZ p) (hl : p.length < 4611686018427387904) (l : List UInt8) : V 191 [eP p,.str (mk l)] = UQ (CK p l) := by
 have hok := zK hf hl
 unfold CK
 rw [Xk,BV hok]
 cases h : yV p with
 | false => rw [Bool.not_false,yk,if_pos rfl]; rfl
 | true =>
  have hp := y0 h
  have hc := U3 (p := p) (by omega)
  rw [Bool.not_true,xJ,if_neg (by simp),yO]
  by_cases h4 : 400 < l.length
  ·rw [xK (decide_eq_true (by simp only [ni]; omega)),zp hc,if_pos h4]; rfl
  ·have hs := (SG (l := l) (by omega) (p := p) (by omega) (l.length + 1) 0 [] (0,[]) p (by omega) (by omega) (by simp only [phi,List.map_nil,List.sum_nil,lnN]; omega) (by simp only [lnN]; omega) hf).1
   rw [xb (decide_eq_false (by simp only [ni]; omega)),zp hc,if_neg h4,<- abf]
   exact hs
end
end Go.Eng
/-! compiling,plain (the reference's way) -/
namespace Go.Eng
noncomputable section

structure Ms where
 list : List In
 defs : List Df
 how : Int
abbrev inO (op : Int) : In := ⟨op,0,0,⟨#[]⟩⟩
def wrds : List (List UInt8) := [[113,117,111,116,101],[105,102],[102,110],[100,111],[108,101,116],[100,101,102,105,110,101]]
def Yg (s : ByteArray) : Bool := wrds.any fun x => kc s (mk x)
def z8 (m : Ms) (x : In) : Ms := if m.how = 0 then (if m.list.length = 400 then ⟨m.list,m.defs,3⟩ else ⟨m.list ++ [x],m.defs,0⟩) else m
def Dz (m : Ms) : Int := if m.how = 0 then (if m.list.length = 400 then 0 else m.list.length) else 0
def toC (m : Ms) (k : Int) : Ms := if m.how = 0 then ⟨m.list.set k.toNat ⟨(m.list.getD k.toNat (inO 0)).op,m.list.length,(m.list.getD k.toNat (inO 0)).i,(m.list.getD k.toNat (inO 0)).s⟩,m.defs,0⟩ else m
def D6 (m : Ms) (h : Int) : Ms := ⟨m.list,m.defs,h⟩
def nmC (p : List Nd) (v : Int) : Bool := (nod p v).kind == 4 && !Yg (nod p v).s
def KO (p : List Nd) : List Int -> Int -> List ByteArray -> List ByteArray × Int
 | [],h,out => (out,h)
 | x :: r,h,out => if h = 0 then KO p r (if nmC p x = true then 0 else 1) (out ++ [(nod p x).s]) else (out,h)
def PJ (out : List ByteArray) : Nat -> Nat -> Int -> Int
 | 0,_,h => h
 | k + 1,i,h => if h = 0 then PJ out k (i + 1) (if (out.take i).any (fun t => kc t (out.getD i ⟨#[]⟩)) = true then 2 else 0) else h
def AE (p : List Nd) (xs : List Int) (h : Int) : List ByteArray × Int :=
 let r := KO p xs (if xs.length > 4 then 1 else h) []
 (r.1,PJ r.1 r.1.length 0 r.2)
def aa8 (s : ByteArray) : List ByteArray -> Nat -> Option Nat
 | [],_ => none
 | x :: r,i => if kc x s = true then some i else aa8 s r (i + 1)
def Z6 (s : ByteArray) : List (List ByteArray) -> Nat -> Option (Nat × Nat)
 | [],_ => none
 | e :: r,n => match aa8 s e 0 with
  | some i => some (n,i)
  | none => Z6 s r (n + 1)
section
variable (E : List (List ByteArray) -> Int -> Ms -> Ms)
def FH (env : List (List ByteArray)) : List Int -> Bool -> Ms -> Ms
 | [],_,m => m
 | x :: r,f,m => if m.how = 0 then FH env r false (E env x (if f = true then m else z8 m (inO 9))) else m
def XK (names : List ByteArray) (body : List Int) (env : List (List ByteArray)) (m : Ms) : Ms :=
 let m1 := z8 m ⟨6,0,names.length,⟨#[]⟩⟩
 let m2 := z8 m1 (inO 5)
 let m3 := FH E (names :: env) body true (toC m2 (Dz m))
 toC (z8 m3 (inO 8)) (Dz m1)
def Qb (p : List Nd) (s : ByteArray) (xs : List Int) (env : List (List ByteArray)) (m : Ms) : Ms :=
 if kc s (mk [113,117,111,116,101]) = true /\ xs.length = 2 then z8 m ⟨1,xs.getD 1 0,0,⟨#[]⟩⟩
 else if kc s (mk [105,102]) = true /\ xs.length = 4 then
  let m1 := E env (xs.getD 1 0) m
  let m3 := E env (xs.getD 2 0) (z8 m1 (inO 4))
  let m5 := toC (z8 m3 (inO 5)) (Dz m1)
  toC (E env (xs.getD 3 0) m5) (Dz m3)
 else if kc s (mk [100,111]) = true /\ 2 <= xs.length then FH E env (xs.drop 1) true m
 else if kc s (mk [102,110]) = true /\ 3 <= xs.length then
  let a := Ac p (xs.getD 1 0)
  if a.2 = false then D6 m 1 else
  let r := AE p a.1 m.how
  XK E r.1 (xs.drop 2) env (D6 m r.2)
 else if kc s (mk [108,101,116]) = true /\ 4 <= xs.length then
  let r := AE p [xs.getD 1 0] m.how
  z8 (E env (xs.getD 2 0) (XK E r.1 (xs.drop 3) env (D6 m r.2))) ⟨7,0,1,⟨#[]⟩⟩
 else D6 m 1
end
def KU (p : List Nd) : Nat -> List (List ByteArray) -> Int -> Ms -> Ms
 | 0,_,_,m => m
 | k + 1,env,v,m => if m.how ≠ 0 then m else
  let x := nod p v
  if x.kind = 1 \/ x.kind = 2 \/ x.kind = 3 then z8 m ⟨1,v,0,⟨#[]⟩⟩
  else if x.kind = 4 then
   if Yg x.s = true then D6 m 1 else match Z6 x.s env 0 with
    | some (n,i) => z8 m ⟨2,n,i,⟨#[]⟩⟩
    | none => z8 m ⟨3,0,0,x.s⟩
  else if x.kind ≠ 5 then D6 m 1
  else if (Ac p v).2 = false then D6 m 1
  else
   let xs := (Ac p v).1
   let h := nod p (xs.getD 0 0)
   if h.kind = 4 /\ Yg h.s = true then Qb (KU p k) p h.s xs env m
   else if xs.length > 5 then D6 m 1
   else z8 (xs.foldl (fun m x => KU p k env x m) m) ⟨7,0,(xs.length : Int) - 1,⟨#[]⟩⟩
def Jq (p : List Nd) (env : List (List ByteArray)) (v : Int) (m : Ms) : Ms := KU p (v.toNat + 1) env v m
def KQ (s : ByteArray) : List Df -> Int -> Int
 | [],h => h
 | d :: r,h => if h = 0 then KQ s r (if kc d.name s = true then 2 else 0) else h
def Nw (p : List Nd) (s : ByteArray) (names : List ByteArray) (body : List Int) (m : Ms) : Ms :=
 z8 (FH (Jq p) [names] body true ⟨m.list,m.defs ++ [⟨s,m.list.length,names.length⟩],KQ s m.defs m.how⟩) (inO 8)
def aaB : ByteArray := mk [109,97,105,110]
def QL (p : List Nd) (v : Int) (m : Ms) : Ms :=
 let l := Ac p v
 if (nod p v).kind = 5 /\ l.2 = true /\ (nod p (l.1.getD 0 0)).kind = 4 /\ kc (nod p (l.1.getD 0 0)).s (mk [100,101,102,105,110,101]) = true then
  if l.1.length < 3 \/ (nod p (l.1.getD 1 0)).kind ≠ 5 then D6 m 1 else
  let a := Ac p (l.1.getD 1 0)
  if a.2 = false then D6 m 1
  else if nmC p (a.1.getD 0 0) = false then D6 m 1
  else
   let r := AE p (a.1.drop 1) m.how
   Nw p (nod p (a.1.getD 0 0)).s r.1 (l.1.drop 2) (D6 m r.2)
 else Nw p aaB [] [v] m
def FI (p : List Nd) (n : Int) : List Int -> Int -> Ms -> Cd × Int × Int
 | [],_,m => if zI ⟨p,m.list,m.defs⟩ = true then (⟨p,m.list,m.defs⟩,0,n) else (⟨[],[],[]⟩,3,0)
 | x :: r,i,m =>
  let m1 := QL p x m
  if m1.how = 3 then (⟨[],[],[]⟩,3,0) else if m1.how ≠ 0 then (⟨[],[],[]⟩,m1.how,i) else FI p n r (i + 1) m1
def LX (p : List Nd) (xs : List Int) : Cd × Int × Int := if yV p = true /\ y5 p xs = true then FI p xs.length xs 0 ⟨[],[],0⟩ else (⟨[],[],[]⟩,3,0)
end
end Go.Eng
/-! a step of a machine: the program's side: the stack,the frames,lists -/
namespace Go.Eng
open Go.Proofs Go.Proofs.Tryz
set_option maxHeartbeats 4000000

theorem I9 {p : List Nd} {v : Int} (h : InP p v) : p[v.toNat]? = some (nod p v) := by
 have : v.toNat < p.length := by omega
 simp [nod,List.getD_eq_getElem?_getD,List.getElem?_eq_getElem this]
theorem JT {p : List Nd} (hp : zh p) {v : Int} (h : InP p v) : okN (nod p v) v = true := by
 have := hp _ _ (I9 h)
 rwa [Int.toNat_of_nonneg h.1] at this
theorem MH {p : List Nd} (hp : zh p) {v : Int} (h : InP p v) (hk : (nod p v).kind = 5 \/ (nod p v).kind = 6 \/ (nod p v).kind = 7) : InP p (nod p v).a := by
 rcases hk with hk | hk
 ·have := Ay (JT hp h) hk; exact ⟨by omega,by omega⟩
 ·have := AL (JT hp h) hk; exact ⟨by omega,by omega⟩
theorem Ot {p : List Nd} (hp : zh p) {v : Int} (h : InP p v) (hk : (nod p v).kind = 5) : InP p (nod p v).b := by
 have := Ay (JT hp h) hk; exact ⟨by omega,by omega⟩
theorem abu {p q : List Nd} {v : Int} (h : InP p v) : nod (p ++ q) v = nod p v := by
 have : v.toNat < p.length := by omega
 simp [nod,List.getD_eq_getElem?_getD,List.getElem?_append_left this]
theorem y7 {p : List Nd} (q : List Nd) {v : Int} (h : InP p v) : InP (p ++ q) v := ⟨h.1,by simp only [lnA]; omega⟩
section
variable {R : Type} {p : List Nd} {v : Int}
theorem Sb (h : InP p v) : (decide (0 <= v) && decide (v < ni (p.map eN).length)) = true := by
 rw [lnM]; simp only [ni,Bool.and_eq_true,decide_eq_true_eq]; exact ⟨h.1,h.2⟩
theorem GP (h : InP p v) (K : Int -> Int -> ByteArray -> Int -> Int -> Option R) : grd (decide (0 <= v) && decide (v < ni (p.map eN).length)) (cT (p.map eN) v.toNat fun x => tk1 x fun n4 n7 s10 n13 n16 => (K n4 n7 s10 n13 n16)) = K (nod p v).kind (nod p v).n (nod p v).s (nod p v).a (nod p v).b := by
 rw [yu (Sb h),xW (I9 h),JR]
theorem SY (h : InP p v) (K : Int -> Option R) : grd (decide (0 <= v) && decide (v < ni (p.map eN).length)) (cT (p.map eN) v.toNat fun x => asAgg x fun l => cT l 0 fun y => asI .i64 y fun n => K n) = K (nod p v).kind := by
 rw [yu (Sb h),xW (I9 h),ada]
theorem acu (h : InP p v) (K : Int -> Option R) : grd (decide (0 <= v) && decide (v < ni (p.map eN).length)) (cT (p.map eN) v.toNat fun x => asAgg x fun l => cT l 1 fun y => asI .i64 y fun n => K n) = K (nod p v).n := by
 rw [yu (Sb h),xW (I9 h),adb]
theorem acf (h : InP p v) (K : Int -> Option R) : grd (decide (0 <= v) && decide (v < ni (p.map eN).length)) (cT (p.map eN) v.toNat fun x => asAgg x fun l => cT l 3 fun y => asI .i64 y fun n => K n) = K (nod p v).a := by
 rw [yu (Sb h),xW (I9 h),ade]
theorem acg (h : InP p v) (K : Int -> Option R) : grd (decide (0 <= v) && decide (v < ni (p.map eN).length)) (cT (p.map eN) v.toNat fun x => asAgg x fun l => cT l 4 fun y => asI .i64 y fun n => K n) = K (nod p v).b := by
 rw [yu (Sb h),xW (I9 h),adf]
end

theorem W8 {m : Mc} (hp : zh m.pool) (hs : InP m.pool m.s) {v : Int} {m' : Mc} (h : GK m = some (v,m')) : InP m.pool v /\ m'.pool = m.pool /\ InP m.pool m'.s /\ m'.e = m.e /\ m'.d = m.d /\ m'.at' = m.at' /\ m'.state = m.state /\ m'.ask = m.ask /\ m'.arg = m.arg := by
 unfold GK at h
 split at h
 ·rename_i h5
  cases h
  exact ⟨MH hp hs (.inl h5),rfl,Ot hp hs h5,rfl,rfl,rfl,rfl,rfl,rfl⟩
 ·cases h
noncomputable def alD (r : Option Int) : D := match r with | some v => .tup [iN v,.bool true] | none => .tup [iN 0,.bool false]
theorem Pu {p : List Nd} (hp : zh p) : ∀ (k : Nat) (v a : Int),InP p v -> Pc p k v = some a -> InP p a
 | 0,v,a,hv,h => by
  unfold Pc at h
  split at h
  ·cases h; exact MH hp hv (.inl ‹_›)
  ·cases h
 | k + 1,v,a,hv,h => by
  unfold Pc at h
  split at h
  ·exact Pu hp k _ a (Ot hp hv ‹_›) h
  ·cases h
theorem YN {p : List Nd} (hp : zh p) : ∀ (k : Nat) (v : Int),InP p v -> ∀ x ∈ (JQ p k v).1,InP p x
 | 0,v,hv,x,hx => by simp [JQ] at hx
 | k + 1,v,hv,x,hx => by
  unfold JQ at hx
  split at hx
  ·rename_i h5
   rcases List.mem_cons.1 hx with rfl | hx
   ·exact MH hp hv (.inl h5)
   ·exact YN hp k _ (Ot hp hv h5) x hx
  ·simp at hx
theorem Wg {p : List Nd} : ∀ (k : Nat) (v : Int),(JQ p k v).1.length <= k
 | 0,v => by simp [JQ]
 | k + 1,v => by
  unfold JQ
  split
  ·have := Wg (p := p) k (nod p v).b; simp only [lnC]; omega
  ·simp
end Go.Eng
/-! which nodes are alike: both sides -/
namespace Go.Eng
open Go.Proofs Go.Proofs.Tryz
set_option maxHeartbeats 4000000

noncomputable def clV (keys : List Nd) (y : Nd) (i : Nat) : Int := match keys.findIdx? (fun z => Wj z y) with | some k => (k : Int) | none => (i : Int)
theorem abK {l : List Int} (h : l.length < 4294967290) (x : Int) : decide (ni (l.map eI ++ [iN x]).length <= LIM) = true :=
 decide_eq_true (by rw [pE]; simp only [ni,lnA,lnM,lnC,lnN]; omega)
theorem GG {R : Type} {l : List Int} {v : Int} (h0 : 0 <= v) (h1 : v < (l.length : Int)) (K : Int -> Option R) : grd (decide (0 <= v) && decide (v < ni (l.map eI).length)) (cT (l.map eI) v.toNat fun x => asI .i64 x fun n => K n) = K (l.getD v.toNat 0) := by
 obtain ⟨x,hx⟩ := xx (l := l) (i := v.toNat) (by omega)
 rw [yu (by rw [lnM]; simp only [ni,Bool.and_eq_true,decide_eq_true_eq]; exact ⟨h0,h1⟩),xW hx,ye,List.getD_eq_getElem?_getD,hx]; rfl
theorem RQ (x : Nd) (r : List Nd) (out : List Int) (keys : List Nd) : Xt (x :: r) out keys = Xt r (out ++ [clV keys (EF out x) out.length]) (keys ++ [EF out x]) := rfl
theorem Vj : ∀ (r : List Nd) (out : List Int) (keys : List Nd),(Xt r out keys).1.length = out.length + r.length
 | [],out,keys => rfl
 | x :: r,out,keys => by
  rw [RQ,Vj r]; simp only [lnA,lnC,lnN]; omega
theorem Vk (p : List Nd) : (aal p).length = p.length := by
 unfold aal; rw [Vj]; simp
theorem abt (x : Nd) {R : Type} (K : Int -> Int -> ByteArray -> Int -> Int -> Option R) : tk1 (eN x) (fun n4 n7 s10 n13 n16 => (K n4 n7 s10 n13 n16)) = K x.kind x.n x.s x.a x.b := rfl
theorem YJ {keys : List Nd} (h : keys.length < 4294967290) (y : Nd) : decide (ni (keys.map eN ++ [eN y]).length <= LIM) = true :=
 decide_eq_true (by rw [pE]; simp only [ni,lnA,lnM,lnC,lnN]; omega)
theorem J5 {p keys : List Nd} {out : List Int} {i : Nat} (hi : i < 4294967290) (hk : keys.length = i) (ho : out.length = i) (y : Nd) : ∀ (k j : Nat),j + k = i -> (∀ t,t < j -> ∀ z,keys[t]? = some z -> Wj z y = false) ->
  zl (i : Int) (i : Int) (j : Int) (p.map eN) (out.map eI) (keys.map eN) y.kind y.n y.s y.a y.b = z3 ((i + 1 : Nat) : Int) (p.map eN) ((out ++ [clV keys y i]).map eI) ((keys ++ [y]).map eN)
 | 0,j,hj,hn => by
  have hnone : keys.findIdx? (fun z => Wj z y) = none := by
   rw [List.findIdx?_eq_none_iff]
   intro z hz
   obtain ⟨t,ht⟩ := List.getElem?_of_mem hz
   exact hn t (by have := aQ ht; omega) z ht
  have ek : keys.map eN ++ [D.agg [iN y.kind,iN y.n,D.str y.s,iN y.a,iN y.b]] = (keys ++ [y]).map eN := by simp
  have el : out.map eI ++ [iN (i : Int)] = (out ++ [clV keys y i]).map eI := by simp [clV,hnone]
  have hkl : decide (ni ((keys ++ [y]).map eN).length <= LIM) = true := by have := YJ (keys := keys) (by omega) y; simpa using this
  have hol := abK (l := out) (by omega) (i : Int)
  rw [DG,xb (decide_eq_false (by omega)),ek,yu hkl,yA,yu hol,yA,el,yM (by omega)]
 | k + 1,j,hj,hn => by
  obtain ⟨z,hz⟩ := xx (l := keys) (i := j) (by omega)
  have ek : keys.map eN ++ [D.agg [iN y.kind,iN y.n,D.str y.s,iN y.a,iN y.b]] = (keys ++ [y]).map eN := by simp
  have hkl : decide (ni ((keys ++ [y]).map eN).length <= LIM) = true := by have := YJ (keys := keys) (by omega) y; simpa using this
  have hol := abK (l := out) (by omega) (j : Int)
  rw [DG,xK (decide_eq_true (by omega)),yu (by rw [lnM]; exact yx (by omega)),Int.toNat_natCast,xW hz,abt]
  have et : (z.kind == y.kind && (z.n == y.n && (kc z.s y.s && (z.a == y.a && (z.b == y.b && true))))) = Wj z y := by simp [Wj]
  rw [et]
  cases hq : Wj z y with
  | false =>
   rw [xJ,yM (by omega)]
   refine J5 hi hk ho y k (j + 1) (by omega) (fun t ht u hu => ?_)
   rcases Nat.lt_or_ge t j with h | h
   ·exact hn t h u hu
   ·have : t = j := by omega
    subst this
    rw [hz] at hu; cases hu; exact hq
  | true =>
   have hsome : keys.findIdx? (fun z => Wj z y) = some j := by
    rw [List.findIdx?_eq_some_iff_getElem]
    have hlt := aQ hz
    refine ⟨hlt,?_,fun t ht => ?_⟩
    ·rw [List.getElem?_eq_getElem hlt] at hz; cases hz; exact hq
    ·have htl : t < keys.length := by omega
     have := hn t ht keys[t] (List.getElem?_eq_getElem htl)
     simp [this]
   have el : out.map eI ++ [iN (j : Int)] = (out ++ [clV keys y i]).map eI := by simp [clV,hsome]
   rw [yk,ek,yu hkl,yA,yu hol,yA,el,yM (by omega)]
theorem Lg {p : List Nd} (hp : zh p) (hl : p.length < 4294967290) : ∀ (k i : Nat) (keys : List Nd) (out : List Int),i + k = p.length -> out.length = i -> keys.length = i ->
  z3 (i : Int) (p.map eN) (out.map eI) (keys.map eN) = some (.os (1,0) ((Xt (p.drop i) out keys).1.map eI),[])
 | 0,i,keys,out,hi,ho,hk => by
  rw [D5,xb (by rw [lnM]; exact yr (by omega)),List.drop_of_length_le (by omega)]
  rfl
 | k + 1,i,keys,out,hi,ho,hk => by
  obtain ⟨x,hx⟩ := xx (l := p) (i := i) (by omega)
  have hxo := hp i x hx
  rw [D5,xK (by rw [lnM]; exact yz (by omega)),yu (by rw [lnM]; exact yx (by omega)),Int.toNat_natCast,xW hx,JR,tU hx,RQ,ho]
  have fin : ∀ (y : Nd),y = EF out x -> zl (i : Int) (i : Int) 0 (p.map eN) (out.map eI) (keys.map eN) y.kind y.n y.s y.a y.b = some (.os (1,0) ((Xt (p.drop (i + 1)) (out ++ [clV keys (EF out x) i]) (keys ++ [EF out x])).1.map eI),[]) := by
   rintro y rfl
   have h1 := J5 (p := p) (i := i) (by omega) hk ho (EF out x) i 0 (Nat.zero_add _) (fun t ht => by omega)
   rw [Int.natCast_zero] at h1
   rw [h1]
   exact Lg hp hl k (i + 1) _ _ (by omega) (by simp [ho]) (by simp [hk])
  by_cases h5 : x.kind = 5
  ·have hb := Ay hxo h5
   rw [xK (yF h5),GG hb.1 (by omega),GG hb.2.2.1 (by omega)]
   exact fin ⟨x.kind,x.n,x.s,out.getD x.a.toNat 0,out.getD x.b.toNat 0⟩ (by simp only [EF,h5,if_true])
  ·rw [xb (yE h5)]
   by_cases h6 : x.kind = 6
   ·have hb := AL hxo (.inl h6)
    rw [xK (yF h6),xK (yF h6),GG hb.1 (by omega)]
    exact fin ⟨x.kind,x.n,x.s,out.getD x.a.toNat 0,x.b⟩ (by simp only [EF,h6]; simp)
   ·rw [xb (yE h6)]
    by_cases h7 : x.kind = 7
    ·have hb := AL hxo (.inr h7)
     rw [xK (yF h7),GG hb.1 (by omega)]
     exact fin ⟨x.kind,x.n,x.s,out.getD x.a.toNat 0,x.b⟩ (by simp only [EF,h7]; simp)
    ·rw [xb (yE h7)]
     exact fin x (by simp only [EF,h5,h6,h7,if_false,or_self])
theorem W9 {p : List Nd} (hp : zh p) (hl : p.length < 4294967290) : V 252 [eP p] = some (.os (1,0) ((aal p).map eI),[]) := by
 have h := Lg hp hl p.length 0 [] [] (Nat.zero_add _) rfl rfl
 rw [Int.natCast_zero] at h
 rw [Pa]
 exact h
end Go.Eng
/-! what is built in: both sides -/
namespace Go.Eng
noncomputable section
open Go.Proofs Go.Proofs.Tryz
set_option maxHeartbeats 4000000

theorem My {R : Type} {l : List Int} {v x : Int} (h0 : 0 <= v) (h : l[v.toNat]? = some x) (K : Int -> Option R) : grd (decide (0 <= v) && decide (v < ni (l.map eI).length)) (cT (l.map eI) v.toNat fun x => asI .i64 x fun n => K n) = K x := by
 have := aQ h
 rw [GG h0 (by omega),List.getD_eq_getElem?_getD,h]; rfl
theorem Cq {R : Type} {a : Int} {r : List Int} (K : Int -> Option R) : grd (decide ((0 : Nat) <= 0) && decide ((0 : Int) < ni ((a :: r).map eI).length)) (cT ((a :: r).map eI) 0 fun x => asI .i64 x fun n => K n) = K a := My (l := a :: r) (v := 0) (by omega) rfl K
theorem I8 {R : Type} {a b : Int} {r : List Int} (K : Int -> Option R) : grd (decide ((0 : Nat) <= 1) && decide ((1 : Int) < ni ((a :: b :: r).map eI).length)) (cT ((a :: b :: r).map eI) 1 fun x => asI .i64 x fun n => K n) = K b := My (l := a :: b :: r) (v := 1) (by omega) rfl K
theorem aaz {R : Type} {a b c : Int} {r : List Int} (K : Int -> Option R) : grd (decide ((0 : Nat) <= 2) && decide ((2 : Int) < ni ((a :: b :: c :: r).map eI).length)) (cT ((a :: b :: c :: r).map eI) 2 fun x => asI .i64 x fun n => K n) = K c := My (l := a :: b :: c :: r) (v := 2) (by omega) rfl K
theorem Ja : nz ⟨#[]⟩ = true := by unfold nz; rw [Bv]; simp
theorem Ph {n : Int} : V 245 [iN n] = some (iN (zF n),[]) := by
 rw [PO,zT (Al _ _ _)]
 unfold zF
 cases h : wi n 1 19 with
 | false => rfl
 | true =>
  have hb := wi_iff.1 h
  rw [Bool.not_true,xJ]
  have e : prArgs.getD (n - 1).toNat 0 = (0 :: prArgs).getD n.toNat 0 := by
   have : n.toNat = (n - 1).toNat + 1 := by omega
   rw [this]; rfl
  simp only [if_true]
  rw [e]
  exact GG (l := 0 :: prArgs) (by omega) (by show n < 20; omega) _
theorem aaQ {R : Type} {l : List (List UInt8)} {i : Nat} {x : List UInt8} (h : l[i]? = some x) (K : ByteArray -> Option R) : grd (decide (0 <= (i : Int)) && decide ((i : Int) < ni (l.map fun x => D.str (mk x)).length)) (cT (l.map fun x => D.str (mk x)) (i : Int).toNat fun x => asS x fun n => K n) = K (mk x) := by
 have := aQ h
 rw [yu (by rw [lnM]; exact yx this),Int.toNat_natCast,xW h,yi]
theorem ZU (a b : ByteArray) : kc a b = kc b a := by
 rw [Bv,Bv]
 exact decide_eq_decide.2 ⟨Eq.symm,Eq.symm⟩
theorem QC (s : ByteArray) : 0 <= FX s /\ FX s <= 19 := by
 unfold FX ya
 cases h : prNames.findIdx? fun x => kc s (mk x) with
 | none => simp
 | some k =>
  rw [List.findIdx?_eq_some_iff_getElem] at h
  obtain ⟨hk,_⟩ := h
  have : prNames.length = 19 := rfl
  simp only; omega
theorem Ke (s : ByteArray) : ∀ (k i : Nat),i + k = 19 -> Dp s ((i + 1 : Nat) : Int) (([] :: prNames).map fun x => D.str (mk x)) = some (iN (dQ (fun x => kc s (mk x)) prNames i + 1),[])
 | 0,i,hi => by
  have : i = 19 := by omega
  subst this
  rw [Gu,xb (decide_eq_false (by omega)),w8 (by decide)]
  rfl
 | k + 1,i,hi => by
  obtain ⟨x,hx⟩ := xx (l := prNames) (i := i) (by show i < 19; omega)
  have hx' : ([] :: prNames)[i + 1]? = some x := hx
  have ih := Ke s k (i + 1) (by omega)
  rw [Gu,xK (decide_eq_true (by omega)),aaQ hx',ZU]
  cases h : kc s (mk x) with
  | true => rw [yk,w9 hx h]; rfl
  | false => rw [xJ,yM (by omega),ih,wJ hx h]
theorem RK (s : ByteArray) : V 232 [.str s] = some (iN (FX s),[]) := by
 have h := Ke s 19 0 (Nat.zero_add _)
 rw [wK] at h
 have h2 : V 239 [] = some (.os (1,0) (([] :: prNames).map fun x => D.str (mk x)),[]) := Rm
 rw [TE,UI h2]
 exact h
theorem IQ (b : Bool) : V 251 [.bool b] = some (eN (ndB b),[]) := by
 rw [Uc]; cases b <;> rfl
def Jz (n a b : Int) : Nd := if n = 1 then ndI (a + b) else if n = 2 then ndI (a - b) else if n = 3 then ndI (a * b) else if n = 4 then ndB (decide (a < b)) else ndB (a == b)
theorem Zu {a b : Int} (ha : -1000000000 <= a /\ a <= 1000000000) (hb : -1000000000 <= b /\ b <= 1000000000) : -1000000000000000000 <= a * b /\ a * b <= 1000000000000000000 := by
 have h1 : a.natAbs <= 1000000000 := by omega
 have h2 : b.natAbs <= 1000000000 := by omega
 have h3 : (a * b).natAbs <= 1000000000 * 1000000000 := by rw [Int.natAbs_mul]; exact Nat.mul_le_mul h1 h2
 omega
theorem abx {x : Nd} {h : Int} (ho : okN x h = true) : x.s.size <= 12 := by
 have nz0 : nz x.s = true -> x.s.size <= 12 := by
  intro e
  unfold nz at e
  rw [Bv] at e
  rw [of_decide_eq_true e]; decide
 have nm : Jy x.s = true -> x.s.size <= 12 := by
  intro e
  unfold Jy at e
  simp only [Bool.and_eq_true] at e
  have := wi_iff.1 e.1
  omega
 unfold okN at ho
 repeat' split at ho
 all_goals first | cases ho | skip
 all_goals (simp only [Bool.and_eq_true] at ho; first | exact nz0 ho.2.1 | exact nm ho.2.1)
theorem Qy {p : List Nd} (hp : zh p) : zZ p := fun x hx => by
 obtain ⟨j,hj⟩ := List.getElem?_of_mem hx
 have := abx (hp j x hj)
 omega
theorem YX {x : Nd} {h : Int} (ho : okN x h = true) (hk : x.kind = 3) : -1000000000 <= x.n /\ x.n <= 1000000000 := by
 simp [okN,hk] at ho
 exact wi_iff.1 ho.1
def QX (p : List Nd) (n : Int) (v : Int) : Bool := if n <= 5 then (nod p v).kind == 3 else if n = 7 \/ n = 8 then (nod p v).kind == 5 else true
def adh (p : List Nd) (r : Except Int (List Nd × Int)) : Option Ret := match r with
 | .ok (q,v) => some (.tup [iN v,iN 0],[rP q])
 | .error h => some (.tup [iN (-1),iN h],[rP p])
def Jj (p : List Nd) (n : Int) (l : List Int) : Nd :=
 let x := nod p (l.getD 0 0); let y := nod p (l.getD 1 0)
 if n = 6 then ndP (l.getD 0 0) (l.getD 1 0)
 else if n = 9 then ndB (x.kind == 1)
 else if n = 10 then ndB (x.kind == 5)
 else if n = 11 then ndB (abL p (l.getD 0 0) (l.getD 1 0))
 else if n = 12 then ndB (x.kind == 2 && x.n == 0)
 else Jz n x.n y.n
theorem Iq {n : Int} {l : List Int} (hlen : (l.length : Int) = zF n) (h : 1 <= n /\ n <= 6 \/ n = 11) : ∃ a b,l = [a,b] := by
 have h2 : zF n = 2 := by
  have : n = 1 \/ n = 2 \/ n = 3 \/ n = 4 \/ n = 5 \/ n = 6 \/ n = 11 := by omega
  rcases this with rfl | rfl | rfl | rfl | rfl | rfl | rfl <;> rfl
 rw [h2] at hlen
 match l,hlen with
 | [a,b],_ => exact ⟨a,b,rfl⟩
 | [],h => simp at h
 | [_],h => simp at h
 | _ :: _ :: _ :: _,h => simp at h; omega
theorem PB {n : Int} {l : List Int} (hlen : (l.length : Int) = zF n) (h : 7 <= n /\ n <= 10 \/ n = 12) : ∃ a,l = [a] := by
 have h2 : zF n = 1 := by
  have : n = 7 \/ n = 8 \/ n = 9 \/ n = 10 \/ n = 12 := by omega
  rcases this with rfl | rfl | rfl | rfl | rfl <;> rfl
 rw [h2] at hlen
 match l,hlen with
 | [a],_ => exact ⟨a,rfl⟩
 | [],h => simp at h
 | _ :: _ :: _,h => simp at h; omega
theorem Ya {p : List Nd} (_ : zh p) {n : Int} {l : List Int} (hv : ∀ v ∈ l,InP p v) (hlen : (l.length : Int) = zF n) (_ : 1 <= n /\ n <= 12) (_ : n ≠ 7 /\ n ≠ 8) (hw : wi (Jj p n l).n (-1000000000) 1000000000 = true) : okN (Jj p n l) p.length = true := by
 have hB : ∀ b,okN (ndB b) p.length = true := by intro b; cases b <;> simp [ndB,okN,wi,Ja]
 unfold Jj at hw ⊢
 simp only at hw ⊢
 by_cases h6 : n = 6
 ·rw [if_pos h6]
  obtain ⟨a,b,rfl⟩ := Iq hlen (by omega)
  have ha := hv a (by simp)
  have hb := hv b (by simp)
  show (wi 0 0 0 && (nz ⟨#[]⟩ && (wi a 0 _ && wi b 0 _))) = true
  rw [wi_iff.2 ⟨ha.1,by omega⟩,wi_iff.2 ⟨hb.1,by omega⟩,Ja]
  rfl
 rw [if_neg h6] at hw ⊢
 by_cases h9 : n = 9
 ·rw [if_pos h9]; exact hB _
 rw [if_neg h9] at hw ⊢
 by_cases h10 : n = 10
 ·rw [if_pos h10]; exact hB _
 rw [if_neg h10] at hw ⊢
 by_cases h11 : n = 11
 ·rw [if_pos h11]; exact hB _
 rw [if_neg h11] at hw ⊢
 by_cases hn12 : n = 12
 ·rw [if_pos hn12]; exact hB _
 rw [if_neg hn12] at hw ⊢
 unfold Jz at hw ⊢
 have hI : ∀ x,wi x (-1000000000) 1000000000 = true -> okN (ndI x) p.length = true := fun x hx => by
  show (wi x (-1000000000) 1000000000 && (nz ⟨#[]⟩ && _)) = true
  rw [hx,Ja]; rfl
 split at hw
 ·rw [if_pos ‹_›]; exact hI _ hw
 rw [if_neg ‹_›]
 split at hw
 ·rw [if_pos ‹_›]; exact hI _ hw
 rw [if_neg ‹_›]
 split at hw
 ·rw [if_pos ‹_›]; exact hI _ hw
 rw [if_neg ‹_›]
 split <;> exact hB _
theorem M8 {p : List Nd} {n : Int} {l : List Int} (h12 : 1 <= n /\ n <= 12) (hlen : (l.length : Int) = zF n) : MZ p n l =
  if l.all (QX p n) = true then (if n = 7 then .ok (p,(nod p (l.getD 0 0)).a) else if n = 8 then .ok (p,(nod p (l.getD 0 0)).b) else if wi (Jj p n l).n (-1000000000) 1000000000 = true then .ok (p ++ [Jj p n l],p.length) else .error 4) else .error 3 := by
 unfold MZ
 simp only
 have hBw : ∀ b,wi (ndB b).n (-1000000000) 1000000000 = true := by intro b; cases b <;> rfl
 by_cases h5 : n <= 5
 ·obtain ⟨a,b,rfl⟩ := Iq hlen (by omega)
  have hc : [a,b].all (QX p n) = true ↔ (nod p a).kind = 3 /\ (nod p b).kind = 3 := by
   simp [QX,h5]
  rw [if_pos h5]
  simp only [List.getD_cons_zero,List.getD_cons_succ]
  by_cases hk : (nod p a).kind = 3 /\ (nod p b).kind = 3
  ·have n7 : ¬ n = 7 := by omega
   have n8 : ¬ n = 8 := by omega
   rw [if_pos hk,if_pos (hc.2 hk),if_neg n7,if_neg n8]
   have e : Jj p n [a,b] = Jz n (nod p a).n (nod p b).n := by
    unfold Jj
    simp only [List.getD_cons_zero,List.getD_cons_succ]
    rw [if_neg (by omega),if_neg (by omega),if_neg (by omega),if_neg (by omega),if_neg (by omega)]
   rw [e]
   rfl
  ·rw [if_neg hk,if_neg (fun h => hk (hc.1 h))]
 rw [if_neg h5]
 by_cases h6 : n = 6
 ·subst h6
  have hc : l.all (QX p 6) = true := by simp [QX]
  rw [hc]
  simp only [if_true,Jj]
  rfl
 rw [if_neg h6]
 by_cases h78 : n = 7 \/ n = 8
 ·obtain ⟨a,rfl⟩ := PB hlen (by omega)
  have hc : [a].all (QX p n) = true ↔ (nod p a).kind = 5 := by simp [QX,h5,h78]
  rw [if_pos h78]
  simp only [List.getD_cons_zero]
  by_cases hk : (nod p a).kind = 5
  ·rw [if_pos hk,if_pos (hc.2 hk)]
   rcases h78 with rfl | rfl <;> rfl
  ·rw [if_neg hk,if_neg (fun h => hk (hc.1 h))]
 have hc : l.all (QX p n) = true := by simp [QX,h5,h78]
 rw [if_neg h78,if_pos hc,if_neg (fun h => h78 (.inl h)),if_neg (fun h => h78 (.inr h))]
 unfold Jj
 simp only
 rw [if_neg h6]
 by_cases h9 : n = 9
 ·simp only [h9,if_true]; rw [if_pos (hBw _)]
 rw [if_neg h9,if_neg h9]
 by_cases h10 : n = 10
 ·simp only [h10,if_true]; rw [if_pos (hBw _)]
 rw [if_neg h10,if_neg h10]
 by_cases h11 : n = 11
 ·simp only [h11,if_true]; rw [if_pos (hBw _)]
 have hn12 : n = 12 := by omega
 rw [if_neg h11,if_neg h11,if_pos hn12,if_pos (hBw _)]
theorem Ym {n : Int} (h5 : 1 <= n /\ n <= 5) {x y : Nd} (hx : x.kind = 3 -> -1000000000 <= x.n /\ x.n <= 1000000000) (hy : y.kind = 3 -> -1000000000 <= y.n /\ y.n <= 1000000000) :
  ∃ z,V 250 [iN n,eN x,eN y] = some (.tup [eN (if x.kind = 3 /\ y.kind = 3 /\ wi (Jz n x.n y.n).n (-1000000000) 1000000000 = true then Jz n x.n y.n else z),iN (if x.kind = 3 /\ y.kind = 3 then (if wi (Jz n x.n y.n).n (-1000000000) 1000000000 = true then 0 else 4) else 3)],[]) := by
 have hBw : ∀ b,wi (ndB b).n (-1000000000) 1000000000 = true := by intro b; cases b <;> rfl
 refine ⟨⟨0,0,⟨#[]⟩,0,0⟩,?_⟩
 rw [PT]
 by_cases k1 : x.kind = 3
 ·rw [xb (yG k1)]
  by_cases k2 : y.kind = 3
  ·have a1 := hx k1
   have a2 := hy k2
   have hm := Zu a1 a2
   have hk : x.kind = 3 /\ y.kind = 3 := ⟨k1,k2⟩
   rw [xb (yG k2),if_pos hk]
   have fin : ∀ (q : Int),Jz n x.n y.n = ndI q -> (ck6 62 [iN q,iN (-1000000000),iN 1000000000] fun b => (br (!b) (some (D.tup [.agg [iN 0,iN 0,.str ⟨#[]⟩,iN 0,iN 0],iN 4],[])) (some (D.tup [.agg [iN 3,iN q,.str ⟨#[]⟩,iN 0,iN 0],iN 0],([] : List D))))) =
     some (D.tup [eN (if x.kind = 3 /\ y.kind = 3 /\ wi (Jz n x.n y.n).n (-1000000000) 1000000000 = true then Jz n x.n y.n else ⟨0,0,⟨#[]⟩,0,0⟩),iN (if wi (Jz n x.n y.n).n (-1000000000) 1000000000 = true then 0 else 4)],[]) := by
    intro q hq
    rw [zT (Al _ _ _),hq]
    simp only
    cases hw : wi q (-1000000000) 1000000000 with
    | false => rw [if_neg (by simp),if_neg (by simp)]; rfl
    | true => rw [if_pos ⟨k1,k2,rfl⟩,if_pos rfl]; rfl
   have PZ : ∀ b,Jz n x.n y.n = ndB b -> (PE 251 [.bool b] fun n4 n7 s10 n13 n16 => ((some (D.tup [.agg [iN n4,iN n7,.str s10,iN n13,iN n16],iN 0],([] : List D))))) =
     some (D.tup [eN (if x.kind = 3 /\ y.kind = 3 /\ wi (Jz n x.n y.n).n (-1000000000) 1000000000 = true then Jz n x.n y.n else ⟨0,0,⟨#[]⟩,0,0⟩),iN (if wi (Jz n x.n y.n).n (-1000000000) 1000000000 = true then 0 else 4)],[]) := by
    intro b hb
    rw [CZ (IQ b),hb,if_pos ⟨k1,k2,hBw b⟩,if_pos (hBw b)]
   have w1 : w6 (x.n - y.n) = x.n - y.n := w64 (by omega) (by omega)
   have w2 : w6 (x.n * y.n) = x.n * y.n := w64 (by omega) (by omega)
   have w3 : w6 (x.n + y.n) = x.n + y.n := w64 (by omega) (by omega)
   rw [w1,w2,w3]
   by_cases c2 : n = 2
   ·rw [xK (yF c2)]; exact fin _ (by subst c2; rfl)
   rw [xb (yE c2)]
   by_cases c3 : n = 3
   ·rw [xK (yF c3)]; exact fin _ (by subst c3; rfl)
   rw [xb (yE c3)]
   by_cases c4 : n = 4
   ·rw [xK (yF c4)]; exact PZ _ (by subst c4; rfl)
   rw [xb (yE c4)]
   by_cases c5 : n = 5
   ·rw [xK (yF c5)]; exact PZ _ (by subst c5; rfl)
   rw [xb (yE c5)]
   have c1 : n = 1 := by omega
   exact fin _ (by subst c1; rfl)
  ·rw [xK (yH k2),if_neg (fun h => k2 h.2.1),if_neg (fun h => k2 h.2)]
 ·rw [xK (yH k1),if_neg (fun h => k1 h.1),if_neg (fun h => k1 h.1)]
theorem ab7 {p : List Nd} (hp : zh p) (hl : p.length < 4294967290) {n : Int} {l : List Int} (hv : ∀ v ∈ l,InP p v) (h12 : 1 <= n /\ n <= 12) (hlen : (l.length : Int) = zF n) :
  V 246 [rP p,iN n,.rs (1,0) (l.map eI)] = adh p (MZ p n l) := by
 obtain ⟨a,r,rfl⟩ : ∃ a r,l = a :: r := by
  by_cases h : n <= 6 \/ n = 11
  ·obtain ⟨a,b,rfl⟩ := Iq hlen (by omega); exact ⟨_,_,rfl⟩
  ·obtain ⟨a,rfl⟩ := PB hlen (by omega); exact ⟨_,_,rfl⟩
 have ha := hv a (by simp)
 rw [XI,Cq,GP ha]
 unfold MZ
 simp only [List.getD_cons_zero]
 by_cases h5 : n <= 5
 ·obtain ⟨a',b,e⟩ := Iq hlen (by omega)
  cases e
  have hb := hv b (by simp)
  obtain ⟨z,hz⟩ := Ym (n := n) (by omega) (x := nod p a) (y := nod p b) (YX (JT hp ha)) (YX (JT hp hb))
  rw [xK (decide_eq_true h5),if_pos h5,I8,GP hb,RB hz]
  simp only [List.getD_cons_zero,List.getD_cons_succ]
  by_cases hk : (nod p a).kind = 3 /\ (nod p b).kind = 3
  ·have e : (if n = 1 then ndI ((nod p a).n + (nod p b).n) else if n = 2 then ndI ((nod p a).n - (nod p b).n) else if n = 3 then ndI ((nod p a).n * (nod p b).n) else if n = 4 then ndB (decide ((nod p a).n < (nod p b).n)) else ndB ((nod p a).n == (nod p b).n)) = Jz n (nod p a).n (nod p b).n := rfl
   rw [if_pos hk,if_pos hk,e]
   by_cases hw : wi (Jz n (nod p a).n (nod p b).n).n (-1000000000) 1000000000 = true
   ·have hc : (nod p a).kind = 3 /\ (nod p b).kind = 3 /\ wi (Jz n (nod p a).n (nod p b).n).n (-1000000000) 1000000000 = true := ⟨hk.1,hk.2,hw⟩
    rw [if_pos hw,if_pos hw,xb (yG rfl)]
    simp only [if_pos hc]
    rw [y1 (zo (by omega) (Jz n (nod p a).n (nod p b).n))]
    rfl
   ·rw [if_neg hw,if_neg hw]; rfl
  ·rw [if_neg hk,if_neg hk]; rfl
 rw [xb (decide_eq_false h5),if_neg h5]
 by_cases h6 : n = 6
 ·obtain ⟨a',b,e⟩ := Iq hlen (by omega)
  cases e
  rw [xK (yF h6),if_pos h6,Cq,I8,y1 (zo (by omega) (ndP a b))]
  rfl
 rw [xb (yE h6),if_neg h6]
 by_cases h8 : n <= 8
 ·rw [xK (decide_eq_true h8),if_pos (by omega)]
  by_cases hk : (nod p a).kind = 5
  ·rw [xb (yG hk),if_pos hk]
   by_cases h7 : n = 7
   ·rw [xK (yF h7),if_pos h7]; rfl
   ·rw [xb (yE h7),if_neg h7]; rfl
  ·rw [xK (yH hk),if_neg hk]; rfl
 rw [xb (decide_eq_false h8),if_neg (by omega)]
 by_cases h9 : n = 9
 ·rw [xK (yF h9),if_pos h9,CZ (IQ _),y1 (zo (by omega) (ndB _))]; rfl
 rw [xb (yE h9),if_neg h9]
 by_cases h10 : n = 10
 ·rw [xK (yF h10),if_pos h10,CZ (IQ _),y1 (zo (by omega) (ndB _))]; rfl
 rw [xb (yE h10),if_neg h10]
 by_cases h11 : n = 11
 ·obtain ⟨a',b,e⟩ := Iq hlen (by omega)
  cases e
  have hb := hv b (by simp)
  rw [xK (yF h11),if_pos h11,Qv (W9 hp hl),Cq,GG ha.1 (by rw [Vk]; exact ha.2),I8,GG hb.1 (by rw [Vk]; exact hb.2),CZ (IQ _),y1 (zo (by omega) (ndB _))]
  rfl
 rw [xb (yE h11),if_neg h11]
 cases hk2 : (nod p a).kind == 2 with
 | true => rw [yk,CZ (IQ _),y1 (zo (by omega) (ndB _)),Bool.true_and]; rfl
 | false => rw [xJ,CZ (IQ _),y1 (zo (by omega) (ndB _)),Bool.false_and]; rfl
end
end Go.Eng
/-! a step of a machine keeps it right: plain -/
namespace Go.Eng

theorem zr {p : List Nd} (hp : zh p) {x : Nd} (hx : okN x p.length = true) : zh (p ++ [x]) := by
 intro j y hy
 rcases Nat.lt_or_ge j p.length with h | h
 ·rw [List.getElem?_append_left h] at hy; exact hp j y hy
 ·rw [List.getElem?_append_right h] at hy
  have : j = p.length := by have := aQ hy; simp at this; omega
  subst this
  simp at hy; subst hy; exact hx
theorem UK (h : Int) : okN ndN h = true := by
 show (wi 0 0 0 && (nz ⟨#[]⟩ && _)) = true
 rw [Ja]; rfl
theorem Ky {a b : Int} {n : Nat} (ha : 0 <= a /\ a < (n : Int)) (hb : 0 <= b /\ b < (n : Int)) : okN (ndP a b) n = true := by
 show (wi 0 0 0 && (nz ⟨#[]⟩ && (wi a 0 _ && wi b 0 _))) = true
 rw [wi_iff.2 ⟨ha.1,by omega⟩,wi_iff.2 ⟨hb.1,by omega⟩,Ja]; rfl
theorem UJ {n h : Int} (hn : -1000000000 <= n /\ n <= 1000000000) : okN (ndI n) h = true := by
 show (wi n (-1000000000) 1000000000 && (nz ⟨#[]⟩ && _)) = true
 rw [wi_iff.2 hn,Ja]; rfl
theorem YZ {k a : Int} {n : Nat} (hk : 0 <= k /\ k <= 1000000000) (ha : 0 <= a /\ a < (n : Int)) : okN (ndF k a) n = true := by
 show (wi k 0 1000000000 && (nz ⟨#[]⟩ && (wi a 0 _ && _))) = true
 rw [wi_iff.2 hk,wi_iff.2 ⟨ha.1,by omega⟩,Ja]; rfl
theorem Y0 {a : Int} {n : Nat} (ha : 0 <= a /\ a < (n : Int)) : okN (ndK a) n = true := by
 show (wi 0 0 0 && (nz ⟨#[]⟩ && (wi a 0 _ && _))) = true
 rw [wi_iff.2 ⟨ha.1,by omega⟩,Ja]; rfl
theorem abw {k h : Int} (hk : 0 <= k /\ k <= 99) : okN (ndR k) h = true := by
 show (wi k 0 99 && (nz ⟨#[]⟩ && _)) = true
 rw [wi_iff.2 hk,Ja]; rfl
theorem Ai (p : List Nd) (x : Nd) : InP (p ++ [x]) (p.length : Int) := ⟨by omega,by simp only [lnA,lnC,lnN]; omega⟩
theorem MC : ∀ (r : List Int) (q : List Nd) (c : Nat),zh q -> c < q.length -> (∀ v ∈ r,InP q v) -> zh (BQ r q c).1 /\ (∃ t,(BQ r q c).1 = q ++ t /\ t.length = r.length) /\ (BQ r q c).2 < (BQ r q c).1.length
 | [],q,c,hq,hc,hr => ⟨hq,⟨[],by simp [BQ],rfl⟩,hc⟩
 | x :: r,q,c,hq,hc,hr => by
  have hx := hr x (by simp)
  obtain ⟨h1,⟨t,h2,h3⟩,h4⟩ := MC r (q ++ [ndP x c]) q.length (zr hq (Ky hx ⟨by omega,by omega⟩)) (by simp) (fun v hv => y7 _ (hr v (by simp [hv])))
  exact ⟨h1,⟨ndP x c :: t,by rw [BQ,h2]; simp,by simp [h3]⟩,h4⟩
theorem D9 {q : List Nd} {row : List Int} (hq : zh q) (hr : ∀ v ∈ row,InP q v) : zh (y2 q row).1 /\ (∃ t,(y2 q row).1 = q ++ t /\ t.length = row.length + 1) /\ InP (y2 q row).1 ((y2 q row).2 : Int) := by
 obtain ⟨h1,⟨t,h2,h3⟩,h4⟩ := MC row.reverse (q ++ [ndN]) q.length (zr hq (UK _)) (by simp) (fun v hv => y7 _ (hr v (by simpa using hv)))
 refine ⟨h1,⟨ndN :: t,by unfold y2; rw [h2]; simp,by simp [h3]⟩,⟨by omega,?_⟩⟩
 have : (y2 q row).2 < (y2 q row).1.length := h4
 omega
structure GM (m : Mc) : Prop where
 ok : zh m.pool
 s : InP m.pool m.s
 e : InP m.pool m.e
 d : InP m.pool m.d
theorem Jk {m : Mc} (h : GM m) {v : Int} (hv : InP m.pool v) : GM (Pf m v) :=
 ⟨zr h.ok (Ky hv h.s),Ai _ _,y7 _ h.e,y7 _ h.d⟩
theorem Ge {m m' : Mc} (h : GM m) {v : Int} (ht : GK m = some (v,m')) : GM m' /\ InP m'.pool v /\ m'.pool = m.pool /\ m'.at' = m.at' /\ m'.state = m.state /\ m'.ask = m.ask /\ m'.arg = m.arg /\ m'.d = m.d := by
 obtain ⟨h1,h2,h3,h4,h5,h6,h7,h8,h9⟩ := W8 h.ok h.s ht
 exact ⟨⟨by rw [h2]; exact h.ok,by rw [h2]; exact h3,by rw [h2,h4]; exact h.e,by rw [h2,h5]; exact h.d⟩,by rw [h2]; exact h1,h2,h6,h7,h8,h9,h5⟩
theorem KC : ∀ {k : Nat} {m m' : Mc} {l : List Int},GM m -> GW k m = some (l,m') -> GM m' /\ (∀ v ∈ l,InP m'.pool v) /\ l.length = k /\ m'.pool = m.pool /\ m'.at' = m.at' /\ m'.state = m.state /\ m'.ask = m.ask /\ m'.arg = m.arg /\ m'.d = m.d
 | 0,m,m',l,h,ht => by
  simp only [GW,Option.some.injEq,Prod.mk.injEq] at ht
  obtain ⟨rfl,rfl⟩ := ht
  exact ⟨h,by simp,rfl,rfl,rfl,rfl,rfl,rfl,rfl⟩
 | k + 1,m,m',l,h,ht => by
  simp only [GW] at ht
  split at ht
  ·cases ht
  ·rename_i v m1 h1
   split at ht
   ·cases ht
   ·rename_i l2 m2 h2
    cases ht
    obtain ⟨g1,g2,g3,g4,g5,g6,g7,g8⟩ := Ge h h1
    obtain ⟨f1,f2,f3,f4,f5,f6,f7,f8,f9⟩ := KC g1 h2
    refine ⟨f1,fun u hu => ?_,by simp [f3],f4.trans g3,f5.trans g4,f6.trans g5,f7.trans g6,f8.trans g7,f9.trans g8⟩
    rcases List.mem_cons.1 hu with rfl | hu
    ·rw [f4]; exact g2
    ·exact f2 u hu
theorem Kq {p : List Nd} (hp : zh p) {v : Int} (hv : InP p v) : ∀ x ∈ (Ac p v).1,InP p x := YN hp _ v hv
theorem R9 {c : Cd} {p : List Nd} (hp : zh p) {v : Int} (hv : InP p v) {many : Nat} {n : Int} {r : List Int} (h : LD c p v many = some (n,r)) : CE c n = true /\ (∀ x ∈ r,InP p x) /\ r.length + 1 = many := by
 unfold LD at h
 split at h
 ·rename_i a r' he
  split at h
  ·rename_i hc
   cases h
   have := Kq hp hv
   rw [he] at this
   exact ⟨hc.2.2,fun x hx => this x (by simp [hx]),hc.1⟩
  ·cases h
 ·cases h
structure GoesM (c : Cd) (m m' : Mc) (k : Nat) : Prop where
 gm : GM m'
 ext : ∃ t,m'.pool = m.pool ++ t /\ t.length <= k
 st : JA c m' = true
theorem JV {c : Cd} {m : Mc} (h0 : m.state = 0) (h1 : m.ask = 0) (h2 : m.arg = 0) (h3 : CE c m.at' = true) : JA c m = true := by
 unfold JA
 rw [if_pos h0,h1,h2]
 unfold CE at h3
 rw [h3]; rfl
structure RunM (c : Cd) (m : Mc) : Prop where
 gm : GM m
 st : m.state = 0
 ask : m.ask = 0
 arg : m.arg = 0
 pl : CE c m.at' = true
theorem isPl_iff {c : Cd} {n : Int} : CE c n = true ↔ 0 <= n /\ n <= (c.list.length : Int) - 1 := wi_iff
theorem VC {c : Cd} (hc : c.list.length <= 400) {m m' : Mc} (h : RunM c m) {f : Nd} (hf : InP m.pool f.a) {l : List Int} (hl : ∀ v ∈ l,InP m.pool v) (he : NF c m f l = .ok m') : GoesM c m m' (l.length + 9) := by
 unfold NF at he
 split at he
 ·cases he
 split at he
 ·cases he
 rename_i h1 h2
 have hpl := isPl_iff.1 h.pl
 simp only [Except.ok.injEq] at he
 have o1 : zh (m.pool ++ [ndI (m.at' + 1)]) := zr h.gm.ok (UJ (by omega))
 obtain ⟨b1,⟨t,b2,b3⟩,b4⟩ := D9 (row := [(m.pool.length : Int),m.s,m.e]) o1 (fun v hv => by
  simp only [List.mem_cons,List.not_mem_nil,or_false] at hv
  rcases hv with rfl | rfl | rfl
  ·exact Ai _ _
  ·exact y7 _ h.gm.s
  ·exact y7 _ h.gm.e)
 have e1 : (y2 (m.pool ++ [ndI (m.at' + 1)]) [(m.pool.length : Int),m.s,m.e]).1 = m.pool ++ (ndI (m.at' + 1) :: t) := by rw [b2]; simp
 have up : ∀ {v : Int},InP m.pool v -> InP (y2 (m.pool ++ [ndI (m.at' + 1)]) [(m.pool.length : Int),m.s,m.e]).1 v := fun hv => by rw [e1]; exact y7 _ hv
 have o2 := zr b1 (Ky b4 (up h.gm.d))
 obtain ⟨v1,⟨t2,v2,v3⟩,v4⟩ := D9 (row := l) o2 (fun v hv => y7 _ (up (hl v hv)))
 have up2 : ∀ {v : Int},InP ((y2 (m.pool ++ [ndI (m.at' + 1)]) [(m.pool.length : Int),m.s,m.e]).1 ++ [ndP ((y2 (m.pool ++ [ndI (m.at' + 1)]) [(m.pool.length : Int),m.s,m.e]).2 : Int) m.d]) v -> InP (y2 ((y2 (m.pool ++ [ndI (m.at' + 1)]) [(m.pool.length : Int),m.s,m.e]).1 ++ [ndP ((y2 (m.pool ++ [ndI (m.at' + 1)]) [(m.pool.length : Int),m.s,m.e]).2 : Int) m.d]) l).1 v := fun hv => by rw [v2]; exact y7 _ hv
 have o3 := zr v1 (Ky v4 (up2 (y7 _ (up hf))))
 have o4 := zr o3 (UK _)
 subst he
 refine ⟨⟨o4,?_,?_,?_⟩,⟨ndI (m.at' + 1) :: t ++ [ndP ((y2 (m.pool ++ [ndI (m.at' + 1)]) [(m.pool.length : Int),m.s,m.e]).2 : Int) m.d] ++ t2 ++ [ndP ((y2 ((y2 (m.pool ++ [ndI (m.at' + 1)]) [(m.pool.length : Int),m.s,m.e]).1 ++ [ndP ((y2 (m.pool ++ [ndI (m.at' + 1)]) [(m.pool.length : Int),m.s,m.e]).2 : Int) m.d]) l).2 : Int) f.a] ++ [ndN],?_,?_⟩,?_⟩
 ·have := Ai ((y2 ((y2 (m.pool ++ [ndI (m.at' + 1)]) [(m.pool.length : Int),m.s,m.e]).1 ++ [ndP ((y2 (m.pool ++ [ndI (m.at' + 1)]) [(m.pool.length : Int),m.s,m.e]).2 : Int) m.d]) l).1 ++ [ndP ((y2 ((y2 (m.pool ++ [ndI (m.at' + 1)]) [(m.pool.length : Int),m.s,m.e]).1 ++ [ndP ((y2 (m.pool ++ [ndI (m.at' + 1)]) [(m.pool.length : Int),m.s,m.e]).2 : Int) m.d]) l).2 : Int) f.a]) ndN
  simpa using this
 ·exact y7 _ (Ai _ _)
 ·exact y7 _ (y7 _ (up2 (Ai _ _)))
 ·show _ ++ _ ++ _ = _
  rw [v2,b2]
  simp
 ·simp only [lnA,lnC,lnN,b3,v3]; omega
 ·exact JV h.st h.ask h.arg (by simpa using h2)
theorem ZP {c : Cd} {m m' : Mc} (h : RunM c m) {st : Int} (hs : InP m.pool st) {l : List Int} (hl : ∀ v ∈ l,InP m.pool v) (he : ZO c m st l = .ok m') : GoesM c m m' 1 := by
 unfold ZO at he
 split at he
 ·cases he
 rename_i h1
 split at he
 ·rename_i n s e d hf
  obtain ⟨f1,f2,f3⟩ := R9 h.gm.ok hs hf
  cases he
  have hv : InP m.pool (l.getD 0 0) := by
   match l,h1 with
   | [v],_ => exact hl v (by simp)
   | [],h => simp at h
   | _ :: _ :: _,h => simp at h
  have g : GM ⟨m.pool,n,s,e,d,m.state,m.ask,m.arg⟩ := ⟨h.gm.ok,f2 s (by simp),f2 e (by simp),f2 d (by simp)⟩
  exact ⟨Jk g hv,⟨[_],rfl,Nat.le_refl _⟩,JV h.st h.ask h.arg f1⟩
 ·cases he
theorem WU {p q : List Nd} (hp : zh p) {n v : Int} {l : List Int} (hv : ∀ v ∈ l,InP p v) (h12 : 1 <= n /\ n <= 12) (hlen : (l.length : Int) = zF n) (h : MZ p n l = .ok (q,v)) : zh q /\ InP q v /\ ∃ t,q = p ++ t /\ t.length <= 1 := by
 rw [M8 h12 hlen] at h
 split at h
 ·rename_i hc
  have one : n = 7 \/ n = 8 -> ∃ a,l = [a] /\ (nod p a).kind = 5 := by
   intro h78
   obtain ⟨a,rfl⟩ := PB hlen (by omega)
   have := List.all_eq_true.1 hc a (by simp)
   refine ⟨a,rfl,?_⟩
   have h5 : ¬ n <= 5 := by omega
   simpa [QX,h5,h78] using this
  split at h
  ·rename_i h7
   cases h
   obtain ⟨a,rfl,hk⟩ := one (.inl h7)
   exact ⟨hp,MH hp (hv a (by simp)) (.inl hk),[],by simp,by simp⟩
  ·split at h
   ·rename_i h7 h8
    cases h
    obtain ⟨a,rfl,hk⟩ := one (.inr h8)
    exact ⟨hp,Ot hp (hv a (by simp)) hk,[],by simp,by simp⟩
   ·rename_i h7 h8
    split at h
    ·rename_i hw
     cases h
     exact ⟨zr hp (Ya hp hv hlen h12 ⟨h7,h8⟩ hw),Ai _ _,_,rfl,Nat.le_refl _⟩
    ·cases h
 ·cases h
theorem DB {n : Int} {k : Nat} (h : zF n = (k : Int)) : 1 <= n /\ n <= 19 /\ k <= 2 := by
 unfold zF at h
 split at h
 ·rename_i hw
  have := wi_iff.1 hw
  refine ⟨this.1,this.2,?_⟩
  have hm : prArgs.getD (n - 1).toNat 0 <= 2 := by
   rcases Nat.lt_or_ge (n - 1).toNat prArgs.length with h | h
   ·have := List.getElem_mem (l := prArgs) h
    rw [List.getD_eq_getElem?_getD,List.getElem?_eq_getElem h,Option.getD_some]
    have all : ∀ x ∈ prArgs,x <= 2 := by decide
    exact all _ this
   ·rw [List.getD_eq_getElem?_getD,List.getElem?_eq_none h]; decide
  omega
 ·omega
theorem PC {c : Cd} (hc : c.list.length <= 400) : ∀ (k : Nat) {m m' : Mc} {f : Int} {l : List Int},RunM c m -> CE c (m.at' + 1) = true -> InP m.pool f -> (∀ v ∈ l,InP m.pool v) -> l.length <= 4 -> Iu c k m f l = .ok m' -> ∃ t,GoesM c m m' t /\ t <= 13 + 7 * k
 | 0,m,m',f,l,h,hnx,hf,hl,h4,he => by cases he
 | k + 1,m,m',f,l,h,hnx,hf,hl,h4,he => by
  unfold Iu at he
  simp only at he
  split at he
  ·rename_i h6
   exact ⟨_,VC hc h (MH h.gm.ok hf (.inr (.inl h6))) hl he,by omega⟩
  split at he
  ·rename_i h6 h8
   split at he
   ·cases he
   rename_i hargs
   have hargs : zF (nod m.pool f).n = (l.length : Int) := by omega
   obtain ⟨n1,n19,l2⟩ := DB hargs
   split at he
   ·rename_i h18
    have hpl := isPl_iff.1 h.pl
    have o1 : zh (m.pool ++ [ndI (m.at' + 1)]) := zr h.gm.ok (UJ (by omega))
    obtain ⟨b1,⟨t,b2,b3⟩,b4⟩ := D9 (row := [(m.pool.length : Int),m.s,m.e,m.d]) o1 (fun v hv => by
     simp only [List.mem_cons,List.not_mem_nil,or_false] at hv
     rcases hv with rfl | rfl | rfl | rfl
     ·exact Ai _ _
     ·exact y7 _ h.gm.s
     ·exact y7 _ h.gm.e
     ·exact y7 _ h.gm.d)
    have e1 : (y2 (m.pool ++ [ndI (m.at' + 1)]) [(m.pool.length : Int),m.s,m.e,m.d]).1 = m.pool ++ (ndI (m.at' + 1) :: t) := by rw [b2]; simp
    have up : ∀ {v : Int},InP m.pool v -> InP ((y2 (m.pool ++ [ndI (m.at' + 1)]) [(m.pool.length : Int),m.s,m.e,m.d]).1 ++ [ndK ((y2 (m.pool ++ [ndI (m.at' + 1)]) [(m.pool.length : Int),m.s,m.e,m.d]).2 : Int)]) v := fun hv => y7 _ (by rw [e1]; exact y7 _ hv)
    have hl0 : InP m.pool (l.getD 0 0) := by
     match l,hargs with
     | v :: _,_ => exact hl v (by simp)
     | [],h => rw [h18] at h; cases h
    have g2 : RunM c ⟨(y2 (m.pool ++ [ndI (m.at' + 1)]) [(m.pool.length : Int),m.s,m.e,m.d]).1 ++ [ndK ((y2 (m.pool ++ [ndI (m.at' + 1)]) [(m.pool.length : Int),m.s,m.e,m.d]).2 : Int)],m.at',m.s,m.e,m.d,m.state,m.ask,m.arg⟩ :=
     ⟨⟨zr b1 (Y0 b4),up h.gm.s,up h.gm.e,up h.gm.d⟩,h.st,h.ask,h.arg,h.pl⟩
    obtain ⟨q,⟨g3,⟨t3,g4,g5⟩,g6⟩,g7⟩ := PC hc k g2 hnx (up hl0) (fun v hv => by
     simp only [List.mem_singleton] at hv; subst hv; exact Ai _ _) (by simp) he
    refine ⟨q + 7,⟨g3,⟨ndI (m.at' + 1) :: t ++ [ndK ((y2 (m.pool ++ [ndI (m.at' + 1)]) [(m.pool.length : Int),m.s,m.e,m.d]).2 : Int)] ++ t3,?_,?_⟩,g6⟩,by omega⟩
    ·rw [g4]
     show _ ++ _ ++ _ = _
     rw [b2]
     simp
    ·simp only [lnA,lnC,lnN,b3]; omega
   split at he
   ·rename_i h18 h12
    simp only [Except.ok.injEq] at he
    obtain ⟨b1,⟨t,b2,b3⟩,b4⟩ := D9 (row := l) h.gm.ok hl
    subst he
    have up : ∀ {v : Int},InP m.pool v -> InP (y2 m.pool l).1 v := fun hv => by rw [b2]; exact y7 _ hv
    refine ⟨l.length + 1,⟨⟨b1,up h.gm.s,up h.gm.e,up h.gm.d⟩,⟨t,b2,by omega⟩,?_⟩,by omega⟩
    unfold JA
    have hpl : wi m.at' 0 ((c.list.length : Int) - 1) = true := h.pl
    have hn : wi (nod m.pool f).n 13 19 = true := wi_iff.2 ⟨by omega,n19⟩
    have hr : IZ (y2 m.pool l).1 ((y2 m.pool l).2 : Int) = true := wi_iff.2 ⟨b4.1,by have := b4.2; omega⟩
    simp only
    rw [if_neg (by omega),if_pos trivial,hpl,hn,hr,yH h18]
    rfl
   split at he
   ·cases he
   ·rename_i h18 h12 p v hp
    cases he
    obtain ⟨q1,q2,t,q3,q4⟩ := WU h.gm.ok hl (by omega) hargs.symm hp
    have up : ∀ {v : Int},InP m.pool v -> InP p v := fun hv => by rw [q3]; exact y7 _ hv
    refine ⟨2,⟨⟨zr q1 (Ky q2 (up h.gm.s)),Ai _ _,y7 _ (up h.gm.e),y7 _ (up h.gm.d)⟩,⟨t ++ [ndP v m.s],by show p ++ _ = _; rw [q3]; simp,by simp; omega⟩,?_⟩,by omega⟩
    exact JV h.st h.ask h.arg hnx
  split at he
  ·rename_i h6 h8 h7
   exact ⟨1,ZP h (MH h.gm.ok hf (.inr (.inr h7))) hl he,by omega⟩
  ·cases he
theorem QW {c : Cd} (hc : c.list.length <= 400) {m m' : Mc} (h : RunM c m) {k : Nat} (hk : k <= 4) (he : D7 c m k = .ok m') : ∃ t,GoesM c m m' t /\ t <= 34 := by
 unfold D7 at he
 split at he
 ·cases he
 rename_i hnx
 split at he
 ·cases he
 ·rename_i l m1 ht
  obtain ⟨f1,f2,f3,f4,f5,f6,f7,f8,f9⟩ := KC h.gm ht
  have g : RunM c m1 := ⟨f1,f6.trans h.st,f7.trans h.ask,f8.trans h.arg,by rw [f5]; exact h.pl⟩
  have hrev : ∀ v ∈ l.reverse,InP m1.pool v := fun v hv => f2 v (by simpa using hv)
  obtain ⟨a,r,hr⟩ : ∃ a r,l.reverse = a :: r := by
   cases hq : l.reverse with
   | nil => rw [<- List.length_reverse,hq] at f3; simp at f3
   | cons a r => exact ⟨a,r,rfl⟩
  rw [hr] at he hrev
  have hlen : r.length = k := by rw [<- List.length_reverse,hr] at f3; simpa using f3
  obtain ⟨t,⟨g1,⟨q,g2,g3⟩,g4⟩,g5⟩ := PC hc 3 g (by rw [f5]; simpa using hnx) (hrev a (by simp)) (fun v hv => hrev v (by simpa using .inr hv)) (by simpa using (by omega : r.length <= 4)) he
  exact ⟨t,⟨g1,⟨q,by rw [g2,f4],g3⟩,g4⟩,by omega⟩
theorem Xp {c : Cd} {m m' : Mc} (h : RunM c m) (he : Oh c m = .ok m') : GoesM c m m' 1 := by
 unfold Oh at he
 split at he
 ·cases he
 ·rename_i v m1 ht
  obtain ⟨f1,f2,f4,f5,f6,f7,f8,f9⟩ := Ge h.gm ht
  simp only at he
  split at he
  ·cases he
   refine ⟨⟨f1.ok,f1.s,f1.e,f1.d⟩,⟨[],by rw [List.append_nil]; exact f4,by simp⟩,?_⟩
   unfold JA
   have hv : IZ m1.pool v = true := wi_iff.2 ⟨f2.1,by have := f2.2; omega⟩
   show (if (2 : Int) = 0 then _ else if (2 : Int) = 1 then _ else if (2 : Int) = 2 then _ else _) = true
   rw [if_neg (by omega),if_neg (by omega),if_pos rfl,hv,f7,h.ask]
   rfl
  ·split at he
   ·cases he
   ·rename_i h1 h5
    have h5 : (nod m1.pool m1.d).kind = 5 := by simpa using h5
    split at he
    ·rename_i n s e hf
     obtain ⟨q1,q2,q3⟩ := R9 f1.ok (MH f1.ok f1.d (.inl h5)) hf
     cases he
     have g : GM ⟨m1.pool,n,s,e,(nod m1.pool m1.d).b,m1.state,m1.ask,m1.arg⟩ := ⟨f1.ok,q2 s (by simp),q2 e (by simp),Ot f1.ok f1.d h5⟩
     exact ⟨Jk g f2,⟨[_],by rw [<- f4]; rfl,Nat.le_refl _⟩,JV (f6.trans h.st) (f7.trans h.ask) (f8.trans h.arg) q1⟩
    ·cases he
theorem GD {q p : List Nd} (hq : yV q = true) (hp : zh p) {v : Int} (hv : InP q v) (d : Int) : zh (AH d q v p).1 /\ InP (AH d q v p).1 (AH d q v p).2 /\ ∃ t,(AH d q v p).1 = p ++ t /\ t.length <= q.length := by
 obtain ⟨h1,h2⟩ := Qm hq hp [v] d
 have hr : y5 q [v] = true := by
  simp only [y5,List.all_cons,List.all_nil,Bool.and_true]
  exact wi_iff.2 ⟨hv.1,by omega⟩
 have hon := Eu hr v (by simp)
 obtain ⟨x,hx⟩ := xx (l := q) (i := v.toNat) (by omega)
 obtain ⟨j,hj,hj2⟩ := h2 v.toNat x hx hon
 refine ⟨h1,?_,?_⟩
 ·unfold AH
  simp only
  rw [List.getD_eq_getElem?_getD,hj,Option.getD_some]
  have := aQ hj2
  exact ⟨by omega,by omega⟩
 ·obtain ⟨r,hr⟩ := Qo d q (Bh q [v]) q.length [] p
  have hl := MG d q (Bh q [v]) q.length [] p
  refine ⟨r,hr,?_⟩
  rw [hr] at hl
  simp only [lnA] at hl
  omega
theorem Od {c : Cd} (hc : zI c = true) {k : Nat} {x : In} (hx : c.list[k]? = some x) : Jf c x k = true := by
 unfold zI at hc
 simp only [Bool.and_eq_true] at hc
 have key : ∀ (n i : Nat),Ej c i n = true -> ∀ j,i <= j -> j < i + n -> ∀ x,c.list[j]? = some x -> Jf c x j = true := by
  intro n
  induction n with
  | zero => intro i _ j h1 h2; omega
  | succ n ih =>
   intro i h j h1 h2 x hx
   simp only [Ej,Bool.and_eq_true] at h
   rcases Nat.lt_or_ge i j with hij | hij
   ·exact ih (i + 1) h.2 j hij (by omega) x hx
   ·have : j = i := by omega
    subst this
    have h3 := h.1
    rw [hx] at h3
    exact h3
 exact key c.list.length 0 hc.2.2.2.1 k (Nat.zero_le _) (by have := aQ hx; omega) x hx
theorem Sq {c : Cd} (hc : zI c = true) {k : Nat} {x : Df} (hx : c.defs[k]? = some x) : XZ c x k = true := by
 unfold zI at hc
 simp only [Bool.and_eq_true] at hc
 have key : ∀ (n i : Nat),CI c i n = true -> ∀ j,i <= j -> j < i + n -> ∀ x,c.defs[j]? = some x -> XZ c x j = true := by
  intro n
  induction n with
  | zero => intro i _ j h1 h2; omega
  | succ n ih =>
   intro i h j h1 h2 x hx
   simp only [CI,Bool.and_eq_true] at h
   rcases Nat.lt_or_ge i j with hij | hij
   ·exact ih (i + 1) h.2 j hij (by omega) x hx
   ·have : j = i := by omega
    subst this
    have h3 := h.1
    rw [hx] at h3
    exact h3
 exact key c.defs.length 0 hc.2.2.2.2 k (Nat.zero_le _) (by have := aQ hx; omega) x hx
theorem zY {c : Cd} (hc : zI c = true) : yV c.pool = true /\ c.list.length <= 400 /\ c.defs.length <= 20 := by
 unfold zI at hc
 simp only [Bool.and_eq_true,decide_eq_true_eq] at hc
 exact ⟨hc.1,hc.2.1,hc.2.2.1⟩
theorem IC {c : Cd} {m : Mc} {r : Except Int Mc} {next : Int} {m' : Mc} {k : Nat} (hr : ∀ m1,r = .ok m1 -> GM m1 /\ (∃ t,m1.pool = m.pool ++ t /\ t.length <= k) /\ m1.state = 0 /\ m1.ask = 0 /\ m1.arg = 0) (he : goM c r next = .ok m') : GoesM c m m' k := by
 unfold goM at he
 split at he
 ·cases he
 ·rename_i m1
  obtain ⟨h1,h2,h3,h4,h5⟩ := hr m1 rfl
  split at he
  ·rename_i hp
   cases he
   exact ⟨⟨h1.ok,h1.s,h1.e,h1.d⟩,h2,JV h3 h4 h5 hp⟩
  ·cases he
theorem abE {m m1 : Mc} (h : GM m) {o i : Int} (he : aa9 m o i = .ok m1) : GM m1 /\ (∃ t,m1.pool = m.pool ++ t /\ t.length <= 1) /\ m1.state = m.state /\ m1.ask = m.ask /\ m1.arg = m.arg := by
 unfold aa9 at he
 split at he
 ·cases he
 ·rename_i fr hfr
  split at he
  ·cases he
  ·rename_i v hv
   cases he
   exact ⟨Jk h (Pu h.ok _ _ _ (Pu h.ok _ _ _ h.e hfr) hv),⟨[_],rfl,Nat.le_refl _⟩,rfl,rfl,rfl⟩
theorem RX {c : Cd} {s : ByteArray} (h : 0 <= Dw c s) : ∃ d,c.defs[(Dw c s).toNat]? = some d := by
 have hb : Dw c s < (c.defs.length : Int) := by
  unfold Dw ya at h ⊢
  cases hq : c.defs.findIdx? (fun d : Df => kc d.name s) with
  | none => rw [hq] at h; simp at h
  | some k =>
   rw [List.findIdx?_eq_some_iff_getElem] at hq
   obtain ⟨hk,_⟩ := hq
   simp only; omega
 exact xx (by omega)
theorem aaw {c : Cd} (hc : zI c = true) {m m1 : Mc} (h : GM m) {s : ByteArray} (he : Oj c m s = .ok m1) : GM m1 /\ (∃ t,m1.pool = m.pool ++ t /\ t.length <= 3) /\ m1.state = m.state /\ m1.ask = m.ask /\ m1.arg = m.arg := by
 obtain ⟨_,c2,_⟩ := zY hc
 unfold Oj at he
 split at he
 ·rename_i hd
  obtain ⟨d,hdg⟩ := RX hd
  have hok := Sq hc hdg
  unfold XZ at hok
  simp only [Bool.and_eq_true] at hok
  have a1 := wi_iff.1 hok.2.2.1
  have a2 := wi_iff.1 hok.2.2.2
  simp only [List.getD_eq_getElem?_getD,hdg,Option.getD_some,Except.ok.injEq] at he
  subst he
  have o1 := zr h.ok (UK (m.pool.length : Int))
  have o2 := zr o1 (YZ (k := 8 * d.at' + d.args) (a := (m.pool.length : Int)) (n := (m.pool ++ [ndN]).length) (by omega) ⟨by omega,by simp only [lnA,lnC,lnN]; omega⟩)
  have g : GM ⟨m.pool ++ [ndN] ++ [ndF (8 * d.at' + d.args) m.pool.length],m.at',m.s,m.e,m.d,m.state,m.ask,m.arg⟩ := ⟨o2,y7 _ (y7 _ h.s),y7 _ (y7 _ h.e),y7 _ (y7 _ h.d)⟩
  refine ⟨Jk g ⟨by omega,by simp only [lnA,lnC,lnN]; omega⟩,⟨_,by show _ ++ _ ++ _ ++ _ = _; rw [List.append_assoc,List.append_assoc],by simp⟩,rfl,rfl,rfl⟩
 ·split at he
  ·cases he
  ·simp only [Except.ok.injEq] at he
   subst he
   have hb := QC s
   have o1 := zr h.ok (abw (k := FX s) (h := (m.pool.length : Int)) (by omega))
   have g : GM ⟨m.pool ++ [ndR (FX s)],m.at',m.s,m.e,m.d,m.state,m.ask,m.arg⟩ := ⟨o1,y7 _ h.s,y7 _ h.e,y7 _ h.d⟩
   exact ⟨Jk g (Ai _ _),⟨_,by show _ ++ _ ++ _ = _; rw [List.append_assoc],by simp⟩,rfl,rfl,rfl⟩
theorem WL {c : Cd} {x : In} {k : Int} (h : Jf c x k = true) (h1 : x.op = 1) : InP c.pool x.n := by
 unfold Jf at h
 rw [if_pos h1] at h
 simp only [Bool.and_eq_true] at h
 have := wi_iff.1 h.1
 exact ⟨this.1,by omega⟩
theorem aaH {c : Cd} {x : In} {k : Int} (h : Jf c x k = true) (h1 : x.op = 2) : (0 <= x.n /\ x.n <= 20) /\ 0 <= x.i /\ x.i <= 3 := by
 unfold Jf at h
 rw [if_neg (by omega),if_pos h1] at h
 simp only [Bool.and_eq_true] at h
 exact ⟨wi_iff.1 h.1,wi_iff.1 h.2.1⟩
theorem WK {c : Cd} {x : In} {k : Int} (h : Jf c x k = true) (h1 : x.op = 6) : (k + 1 <= x.n /\ x.n <= (c.list.length : Int) - 1) /\ 0 <= x.i /\ x.i <= 4 := by
 unfold Jf at h
 rw [if_neg (by omega),if_neg (by omega),if_neg (by omega),if_neg (by omega),if_pos h1] at h
 simp only [Bool.and_eq_true] at h
 exact ⟨wi_iff.1 h.1,wi_iff.1 h.2.1⟩
theorem Su {c : Cd} {x : In} {k : Int} (h : Jf c x k = true) (h1 : x.op = 7) : 0 <= x.i /\ x.i <= 4 := by
 unfold Jf at h
 rw [if_neg (by omega),if_neg (by omega),if_neg (by omega),if_neg (by omega),if_neg (by omega),if_pos h1] at h
 simp only [Bool.and_eq_true] at h
 exact wi_iff.1 h.2.1
theorem WS {c : Cd} (hc : zI c = true) {m m' : Mc} (h : RunM c m) {x : In} {k : Nat} (hx : c.list[k]? = some x) (he : LG c m x = .ok m') : GoesM c m m' (c.pool.length + 3) := by
 have hok := Od hc hx
 have hk := aQ hx
 obtain ⟨c1,c2,_⟩ := zY hc
 unfold LG at he
 split at he
 ·rename_i h1
  have hlit := WL hok h1
  obtain ⟨f1,f2,t,f3,f4⟩ := GD c1 h.gm.ok hlit (-1)
  refine IC (fun m1 e => ?_) he
  cases e
  have up : ∀ {v : Int},InP m.pool v -> InP (AH (-1) c.pool x.n m.pool).1 v := fun hv => by rw [f3]; exact y7 _ hv
  have g : GM ⟨(AH (-1) c.pool x.n m.pool).1,m.at',m.s,m.e,m.d,m.state,m.ask,m.arg⟩ := ⟨f1,up h.gm.s,up h.gm.e,up h.gm.d⟩
  refine ⟨Jk g f2,⟨t ++ [_],by show (AH (-1) c.pool x.n m.pool).1 ++ _ = _; rw [f3,List.append_assoc],by simp; omega⟩,h.st,h.ask,h.arg⟩
 split at he
 ·refine IC (fun m1 e => ?_) he
  obtain ⟨g1,⟨t,g2,g3⟩,g4,g5,g6⟩ := abE h.gm e
  exact ⟨g1,⟨t,g2,by omega⟩,g4.trans h.st,g5.trans h.ask,g6.trans h.arg⟩
 split at he
 ·refine IC (fun m1 e => ?_) he
  obtain ⟨g1,⟨t,g2,g3⟩,g4,g5,g6⟩ := aaw hc h.gm e
  exact ⟨g1,⟨t,g2,by omega⟩,g4.trans h.st,g5.trans h.ask,g6.trans h.arg⟩
 split at he
 ·refine IC (fun m1 e => ?_) he
  cases e
  exact ⟨h.gm,⟨[],by simp,by simp⟩,h.st,h.ask,h.arg⟩
 split at he
 ·rename_i h6
  have hf := WK hok h6
  refine IC (fun m1 e => ?_) he
  cases e
  have o1 := zr h.gm.ok (YZ (k := 8 * x.n + x.i) (n := m.pool.length) (by omega) h.gm.e)
  have g : GM ⟨m.pool ++ [ndF (8 * x.n + x.i) m.e],m.at',m.s,m.e,m.d,m.state,m.ask,m.arg⟩ := ⟨o1,y7 _ h.gm.s,y7 _ h.gm.e,y7 _ h.gm.d⟩
  exact ⟨Jk g (Ai _ _),⟨_,by show _ ++ _ ++ _ = _; rw [List.append_assoc],by simp⟩,h.st,h.ask,h.arg⟩
 ·split at he
  ·cases he
  ·rename_i v m1 ht
   obtain ⟨f1,f2,f4,f5,f6,f7,f8,f9⟩ := Ge h.gm ht
   refine IC (fun m2 e => ?_) he
   cases e
   exact ⟨f1,⟨[],by simp [f4],by simp⟩,f6.trans h.st,f7.trans h.ask,f8.trans h.arg⟩
theorem WQ {c : Cd} {m : Mc} (h : CU c m = true) (h0 : m.state = 0) : RunM c m /\ zI c = true /\ m.pool.length <= 3000 := by
 unfold CU at h
 simp only [Bool.and_eq_true] at h
 obtain ⟨h1,h2,h3,h4,h5,h6⟩ := h
 obtain ⟨p1,p2⟩ := okPool_iff.1 h2
 have a3 := wi_iff.1 h3
 have a4 := wi_iff.1 h4
 have a5 := wi_iff.1 h5
 unfold JA at h6
 rw [if_pos h0] at h6
 simp only [Bool.and_eq_true,beq_iff_eq] at h6
 exact ⟨⟨⟨p1,⟨a3.1,by omega⟩,⟨a4.1,by omega⟩,⟨a5.1,by omega⟩⟩,h0,h6.2.1,h6.2.2,h6.1⟩,h1,p2⟩
theorem Y6 {c : Cd} {m : Mc} (h : RunM c m) : ∃ x,c.list[m.at'.toNat]? = some x := by
 have := isPl_iff.1 h.pl
 exact xx (by omega)
theorem Vw {c : Cd} (hc : zI c = true) {m m' : Mc} (h : RunM c m) (he : doM c m = .ok m') : GoesM c m m' (c.pool.length + 34) := by
 obtain ⟨x,hx⟩ := Y6 h
 have hok := Od hc hx
 obtain ⟨c1,c2,_⟩ := zY hc
 unfold doM at he
 simp only [List.getD_eq_getElem?_getD,hx,Option.getD_some] at he
 split at he
 ·rename_i h7
  have := Su hok h7
  obtain ⟨t,⟨g1,⟨q,g2,g3⟩,g4⟩,g5⟩ := QW c2 h (k := x.i.toNat) (by omega) he
  exact ⟨g1,⟨q,g2,by omega⟩,g4⟩
 split at he
 ·obtain ⟨g1,⟨q,g2,g3⟩,g4⟩ := Xp h he
  exact ⟨g1,⟨q,g2,by omega⟩,g4⟩
 ·obtain ⟨g1,⟨q,g2,g3⟩,g4⟩ := WS hc h hx he
  exact ⟨g1,⟨q,g2,by omega⟩,g4⟩
theorem YW {c : Cd} {m : Mc} (hc : zI c = true) (hp : zh m.pool) (hl : m.pool.length <= 3000) (hs : InP m.pool m.s) (he : InP m.pool m.e) (hd : InP m.pool m.d) (ht : JA c m = true) : CU c m = true := by
 unfold CU
 have h1 : yV m.pool = true := okPool_iff.2 ⟨hp,hl⟩
 have h2 : IZ m.pool m.s = true := wi_iff.2 ⟨hs.1,by omega⟩
 have h3 : IZ m.pool m.e = true := wi_iff.2 ⟨he.1,by omega⟩
 have h4 : IZ m.pool m.d = true := wi_iff.2 ⟨hd.1,by omega⟩
 rw [hc,h1,h2,h3,h4,ht]
 rfl
theorem Jg {c : Cd} {m : Mc} (h : CU c m = true) : zI c = true /\ zh m.pool /\ m.pool.length <= 3000 /\ InP m.pool m.s /\ InP m.pool m.e /\ InP m.pool m.d /\ JA c m = true := by
 unfold CU at h
 simp only [Bool.and_eq_true] at h
 obtain ⟨h1,h2,h3,h4,h5,h6⟩ := h
 obtain ⟨p1,p2⟩ := okPool_iff.1 h2
 have a3 := wi_iff.1 h3
 have a4 := wi_iff.1 h4
 have a5 := wi_iff.1 h5
 exact ⟨h1,p1,p2,⟨a3.1,by omega⟩,⟨a4.1,by omega⟩,⟨a5.1,by omega⟩,h6⟩
theorem VU {c : Cd} {m : Mc} (h : CU c m = true) {k : Int} (hk : 1 <= k /\ k <= 7) : CU c (PX m k) = true := by
 obtain ⟨h1,h2,h3,h4,h5,h6,_⟩ := Jg h
 refine YW h1 h2 h3 h4 h5 h6 ?_
 unfold JA PX
 simp only
 rw [if_neg (by omega),if_neg (by omega),if_neg (by omega),wi_iff.2 hk]
 rfl
end Go.Eng
/-! a step of a machine: the program's side: calls -/
namespace Go.Eng
open Go.Proofs Go.Proofs.Tryz
set_option maxHeartbeats 4000000

theorem Oq {α : Type} {f : α -> D} {l : List α} {k : Int} (h : (l.length : Int) = k) : ni (l.map f).length = k := by rw [lnM]; exact h
theorem Sg {α : Type} {f : α -> D} {l : List α} {k : Int} (h : ¬ (l.length : Int) = k) : ¬ ni (l.map f).length = k := by rw [lnM]; exact h
theorem aau {c : Cd} {p : List Nd} {v : Int} {many : Nat} {xs : List Int} {b : Bool} (h : Ac p v = (xs,b)) (hm : 0 < many) : LD c p v many = if b = true /\ xs.length = many /\ (nod p (xs.getD 0 0)).kind = 3 /\ CE c (nod p (xs.getD 0 0)).n = true then some ((nod p (xs.getD 0 0)).n,xs.drop 1) else none := by
 unfold LD
 rw [h]
 cases b with
 | false => rw [if_neg (fun h => by simp at h)]; cases xs <;> rfl
 | true =>
  cases xs with
  | nil => rw [if_neg (fun h => by have := h.2.1; simp at this; omega)]
  | cons a r =>
   simp only [lnC,List.getD_cons_zero,true_and,List.drop_one,List.tail_cons]
end Go.Eng
/-! a step of a machine: the program's side: whole -/
namespace Go.Eng
open Go.Proofs Go.Proofs.Tryz
set_option maxHeartbeats 4000000

theorem Qj : ∀ (r : List Int) (q : List Nd) (c : Nat),∃ t,(BQ r q c).1 = q ++ t
 | [],q,c => ⟨[],by simp [BQ]⟩
 | x :: r,q,c => by
  obtain ⟨t,h⟩ := Qj r (q ++ [ndP x c]) q.length
  exact ⟨ndP x c :: t,by rw [BQ,h]; simp⟩
theorem Zq (q : List Nd) (row : List Int) : ∃ t,(y2 q row).1 = q ++ t := by
 obtain ⟨t,h⟩ := Qj row.reverse (q ++ [ndN]) q.length
 exact ⟨ndN :: t,by unfold y2; rw [h]; simp⟩
theorem aaE (p : List Nd) (x : Nd) : nod (p ++ [x]) (p.length : Int) = x := by simp [nod]
theorem PD {c : Cd} : ∀ (k : Nat) {m : Mc} {f : Int} {l : List Int},(∀ v ∈ l,InP m.pool v) -> (3 <= k \/ (2 <= k /\ (nod m.pool (l.getD 0 0)).kind = 7) \/ (1 <= k /\ (nod m.pool f).kind = 7)) -> Iu c k m f l ≠ .error 0
 | 0,m,f,l,hv,hk => by omega
 | k + 1,m,f,l,hv,hk => by
  unfold Iu
  simp only
  split
  ·unfold NF
   split
   ·intro h; cases h
   ·split
    ·intro h; cases h
    ·intro h; cases h
  split
  ·rename_i h6 h8
   split
   ·intro h; cases h
   rename_i hargs
   split
   ·rename_i h18
    obtain ⟨v,r,rfl⟩ : ∃ v r,l = v :: r := by
     cases l with
     | nil => exact absurd (by rw [h18]; decide) hargs
     | cons v r => exact ⟨v,r,rfl⟩
    obtain ⟨t,ht⟩ := Zq (m.pool ++ [ndI (m.at' + 1)]) [(m.pool.length : Int),m.s,m.e,m.d]
    have e1 : (y2 (m.pool ++ [ndI (m.at' + 1)]) [(m.pool.length : Int),m.s,m.e,m.d]).1 = m.pool ++ (ndI (m.at' + 1) :: t) := by rw [ht]; simp
    have hv0 := hv v (by simp)
    have up : nod ((y2 (m.pool ++ [ndI (m.at' + 1)]) [(m.pool.length : Int),m.s,m.e,m.d]).1 ++ [ndK ((y2 (m.pool ++ [ndI (m.at' + 1)]) [(m.pool.length : Int),m.s,m.e,m.d]).2 : Int)]) v = nod m.pool v := by
     rw [e1,List.append_assoc,abu hv0]
    refine PD k (fun u hu => ?_) ?_
    ·simp only [List.mem_singleton] at hu; subst hu
     exact Ai _ _
    ·rcases hk with hk | ⟨hk,h7⟩ | ⟨hk,h7⟩
     ·refine .inr (.inl ⟨by omega,?_⟩)
      simp only [List.getD_cons_zero]
      rw [aaE]
     ·refine .inr (.inr ⟨by omega,?_⟩)
      simp only [List.getD_cons_zero] at h7 ⊢
      rw [up,h7]
     ·omega
   split
   ·intro h; cases h
   split
   ·rename_i q hq
    intro h
    have hz : q + 1 = 0 := by injection h
    obtain ⟨n1,n19,l2⟩ := DB (n := (nod m.pool f).n) (k := l.length) (by simpa using hargs)
    rw [M8 (by omega) (by simpa using (Eq.symm (by simpa using hargs : zF (nod m.pool f).n = (l.length : Int))))] at hq
    split at hq
    ·split at hq
     ·cases hq
     ·split at hq
      ·cases hq
      ·split at hq
       ·cases hq
       ·cases hq; omega
    ·cases hq; omega
   ·intro h; cases h
  split
  ·unfold ZO
   split
   ·intro h; cases h
   ·split <;> (intro h; cases h)
  ·intro h; cases h
theorem RM {c : Cd} : ∀ (k : Nat) {m : Mc} {f : Int} {l : List Int} {h : Int},Iu c k m f l = .error h -> h = 0 \/ (1 <= h /\ h <= 7)
 | 0,m,f,l,h,he => by cases he; exact .inl rfl
 | k + 1,m,f,l,h,he => by
  unfold Iu at he
  simp only at he
  split at he
  ·unfold NF at he
   split at he
   ·cases he; omega
   ·split at he
    ·cases he; omega
    ·cases he
  split at he
  ·split at he
   ·cases he; omega
   rename_i hargs
   split at he
   ·exact RM k he
   split at he
   ·cases he
   split at he
   ·rename_i q hq
    cases he
    obtain ⟨n1,n19,l2⟩ := DB (n := (nod m.pool f).n) (k := l.length) (by simpa using hargs)
    rw [M8 (by omega) (by simpa using (Eq.symm (by simpa using hargs : zF (nod m.pool f).n = (l.length : Int))))] at hq
    split at hq
    ·split at hq
     ·cases hq
     ·split at hq
      ·cases hq
      ·split at hq
       ·cases hq
       ·cases hq; omega
    ·cases hq; omega
   ·cases he
  split at he
  ·unfold ZO at he
   split at he
   ·cases he; omega
   ·split at he
    ·cases he
    ·cases he; omega
  ·cases he; omega
theorem abl {c : Cd} (_ : zI c = true) {m : Mc} (h : RunM c m) {q : Int} (he : doM c m = .error q) : 1 <= q /\ q <= 7 := by
 unfold doM at he
 simp only at he
 split at he
 ·unfold D7 at he
  split at he
  ·cases he; omega
  split at he
  ·cases he; omega
  ·rename_i l m1 ht
   obtain ⟨f1,f2,f3,f4,f5,f6,f7,f8,f9⟩ := KC h.gm ht
   rcases RM 3 he with rfl | h1
   ·exact absurd he (PD 3 (fun v hv => f2 v (by have := List.mem_of_mem_drop hv; simpa using this)) (.inl (Nat.le_refl _)))
   ·exact h1
 split at he
 ·unfold Oh at he
  split at he
  ·cases he; omega
  simp only at he
  split at he
  ·cases he
  split at he
  ·cases he; omega
  split at he
  ·cases he
  ·cases he; omega
 ·have go : ∀ {r : Except Int Mc} {n : Int},(∀ q',r = .error q' -> 1 <= q' /\ q' <= 7) -> goM c r n = .error q -> 1 <= q /\ q <= 7 := by
   intro r n hr hg
   unfold goM at hg
   split at hg
   ·cases hg; exact hr _ rfl
   ·split at hg
    ·cases hg
    ·cases hg; omega
  unfold LG at he
  split at he
  ·exact go (fun q' e => by cases e) he
  split at he
  ·refine go (fun q' e => ?_) he
   unfold aa9 at e
   split at e
   ·cases e; omega
   ·split at e
    ·cases e; omega
    ·cases e
  split at he
  ·refine go (fun q' e => ?_) he
   unfold Oj at e
   split at e
   ·cases e
   ·split at e
    ·cases e; omega
    ·cases e
  split at he
  ·exact go (fun q' e => by cases e) he
  split at he
  ·exact go (fun q' e => by cases e) he
  split at he
  ·cases he; omega
  ·exact go (fun q' e => by cases e) he
theorem aaP {c : Cd} {m : Mc} (h : CU c m = true) (h0 : m.state = 0) : CU c (W7 c m) = true := by
 obtain ⟨hr,hc,hl⟩ := WQ h h0
 unfold W7
 cases he : doM c m with
 | error q => exact VU h (abl hc hr he)
 | ok m' =>
  obtain ⟨g1,⟨t,g2,g3⟩,g4⟩ := Vw hc hr he
  simp only
  split
  ·exact YW hc g1.ok ‹_› g1.s g1.e g1.d g4
  ·exact VU h (by omega)

theorem ZI (a : Int) (r : List Int) : part ((a :: r).map eI) (some (Int.toNat 1,((a :: r).map eI).length - Int.toNat 1)) = r.map eI := by
 simp only [part,List.map_cons,lnC]
 show (r.map eI).take ((r.map eI).length + 1 - 1) = _
 exact List.take_of_length_le (by simp)
end Go.Eng
/-! a step of a machine: the reference's side: the stack,the frames,calls -/
namespace Go.Eng
noncomputable section
open Go.Proofs Go.Proofs.Tryz
set_option maxHeartbeats 4000000

abbrev eMo (m : Mc) : D := .op [.os (5,0) (m.pool.map eN),iN m.at',iN m.s,iN m.e,iN m.d,iN m.state,iN m.ask,iN m.arg]
def Nq (c : Cd) (X : Option Ret) (r : Except Int Mc) : Prop := match r with
 | .ok m => X = some (iN 0,[eMo m])
 | .error h => (h ≠ 0 /\ ∃ m',X = some (iN h,[eMo m'])) \/ (h = 7 /\ ∃ m',CE c m'.at' = false /\ X = some (iN 0,[eMo m']))
theorem UL {c : Cd} {X : Option Ret} {m : Mc} (h : Nq c X (.ok m)) : X = some (iN 0,[eMo m]) := h
theorem QA {c : Cd} {X : Option Ret} {h : Int} (e : Nq c X (.error h)) : (h ≠ 0 /\ ∃ m',X = some (iN h,[eMo m'])) \/ (h = 7 /\ ∃ m',CE c m'.at' = false /\ X = some (iN 0,[eMo m'])) := e
theorem JW {c : Cd} {X Y : Option Ret} {r : Except Int Mc} (h : Nq c X r) (hy : ∀ q m',X = some (iN q,[eMo m']) -> Y = some (iN q,[eMo m'])) : Nq c Y r := by
 cases r with
 | ok m => exact hy _ _ (UL h)
 | error q =>
  rcases QA h with ⟨q0,m',hx⟩ | ⟨q7,m',hp,hx⟩
  ·exact .inl ⟨q0,m',hy _ _ hx⟩
  ·exact .inr ⟨q7,m',hp,hy _ _ hx⟩
theorem zu {c : Cd} {X : Option Ret} {h : Int} (m : Mc) (h0 : h ≠ 0) (e : X = some (iN h,[eMo m])) : Nq c X (.error h) := .inl ⟨h0,m,e⟩

theorem Fm {m : Mc} (hl : m.pool.length < 4294967296) (v : Int) : V 95 [eMo m,iN v] = some (.tup [],[eMo (Pf m v)]) := by
 have h := zo hl (ndP v m.s)
 rw [VP,y1 h]
 rfl
theorem Nk {m : Mc} (hs : InP m.pool m.s) {v : Int} {m' : Mc} (h : GK m = some (v,m')) : V 218 [eMo m] = some (.tup [iN v,.bool true],[eMo m']) := by
 unfold GK at h
 rw [Mu,GP hs]
 split at h
 ·rename_i h5
  cases h
  rw [xb (yG h5)]
 ·cases h
theorem GL {m : Mc} (hs : InP m.pool m.s) (h : GK m = none) : V 218 [eMo m] = some (.tup [iN 0,.bool false],[eMo m]) := by
 unfold GK at h
 rw [Mu,GP hs]
 split at h
 ·cases h
 ·rename_i h5
  rw [xK (yH h5)]
theorem QH {p : List Nd} (hp : zh p) : ∀ (k : Nat) (v : Int),InP p v -> k < 4611686018427387904 ->
  DU v (k : Int) (p.map eN) = some (alD (Pc p k v),[])
 | 0,v,hv,hk => by
  rw [Il,xb (decide_eq_false (by omega)),SY hv]
  unfold Pc
  by_cases h5 : (nod p v).kind = 5
  ·rw [if_pos h5,xb (yG h5),acf hv]; rfl
  ·rw [if_neg h5,xK (yH h5)]; rfl
 | k + 1,v,hv,hk => by
  have hw : w6 (((k + 1 : Nat) : Int) - 1) = (k : Int) := by rw [w64 (by omega) (by omega)]; omega
  rw [Il,xK (decide_eq_true (by omega)),SY hv]
  unfold Pc
  by_cases h5 : (nod p v).kind = 5
  ·have ih := QH hp k (nod p v).b (Ot hp hv h5) (by omega)
   rw [if_pos h5,xK (yF h5),acg hv,hw,ih]
  ·rw [if_neg h5,xb (yE h5),SY hv,xK (yH h5)]; rfl
theorem Zd {p : List Nd} (hp : zh p) {v : Int} (hv : InP p v) {n : Int} (h0 : 0 <= n) (h1 : n < 4611686018427387904) : V 216 [eP p,iN v,iN n] = some (alD (Pc p n.toNat v),[]) := by
 have := QH hp n.toNat v hv (by omega)
 rw [Int.toNat_of_nonneg h0] at this
 rw [VO]
 exact this
theorem Lf {p : List Nd} (hp : zh p) (hl : p.length < 4294967290) : ∀ (k : Nat) (v : Int) (acc : List Int),InP p v -> v < k -> acc.length + k < 4294967296 ->
  Cg v (p.map eN) (acc.map eI) = some (.tup [.os (1,0) ((if (JQ p k v).2 = true then acc ++ (JQ p k v).1 else []).map eI),.bool (JQ p k v).2],[])
 | 0,v,acc,hv,hk,ha => by omega
 | k + 1,v,acc,hv,hk,ha => by
  rw [KG,SY hv]
  unfold JQ
  by_cases h5 : (nod p v).kind = 5
  ·have hb := Ay (JT hp hv) h5
   have ih := Lf hp hl k (nod p v).b (acc ++ [(nod p v).a]) (Ot hp hv h5) (by omega) (by simp only [lnA,lnC,lnN]; omega)
   have ea : acc.map eI ++ [iN (nod p v).a] = (acc ++ [(nod p v).a]).map eI := by simp
   have hlim : decide (ni ((acc ++ [(nod p v).a]).map eI).length <= LIM) = true := decide_eq_true (by rw [pE]; simp only [ni,lnM,lnA,lnC,lnN]; omega)
   rw [if_pos h5,xK (yF h5),acf hv,ea,yu hlim,yA,acg hv,ih]
   simp
  ·rw [if_neg h5,xb (yE h5),SY hv]
   by_cases h1 : (nod p v).kind = 1
   ·rw [xb (yG h1)]; simp [h1]
   ·rw [xK (yH h1)]; simp [h1]
theorem Gg {p : List Nd} (hp : zh p) (hl : p.length < 2147483648) {v : Int} (hv : InP p v) : V 228 [eP p,iN v] = some (.tup [.os (1,0) ((if (Ac p v).2 = true then (Ac p v).1 else []).map eI),.bool (Ac p v).2],[]) := by
 have := Lf hp (by omega) (v.toNat + 1) v [] hv (by omega) (by simp only [lnN]; omega)
 rw [PQ]
 simp only [List.nil_append] at this
 exact this
def JH (p : List Nd) (v : Int) (many : Nat) : Option (Int × List Int) := if (Ac p v).2 = true /\ (Ac p v).1.length = many /\ (nod p ((Ac p v).1.getD 0 0)).kind = 3 then some ((nod p ((Ac p v).1.getD 0 0)).n,(Ac p v).1.drop 1) else none
theorem Sa {c : Cd} {p : List Nd} {v : Int} {many : Nat} (hm : 0 < many) : LD c p v many = match JH p v many with
  | none => none
  | some (n,r) => if CE c n = true then some (n,r) else none := by
 rw [aau (xs := (Ac p v).1) (b := (Ac p v).2) rfl hm]
 unfold JH
 by_cases h : (Ac p v).2 = true /\ (Ac p v).1.length = many /\ (nod p ((Ac p v).1.getD 0 0)).kind = 3
 ·rw [if_pos h]
  simp only
  by_cases h2 : CE c (nod p ((Ac p v).1.getD 0 0)).n = true
  ·rw [if_pos ⟨h.1,h.2.1,h.2.2,h2⟩,if_pos h2]
  ·rw [if_neg (fun q => h2 q.2.2.2),if_neg h2]
 ·rw [if_neg h,if_neg (fun q => h ⟨q.1,q.2.1,q.2.2.1⟩)]
theorem Qc {p : List Nd} {v : Int} {many : Nat} {n : Int} {r : List Int} (hm : 0 < many) (h : JH p v many = some (n,r)) : r.length + 1 = many := by
 unfold JH at h
 split at h
 ·rename_i hh; cases h; rw [List.length_drop]; omega
 ·cases h
def frD (r : Option (Int × List Int)) : D := match r with | some (n,l) => .tup [iN n,.os (1,0) (l.map eI),.bool true] | none => .tup [iN 0,.os (1,0) [],.bool false]
theorem SN {p : List Nd} (hp : zh p) (hl : p.length < 2147483648) {v : Int} (hv : InP p v) {many : Nat} (hm : 0 < many) : V 234 [eP p,iN v,iN (many : Int)] = some (frD (JH p v many),[]) := by
 have hlst := Gg hp hl hv
 have hin := Kq hp hv
 rw [Rt,CG hlst]
 unfold JH
 cases hb : (Ac p v).2 with
 | false => rw [if_neg (fun h => by simp at h)]; rfl
 | true =>
  rw [if_pos rfl,Bool.not_true,xJ]
  by_cases h4 : (Ac p v).1.length = many
  ·cases hq : (Ac p v).1 with
   | nil => rw [hq] at h4; simp at h4; omega
   | cons a r =>
    rw [hq] at hin h4
    have ha := hin a (by simp)
    rw [xb (yG (Oq (by rw [h4]))),Cq,SY ha]
    by_cases h3 : (nod p a).kind = 3
    ·rw [xb (yG h3),Cq,acu ha,yu (by simp [cW]; omega),ZI,if_pos ⟨rfl,h4,h3⟩]
     rfl
    ·rw [xK (yH h3),if_neg (fun h => h3 h.2.2)]; rfl
  ·rw [xK (yH (Sg (fun h => h4 (by omega)))),if_neg (fun h => h4 h.2.1)]; rfl

theorem ZK {p : List Nd} {n q : Int} {l : List Int} (h12 : 1 <= n /\ n <= 12) (hargs : (l.length : Int) = zF n) (hr : MZ p n l = .error q) : q = 3 \/ q = 4 := by
 rw [M8 h12 hargs] at hr
 split at hr
 ·split at hr
  ·cases hr
  ·split at hr
   ·cases hr
   ·split at hr
    ·cases hr
    ·cases hr; exact .inr rfl
 ·cases hr; exact .inl rfl
theorem SM {c : Cd} (hc : c.list.length <= 400) : ∀ (k : Nat) {m : Mc} {f : Int} {l : List Int},RunM c m -> CE c (m.at' + 1) = true -> m.pool.length + 100 * k < 2147483600 -> InP m.pool f -> (∀ v ∈ l,InP m.pool v) -> l.length <= 4 -> Iu c k m f l ≠ .error 0 ->
  Nq c (V 233 [eCd c,eMo m,iN f,.rs (1,0) (l.map eI),iN (m.at' + 1)]) (Iu c k m f l)
 | 0,m,f,l,h,hnx,hl,hf,hv,h4,h0 => absurd rfl h0
 | k + 1,m,f,l,h,hnx,hl,hf,hv,h4,h0 => by
  have hok := JT h.gm.ok hf
  have hpl := isPl_iff.1 h.pl
  rw [Rq,GP hf]
  unfold Iu at h0 ⊢
  simp only at h0 ⊢
  by_cases h6 : (nod m.pool f).kind = 6
  ·rw [if_pos h6,xK (yF h6)]
   have hfn : 0 <= (nod m.pool f).n /\ (nod m.pool f).n <= 1000000000 := by
    simp [okN,h6] at hok
    exact wi_iff.1 hok.1
   have t1 : Int.tmod (nod m.pool f).n 8 = (nod m.pool f).n % 8 := Int.tmod_eq_emod_of_nonneg hfn.1
   have t2 : Int.tdiv (nod m.pool f).n 8 = (nod m.pool f).n / 8 := Int.tdiv_eq_ediv_of_nonneg hfn.1
   rw [yu (by decide),t1,t2]
   unfold NF
   by_cases h1 : (nod m.pool f).n % 8 = (l.length : Int)
   ·rw [if_neg (by omega),xb (yG (by rw [Oq rfl]; exact h1)),yu (by decide),w64 (n := (nod m.pool f).n / 8) (by omega) (by omega),lnM]
    cases h2 : CE c ((nod m.pool f).n / 8) with
    | false =>
     have : ¬ ((nod m.pool f).n / 8 <= (c.list.length : Int) - 1) := fun h => by
      have := isPl_iff.2 ⟨by omega,h⟩
      rw [h2] at this; cases this
     rw [if_pos rfl,xK (decide_eq_true (by simp only [ni]; omega))]
     exact zu m (by decide) rfl
    | true =>
     have h2' := isPl_iff.1 h2
     rw [if_neg (by simp),xb (decide_eq_false (by simp only [ni]; omega))]
     have a1 := zo (p := m.pool) (by omega) (ndI (m.at' + 1))
     have l1 := Fq (m.pool ++ [ndI (m.at' + 1)]) [(m.pool.length : Int),m.s,m.e]
     simp only [lnA,lnC,lnN] at l1
     have a2 : V 210 [rP (m.pool ++ [ndI (m.at' + 1)]),.rs (1,0) [iN (m.pool.length : Int),iN m.s,iN m.e]] = _ := Kf (q := m.pool ++ [ndI (m.at' + 1)]) (row := [(m.pool.length : Int),m.s,m.e]) (by simp only [lnA,lnC,lnN]; omega)
     have a3 := zo (p := (y2 (m.pool ++ [ndI (m.at' + 1)]) [(m.pool.length : Int),m.s,m.e]).1) (by omega) (ndP (y2 (m.pool ++ [ndI (m.at' + 1)]) [(m.pool.length : Int),m.s,m.e]).2 m.d)
     rw [y1 a1,CY a2,y1 a3]
     generalize hB : y2 (m.pool ++ [ndI (m.at' + 1)]) [(m.pool.length : Int),m.s,m.e] = B at l1 ⊢
     have l2 := Fq (B.1 ++ [ndP B.2 m.d]) l
     simp only [lnA,lnC,lnN] at l2
     have a4 := Kf (q := B.1 ++ [ndP B.2 m.d]) (row := l) (by simp only [lnA,lnC,lnN]; omega)
     have a5 := zo (p := (y2 (B.1 ++ [ndP B.2 m.d]) l).1) (by omega) (ndP (y2 (B.1 ++ [ndP B.2 m.d]) l).2 (nod m.pool f).a)
     have a6 := zo (p := (y2 (B.1 ++ [ndP B.2 m.d]) l).1 ++ [ndP (y2 (B.1 ++ [ndP B.2 m.d]) l).2 (nod m.pool f).a]) (by simp only [lnA,lnC,lnN]; omega) ndN
     have e6 : (((y2 (B.1 ++ [ndP B.2 m.d]) l).1 ++ [ndP (y2 (B.1 ++ [ndP B.2 m.d]) l).2 (nod m.pool f).a]).length : Int) = (y2 (B.1 ++ [ndP B.2 m.d]) l).1.length + 1 := by simp
     rw [e6] at a6
     rw [CY a4,y1 a5,y1 a6,yu (by decide)]
     rfl
   ·rw [if_pos h1,xK (yH (by rw [Oq rfl]; exact h1))]
    exact zu m (by decide) rfl
  rw [if_neg h6] at h0 ⊢
  rw [xb (yE h6)]
  by_cases h8 : (nod m.pool f).kind = 8
  ·rw [if_pos h8] at h0 ⊢
   rw [xK (yF h8)]
   have prim : Nq c (V 240 [eCd c,eMo m,iN (nod m.pool f).n,.rs (1,0) (l.map eI),iN (m.at' + 1)]) (if zF (nod m.pool f).n ≠ (l.length : Int) then .error 2
     else if (nod m.pool f).n = 18 then
      Iu c k ⟨(y2 (m.pool ++ [ndI (m.at' + 1)]) [(m.pool.length : Int),m.s,m.e,m.d]).1 ++ [ndK (y2 (m.pool ++ [ndI (m.at' + 1)]) [(m.pool.length : Int),m.s,m.e,m.d]).2],m.at',m.s,m.e,m.d,m.state,m.ask,m.arg⟩ (l.getD 0 0) [((y2 (m.pool ++ [ndI (m.at' + 1)]) [(m.pool.length : Int),m.s,m.e,m.d]).1.length : Int)]
     else if (nod m.pool f).n > 12 then
      .ok ⟨(y2 m.pool l).1,m.at',m.s,m.e,m.d,1,(nod m.pool f).n,(y2 m.pool l).2⟩
     else match MZ m.pool (nod m.pool f).n l with
      | .error h => .error (h + 1)
      | .ok (p,v) => .ok ⟨p ++ [ndP v m.s],m.at' + 1,p.length,m.e,m.d,m.state,m.ask,m.arg⟩) := by
    rw [Uj,RA Ph]
    by_cases hargs : zF (nod m.pool f).n = (l.length : Int)
    ·have hargs' : ¬ zF (nod m.pool f).n ≠ (l.length : Int) := fun h => h hargs
     obtain ⟨n1,n19,l2⟩ := DB hargs
     rw [if_neg hargs'] at h0 ⊢
     rw [xb (yG (Oq hargs.symm))]
     by_cases h18 : (nod m.pool f).n = 18
     ·rw [if_pos h18] at h0 ⊢
      rw [xK (yF h18)]
      obtain ⟨v,rfl⟩ : ∃ v,l = [v] := by
       rw [h18] at hargs
       match l,hargs with
       | [v],_ => exact ⟨v,rfl⟩
       | [],h => cases h
       | _ :: _ :: r,h => simp only [lnC] at h; have : zF 18 = 1 := rfl; omega
      have a1 := zo (p := m.pool) (by omega) (ndI (m.at' + 1))
      have l1 := Fq (m.pool ++ [ndI (m.at' + 1)]) [(m.pool.length : Int),m.s,m.e,m.d]
      simp only [lnA,lnC,lnN] at l1
      have a2 : V 210 [rP (m.pool ++ [ndI (m.at' + 1)]),.rs (1,0) [iN (m.pool.length : Int),iN m.s,iN m.e,iN m.d]] = _ := Kf (q := m.pool ++ [ndI (m.at' + 1)]) (row := [(m.pool.length : Int),m.s,m.e,m.d]) (by simp only [lnA,lnC,lnN]; omega)
      have o1 : zh (m.pool ++ [ndI (m.at' + 1)]) := zr h.gm.ok (UJ (by omega))
      obtain ⟨b1,⟨t,b2,b3⟩,b4⟩ := D9 (row := [(m.pool.length : Int),m.s,m.e,m.d]) o1 (fun v hv => by
       simp only [List.mem_cons,List.not_mem_nil,or_false] at hv
       rcases hv with rfl | rfl | rfl | rfl
       ·exact Ai _ _
       ·exact y7 _ h.gm.s
       ·exact y7 _ h.gm.e
       ·exact y7 _ h.gm.d)
      have e1 : (y2 (m.pool ++ [ndI (m.at' + 1)]) [(m.pool.length : Int),m.s,m.e,m.d]).1 = m.pool ++ (ndI (m.at' + 1) :: t) := by rw [b2]; simp
      have up : ∀ {v : Int},InP m.pool v -> InP ((y2 (m.pool ++ [ndI (m.at' + 1)]) [(m.pool.length : Int),m.s,m.e,m.d]).1 ++ [ndK ((y2 (m.pool ++ [ndI (m.at' + 1)]) [(m.pool.length : Int),m.s,m.e,m.d]).2 : Int)]) v := fun hv => y7 _ (by rw [e1]; exact y7 _ hv)
      have g2 : RunM c ⟨(y2 (m.pool ++ [ndI (m.at' + 1)]) [(m.pool.length : Int),m.s,m.e,m.d]).1 ++ [ndK ((y2 (m.pool ++ [ndI (m.at' + 1)]) [(m.pool.length : Int),m.s,m.e,m.d]).2 : Int)],m.at',m.s,m.e,m.d,m.state,m.ask,m.arg⟩ :=
       ⟨⟨zr b1 (Y0 b4),up h.gm.s,up h.gm.e,up h.gm.d⟩,h.st,h.ask,h.arg,h.pl⟩
      rw [y1 a1,CY a2]
      generalize hB : y2 (m.pool ++ [ndI (m.at' + 1)]) [(m.pool.length : Int),m.s,m.e,m.d] = B at l1 b1 b2 b4 e1 up g2 h0 ⊢
      have a3 := zo (p := B.1) (by omega) (ndK (B.2 : Int))
      have a4 := SM hc k g2 hnx (by show (B.1 ++ [ndK (B.2 : Int)]).length + 100 * k < _; simp only [lnA,lnC,lnN]; omega) (up (hv v (by simp))) (l := [(B.1.length : Int)]) (fun u hu => by
       simp only [List.mem_singleton] at hu; subst hu; exact Ai _ _) (by simp) h0
      rw [y1 a3,Cq]
      simp only [List.getD_cons_zero] at a4 ⊢
      simp only [List.map_cons,List.map_nil] at a4
      exact JW a4 (fun q m' hx => by rw [MW hx])
     rw [if_neg h18] at h0 ⊢
     rw [xb (yE h18)]
     by_cases h12 : (nod m.pool f).n > 12
     ·rw [if_pos h12,xK (decide_eq_true h12)]
      have a1 := Kf (q := m.pool) (row := l) (by omega)
      rw [CY a1]
      rfl
     rw [if_neg h12,xb (decide_eq_false h12)]
     have hp := ab7 h.gm.ok (by omega) (n := (nod m.pool f).n) hv (by omega) hargs.symm
     cases hr : MZ m.pool (nod m.pool f).n l with
     | error q =>
      rw [hr] at hp
      have hq := ZK (by omega) hargs.symm hr
      rw [Sp hp]
      rcases hq with rfl | rfl
      ·exact zu m (by decide) rfl
      ·exact zu m (by decide) rfl
     | ok r =>
      obtain ⟨p,v⟩ := r
      rw [hr] at hp
      obtain ⟨q1,q2,t,q3,q4⟩ := WU h.gm.ok hv (by omega) hargs.symm hr
      have hpl' : p.length < 4294967296 := by rw [q3]; simp only [lnA]; omega
      have a3 := Fm (m := ⟨p,m.at',m.s,m.e,m.d,m.state,m.ask,m.arg⟩) hpl' v
      rw [Sp hp,xb (yE (by omega)),xb (yE (by omega)),Aj a3]
      rfl
    ·rw [if_pos hargs,xK (yH (Sg (fun h => hargs h.symm)))]
     exact zu m (by decide) rfl
   exact JW prim (fun q m' hx => by rw [WG hx])
  rw [if_neg h8,xb (yE h8)]
  by_cases h7 : (nod m.pool f).kind = 7
  ·rw [if_pos h7,xK (yF h7)]
   unfold ZO
   by_cases h1 : l.length = 1
   ·have hs := MH h.gm.ok hf (.inr (.inr h7))
    have hfr : V 234 [eP m.pool,iN (nod m.pool f).a,iN 4] = _ := SN h.gm.ok (by omega) hs (many := 4) (by omega)
    rw [if_neg (by omega),xb (yG (Oq (by omega))),Sa (by omega)]
    obtain ⟨v,rfl⟩ : ∃ v,l = [v] := by
     match l,h1 with
     | [v],_ => exact ⟨v,rfl⟩
     | [],h => simp at h
     | _ :: _ :: _,h => simp at h
    cases hq : JH m.pool (nod m.pool f).a 4 with
    | none =>
     rw [hq] at hfr
     rw [Ck hfr]
     exact zu m (by decide) rfl
    | some nr =>
     obtain ⟨n,r⟩ := nr
     rw [hq] at hfr
     have hlen := Qc (by omega) hq
     obtain ⟨s,e,d,rfl⟩ : ∃ s e d,r = [s,e,d] := by
      match r,hlen with
      | [s,e,d],_ => exact ⟨s,e,d,rfl⟩
      | [],h => simp at h
      | [_],h => simp at h
      | [_,_],h => simp at h
      | _ :: _ :: _ :: _ :: _,h => simp at h
     have a3 := Fm (m := ⟨m.pool,n,s,e,d,m.state,m.ask,m.arg⟩) (by show m.pool.length < _; omega) v
     by_cases h5 : CE c n = true
     ·simp only [h5,if_true]
      rw [Ck hfr,Bool.not_true,xJ,Cq,I8,aaz,Cq,Aj a3]
      rfl
     ·have h5f : CE c n = false := by cases hz : CE c n with | true => exact absurd hz h5 | false => rfl
      simp only [h5f]
      refine .inr ⟨rfl,Pf ⟨m.pool,n,s,e,d,m.state,m.ask,m.arg⟩ v,h5f,?_⟩
      rw [Ck hfr,Bool.not_true,xJ,Cq,I8,aaz,Cq,Aj a3]
   ·rw [if_pos h1,xK (yH (Sg (l := l) (k := 1) (fun h => h1 (by omega))))]
    exact zu m (by decide) rfl
  ·rw [if_neg h7,xb (yE h7)]
   exact zu m (by decide) rfl
end
end Go.Eng
/-! a step of a machine: the program's side: every instruction; runs -/
namespace Go.Eng
open Go.Proofs Go.Proofs.Tryz
set_option maxHeartbeats 4000000

theorem SE {q : List Nd} {v : Int} (hv : InP q v) : y5 q [v] = true := by
 simp only [y5,List.all_cons,List.all_nil,Bool.and_true]
 exact wi_iff.2 ⟨hv.1,by omega⟩
theorem aaA {l : List Int} {v : Int} (h : 0 <= v /\ v < (l.length : Int)) {R : Type} (K : Int -> Option R) : grd (decide (0 <= v) && decide (v < ni (l.map eI).length)) (cT (l.map eI) v.toNat fun x => asI .i64 x fun n => K n) = K (l.getD v.toNat 0) := by
 obtain ⟨u,hu⟩ := Ci (l := l) h.1 h.2
 rw [My h.1 hu]
 simp [hu]
noncomputable def UO (m : Mc) (p : List Nd) (v : Int) : Mc := ⟨(AH (-1) p v m.pool).1 ++ [ndP (AH (-1) p v m.pool).2 m.s],m.at' + 1,(AH (-1) p v m.pool).1.length,m.e,m.d,0,0,0⟩
noncomputable def LR (c : Cd) (m : Mc) (p : List Nd) (v : Int) : Mc :=
 if CU c m = true then
  if m.state = 1 /\ yV p = true /\ wi v 0 ((p.length : Int) - 1) = true then
   if CE c (m.at' + 1) = true then (if (UO m p v).pool.length <= 3000 then UO m p v else PX m 6) else PX m 7
  else m
 else Zg
end Go.Eng
/-! compiling: the reference's side -/
namespace Go.Eng
noncomputable section
open Go.Proofs Go.Proofs.Tryz
set_option maxHeartbeats 4000000

abbrev eMs (p : List Nd) (m : Ms) : D := .op [.os (5,0) (p.map eN),.os (4,0) (m.list.map eIn),.os (3,0) (m.defs.map eDf),iN m.how]
abbrev eEs (env : List (List ByteArray)) : List D := env.map fun e => D.rs (1,0) (e.map D.str)
structure Le (m m' : Ms) : Prop where
 len : m.list.length <= m'.list.length
 four : m'.list.length <= 400
 how : m'.how = 0 -> m.how = 0
 defs : m'.defs = m.defs
theorem Le.refl {m : Ms} (h : m.list.length <= 400) : Le m m := ⟨Nat.le_refl _,h,id,rfl⟩
theorem Le.trans {a b c : Ms} (h : Le a b) (h2 : Le b c) : Le a c := ⟨Nat.le_trans h.len h2.len,h2.four,fun x => h.how (h2.how x),h2.defs.trans h.defs⟩
theorem z4 {m : Ms} (h : m.list.length <= 400) (x : In) : Le m (z8 m x) := by
 unfold z8
 split
 ·rename_i h0
  split
  ·exact ⟨Nat.le_refl _,h,fun _ => h0,rfl⟩
  ·exact ⟨by simp,by simp; omega,fun _ => h0,rfl⟩
 ·exact Le.refl h
theorem Pj {m : Ms} (_ : m.list.length <= 400) (x : In) (h0 : (z8 m x).how = 0) : 0 <= Dz m /\ Dz m < ((z8 m x).list.length : Int) := by
 unfold z8 at h0 ⊢
 unfold Dz
 split at h0
 ·rename_i e
  split at h0
  ·simp at h0
  ·rename_i e2
   rw [if_pos e,if_pos e,if_neg e2,if_neg e2]
   simp
   omega
 ·rename_i e; exact absurd h0 e
theorem SI {m : Ms} (h : m.list.length <= 400) (k : Int) : Le m (toC m k) := by
 unfold toC
 split
 ·exact ⟨by simp,by simpa using h,fun _ => ‹_›,rfl⟩
 ·exact Le.refl h
theorem Yl {p : List Nd} {m : Ms} (h : m.list.length <= 400) (x : In) : V 237 [eMs p m,eIn x] = some (iN (Dz m),[eMs p (z8 m x)]) := by
 have e : m.list.map eIn ++ [D.agg [iN x.op,iN x.n,iN x.i,D.str x.s]] = (m.list ++ [x]).map eIn := by simp
 rw [TW,e]
 unfold z8 Dz
 by_cases h0 : m.how = 0
 ·rw [xK (yF h0),if_pos h0,if_pos h0]
  by_cases h4 : m.list.length = 400
  ·rw [xK (yF (Oq (by omega))),if_pos h4,if_pos h4]
  ·rw [xb (yE (Sg (by omega))),xb (yG h0),if_neg h4,if_neg h4,yu (decide_eq_true (by rw [pE,lnM]; simp only [ni,lnA,lnC,lnN]; omega)),yA,w64 (by rw [lnM]; simp only [ni,lnA,lnC,lnN]; omega) (by rw [lnM]; simp only [ni,lnA,lnC,lnN]; omega),h0]
   simp [ni]
 ·rw [xb (yE h0),xK (yH h0),if_neg h0,if_neg h0]
theorem abD {p : List Nd} {m : Ms} (_ : m.list.length <= 400) {k : Int} (hk : m.how = 0 -> 0 <= k /\ k < (m.list.length : Int)) : V 253 [eMs p m,iN k] = some (.tup [],[eMs p (toC m k)]) := by
 rw [XH]
 unfold toC
 by_cases h0 : m.how = 0
 ·obtain ⟨k0,k1⟩ := hk h0
  obtain ⟨x,hx⟩ := xx (l := m.list) (i := k.toNat) (by omega)
  have hg : m.list.getD k.toNat (inO 0) = x := by rw [List.getD_eq_getElem?_getD,hx]; rfl
  have e : List.set (m.list.map eIn) k.toNat (D.agg (List.take 1 [iN x.op,iN x.n,iN x.i,D.str x.s] ++ [iN (ni (m.list.map eIn).length)] ++ List.drop 2 [iN x.op,iN x.n,iN x.i,D.str x.s])) = (m.list.set k.toNat ⟨x.op,m.list.length,x.i,x.s⟩).map eIn := by
   rw [List.map_set,lnM]; rfl
  rw [xK (yF h0),if_pos h0,yu (by rw [lnM]; simp only [ni,Bool.and_eq_true,decide_eq_true_eq]; omega),xW hx,xu,yA,e,hg,h0]
 ·rw [xb (yE h0),if_neg h0]
theorem Yn (s : ByteArray) : V 238 [.str s] = some (.bool (Yg s),[]) := by
 rw [NT]
 unfold Yg wrds
 simp only [List.any_cons,List.any_nil,Bool.or_false]
 show br (kc s (mk [113,117,111,116,101])) (some (D.bool true,[])) (br (kc s (mk [105,102])) (some (D.bool true,[])) (br (kc s (mk [102,110])) (some (D.bool true,[])) (br (kc s (mk [100,111])) (some (D.bool true,[])) (br (kc s (mk [108,101,116])) (some (D.bool true,[])) (some (D.bool (kc s (mk [100,101,102,105,110,101])),[])))))) = _
 cases kc s (mk [113,117,111,116,101]) <;> cases kc s (mk [105,102]) <;> cases kc s (mk [102,110]) <;> cases kc s (mk [100,111]) <;> cases kc s (mk [108,101,116]) <;> rfl
theorem aa5 {p : List Nd} (m : Ms) {v : Int} (hv : InP p v) : V 230 [eMs p m,iN v] = some (.tup [.str (nod p v).s,.bool (nmC p v)],[eMs p m]) := by
 rw [Ub,GP hv]
 unfold nmC
 by_cases h4 : (nod p v).kind = 4
 ·rw [xK (yF h4),EO (Yn _),yF h4,Bool.true_and]
 ·rw [xb (yE h4),yE h4,Bool.false_and]
theorem LV {p : List Nd} (m : Ms) {xs : List Int} (hl : xs.length <= 100000) (hx : ∀ x ∈ xs,InP p x) : ∀ (k i : Nat) (h : Int) (out : List ByteArray),i + k = xs.length -> out.length <= i ->
  z6 (xs.map eI) (i : Int) h (out.map D.str) (p.map eN) (m.list.map eIn) (m.defs.map eDf) = zR 0 (KO p (xs.drop i) h out).2 ((KO p (xs.drop i) h out).1.map D.str) (p.map eN) (m.list.map eIn) (m.defs.map eDf) /\ (KO p (xs.drop i) h out).1.length <= xs.length
 | 0,i,h,out,hi,ho => by
  rw [FA,xb (by rw [lnM]; exact yr (by omega)),List.drop_of_length_le (by omega),KO]
  exact ⟨rfl,by show out.length <= _; omega⟩
 | k + 1,i,h,out,hi,ho => by
  obtain ⟨x,hg⟩ := xx (l := xs) (i := i) (by omega)
  have hp := hx x (List.mem_of_getElem? hg)
  rw [FA,xK (by rw [lnM]; exact yz (by omega)),tU hg,KO]
  by_cases h0 : h = 0
  ·have ea : out.map D.str ++ [D.str (nod p x).s] = (out ++ [(nod p x).s]).map D.str := by simp
   have hlim : decide (ni ((out ++ [(nod p x).s]).map D.str).length <= LIM) = true := decide_eq_true (by rw [pE]; simp only [ni,lnM,lnA,lnC,lnN]; omega)
   have hn : V 230 [.op [.os (5,0) (p.map eN),.os (4,0) (m.list.map eIn),.os (3,0) (m.defs.map eDf),iN h],iN x] = _ := aa5 (p := p) ⟨m.list,m.defs,h⟩ hp
   rw [xK (yF h0),yu (by rw [lnM]; exact yx (by omega)),Int.toNat_natCast,xW hg,ye,OC hn,ea,yM (by omega),if_pos h0]
   have ih := fun h' => LV m hl hx k (i + 1) h' (out ++ [(nod p x).s]) (by omega) (by simp; omega)
   cases hc : nmC p x with
   | false => rw [Bool.not_false,yk,if_neg (by simp),yu hlim,yA]; exact ih 1
   | true => rw [Bool.not_true,xJ,if_pos rfl,h0,yu hlim,yA]; exact ih 0
  ·rw [xb (yE h0),if_neg h0]
   exact ⟨rfl,by show out.length <= _; omega⟩
theorem Xz {p : List Nd} (m : Ms) {out : List ByteArray} (hl : out.length <= 100000) {i : Nat} (hi : i < out.length) {s : ByteArray} (hs : out[i]? = some s) : ∀ (k j : Nat) (h : Int),j + k = i ->
  AP (i : Int) (j : Int) h (out.map D.str) (p.map eN) (m.list.map eIn) (m.defs.map eDf) = zR ((i + 1 : Nat) : Int) (if ((out.take i).drop j).any (fun t => kc t s) = true then 2 else h) (out.map D.str) (p.map eN) (m.list.map eIn) (m.defs.map eDf)
 | 0,j,h,hj => by
  rw [Fc,xb (decide_eq_false (by omega)),yM (by omega),List.drop_of_length_le (by simp; omega)]
  rfl
 | k + 1,j,h,hj => by
  obtain ⟨t,ht⟩ := xx (l := out) (i := j) (by omega)
  have ht2 : (out.take i)[j]? = some t := by rw [List.getElem?_take]; rw [if_pos (by omega)]; exact ht
  rw [Fc,xK (decide_eq_true (by omega)),yu (by rw [lnM]; exact yx (by omega)),Int.toNat_natCast,xW ht,yi,yu (by rw [lnM]; exact yx (by omega)),Int.toNat_natCast,xW hs,yi,yM (by omega),Xz m hl hi hs k (j + 1) 2 (by omega),Xz m hl hi hs k (j + 1) h (by omega),tU ht2,List.any_cons]
  cases kc t s with
  | true => rw [yk,Bool.true_or,if_pos rfl]; split <;> rfl
  | false => rw [xJ,Bool.false_or]
theorem Vx {p : List Nd} (m : Ms) {out : List ByteArray} (hl : out.length <= 100000) : ∀ (k i : Nat) (h : Int),i + k = out.length ->
  zR (i : Int) h (out.map D.str) (p.map eN) (m.list.map eIn) (m.defs.map eDf) = some (.os (1,0) (out.map D.str),[eMs p (D6 m (PJ out k i h))])
 | 0,i,h,hi => by
  rw [Fa,xb (by rw [lnM]; exact yr (by omega))]
  rfl
 | k + 1,i,h,hi => by
  obtain ⟨s,hs⟩ := xx (l := out) (i := i) (by omega)
  have hg : out.getD i ⟨#[]⟩ = s := by rw [List.getD_eq_getElem?_getD,hs]; rfl
  have hin := Xz (p := p) m hl (i := i) (by omega) hs i 0 h (by omega)
  rw [Int.natCast_zero,List.drop_zero] at hin
  rw [Fa,xK (by rw [lnM]; exact yz (by omega)),hin,Vx m hl k (i + 1) _ (by omega),PJ,hg]
  by_cases h0 : h = 0
  ·rw [xK (yF h0),if_pos h0,h0]
  ·rw [xb (yE h0),if_neg h0]
   rfl
theorem U7 {p : List Nd} (m : Ms) {xs : List Int} (hl : xs.length <= 100000) (hx : ∀ x ∈ xs,InP p x) : V 231 [eMs p m,.rs (1,0) (xs.map eI)] = some (.os (1,0) ((AE p xs m.how).1.map D.str),[eMs p (D6 m (AE p xs m.how).2)]) /\ (AE p xs m.how).1.length <= xs.length := by
 have h := fun h' => LV (p := p) m hl hx xs.length 0 h' [] (by omega) (by simp)
 simp only [Int.natCast_zero,List.drop_zero,List.map_nil] at h
 have key : ∀ h',z6 (xs.map eI) 0 h' [] (p.map eN) (m.list.map eIn) (m.defs.map eDf) = some (.os (1,0) ((KO p xs h' []).1.map D.str),[eMs p (D6 m (PJ (KO p xs h' []).1 (KO p xs h' []).1.length 0 (KO p xs h' []).2))]) := fun h' => by
  have hd := Vx (p := p) m (out := (KO p xs h' []).1) (by have := (h h').2; omega) (KO p xs h' []).1.length 0 (KO p xs h' []).2 (by omega)
  rw [(h h').1]
  exact hd
 rw [Rk,lnM]
 unfold AE
 by_cases h4 : xs.length > 4
 ·rw [xK (decide_eq_true (by simp only [ni]; omega)),if_pos h4]
  exact ⟨key 1,(h 1).2⟩
 ·rw [xb (decide_eq_false (by simp only [ni]; omega)),if_neg h4]
  exact ⟨key m.how,(h m.how).2⟩

def vrD (r : Option (Nat × Nat)) : D := match r with | some (n,i) => .tup [iN n,iN i] | none => .tup [iN (-1),iN 0]
theorem aba {env : List (List ByteArray)} {s : ByteArray} (h1 : env.length <= 100000) {n : Nat} {e : List ByteArray} (he : env[n]? = some e) (h2 : e.length <= 100000) : ∀ (k i : Nat),i + k = e.length ->
  DT (eEs env) s (n : Int) (i : Int) = match aa8 s (e.drop i) i with
   | some j => some (.tup [iN n,iN j],[])
   | none => Cy (eEs env) s ((n + 1 : Nat) : Int)
 | 0,i,hi => by
  have hn := aQ he
  rw [Ik,yu (by rw [lnM]; exact yx (by omega)),Int.toNat_natCast,xW he,yh,lnM,xb (yr (by omega)),List.drop_of_length_le (by omega),yM (by omega)]
  rfl
 | k + 1,i,hi => by
  have hn := aQ he
  obtain ⟨t,ht⟩ := xx (l := e) (i := i) (by omega)
  rw [Ik,yu (by rw [lnM]; exact yx (by omega)),Int.toNat_natCast,xW he,yh,lnM,xK (yz (by omega)),xW he,yh,yu (by rw [lnM]; exact yx (by omega)),Int.toNat_natCast,xW ht,yi,tU ht,aa8,yM (by omega),aba h1 he h2 k (i + 1) (by omega),yu (by rw [lnM]; exact yx (by omega))]
  cases kc t s with
  | true => rw [yk,if_pos rfl]
  | false => rw [xJ,if_neg (by simp)]
theorem Xi {env : List (List ByteArray)} {s : ByteArray} (h1 : env.length <= 100000) (h2 : ∀ e ∈ env,e.length <= 100000) : ∀ (k n : Nat),n + k = env.length -> Cy (eEs env) s (n : Int) = some (vrD (Z6 s (env.drop n) n),[])
 | 0,n,hn => by
  rw [Ij,xb (by rw [lnM]; exact yr (by omega)),List.drop_of_length_le (by omega)]
  rfl
 | k + 1,n,hn => by
  obtain ⟨e,he⟩ := xx (l := env) (i := n) (by omega)
  have hi := aba (s := s) h1 he (h2 e (List.mem_of_getElem? he)) e.length 0 (by omega)
  rw [Int.natCast_zero,List.drop_zero] at hi
  rw [Ij,xK (by rw [lnM]; exact yz (by omega)),hi,tU he,Z6,Xi h1 h2 k (n + 1) (by omega)]
  cases aa8 s e 0 <;> rfl
theorem acs {env : List (List ByteArray)} (s : ByteArray) (h1 : env.length <= 100000) (h2 : ∀ e ∈ env,e.length <= 100000) : V 248 [.rs (1,1) (eEs env),.str s] = some (vrD (Z6 s env 0),[]) := by
 rw [VN]
 exact Xi h1 h2 env.length 0 (by omega)
end
end Go.Eng
