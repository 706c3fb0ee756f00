/- the program and the reference on plain data, part 4 -/
import Derived.Test.YtkndfhaehnfnmaaGreatPart3
import Derived.Test.YtkndfhaehnfnmaaGreatPart1
import Derived.Test.YtkndfhaehnfnmaaGreatPart2
import Derived.Test.YtkndfhaehnfnmaaGreatEngC
/-! the node of a word,on both sides -/
namespace Go.Eng
noncomputable section
open Go.Proofs Go.Proofs.Tryz
set_option maxHeartbeats 4000000

def Ui (r : Option Nat) : Option Int := match r with | some n => if n <= 1000000000 then some (n : Int) else none | none => none
def YQ (r : Option Nat) : Option Int := match r with | some n => if 0 < n /\ n <= 1000000000 then some (-(n : Int)) else none | none => none
def Xp (l : List UInt8) : Option Int := match l with
 | x :: d :: r => if x = 45 /\ dU d = true then YQ (Cg (d :: r)) else Ui (Cg l)
 | _ => Ui (Cg l)
def Yn (r : Option Int) (l : List UInt8) : Option Nd := match r with | some n => some ⟨3,n,⟨#[]⟩,0,0⟩ | none => if LH (mk l) = true then some ⟨4,0,mk l,0,0⟩ else none
def Ff (l : List UInt8) : Option Nd := if l = [35,116] then some ⟨2,1,⟨#[]⟩,0,0⟩ else if l = [35,102] then some ⟨2,0,⟨#[]⟩,0,0⟩ else Yn (Xp l) l
def XP (r : Option Nd) (x : Nd) (b : Bool) : Prop := match r with | some y => x = y /\ b = true | none => b = false
theorem RJ {l : List UInt8} {n : Nat} (h : Cg l = some n) : l.length ≠ 0 /\ ¬ 10 < l.length /\ ¬ (l[0]? = some 48 /\ 1 < l.length) /\ l.all dU = true /\ n = Au 0 l /\ n < 10000000000 := by
 unfold Cg at h
 split at h
 ·cases h
 ·rename_i hn
  cases h
  have ha : l.all dU = true := by
   cases e : l.all dU with
   | true => rfl
   | false => exact absurd (.inr (.inr (.inr e))) hn
  have h10 : ¬ 10 < l.length := fun e => hn (.inr (.inl e))
  have := Yx l 0 0 ha (by simp)
  rw [Nat.zero_add] at this
  have := Qo (k := l.length) (by omega)
  exact ⟨fun e => hn (.inl e),h10,fun e => hn (.inr (.inr (.inl e))),ha,rfl,by omega⟩
def tb (l : List UInt8) : Bool := match Cg l with | some n => decide (n <= 1000000000) | none => LH (mk l)
theorem ZQ {l : List UInt8} (h : ¬ (l[0]? = some 45 /\ 1 < l.length)) : Xp l = Ui (Cg l) := by
 match l with
 | [] => rfl
 | [x] => rfl
 | x :: d :: r => rw [Xp,if_neg]; rintro ⟨e,_⟩; exact h ⟨by rw [e]; rfl,by simp⟩
def O7 (a r : List UInt8) (v : Nat) : Int := if r.length = a.length then (v : Int) else -(v : Int)
def PG (a r : List UInt8) (v : Nat) : Bool := decide (Jd (O7 a r v) = a) && wi (O7 a r v) (-1000000000) 1000000000
theorem aax {a r : List UInt8} {v : Nat} (hv : v < 100000000000) : @Eq (Option Ret) (br (ni r.length != ni a.length)
  (UG 202 [(iN (w6 (0 - (v : Int))))] fun s5 => (br (kc s5 (mk a))
    (ck6 62 [(iN (w6 (0 - (v : Int)))),(iN (-1000000000)),(iN (1000000000))] fun b8 => (some ((.tup [(iN (w6 (0 - (v : Int)))),(.bool b8)]),[])))
    (some ((.tup [(iN (w6 (0 - (v : Int)))),(.bool false)]),[]))))
  (UG 202 [(iN (v : Int))] fun s11 => (br (kc s11 (mk a))
    (ck6 62 [(iN (v : Int)),(iN (-1000000000)),(iN (1000000000))] fun b14 => (some ((.tup [(iN (v : Int)),(.bool b14)]),[])))
    (some ((.tup [(iN (v : Int)),(.bool false)]),[]))))) (some (.tup [iN (O7 a r v),.bool (PG a r v)],[])) := by
 unfold PG O7
 by_cases h : r.length = a.length
 ·have hd := QD (n := (v : Int)) (by omega)
  rw [xb (by simp [ni,h]),if_pos h,GY hd,MZ]
  by_cases h2 : Jd (v : Int) = a
  ·rw [decide_eq_true h2,yk,zM (Ae _ _ _),Bool.true_and]
  ·rw [decide_eq_false h2,xJ,Bool.false_and]
 ·have hd := QD (n := -(v : Int)) (by omega)
  rw [xK (by simp only [ni,bne_iff_ne,ne_eq]; omega),if_neg h,show (0 : Int) - (v : Int) = -(v : Int) by omega,w64 (by omega) (by omega),GY hd,MZ]
  by_cases h2 : Jd (-(v : Int)) = a
  ·rw [decide_eq_true h2,yk,zM (Ae _ _ _),Bool.true_and]
  ·rw [decide_eq_false h2,xJ,Bool.false_and]
theorem Vz {a l : List UInt8} (hl : l.length <= 10) : ∀ (k i acc : Nat),i + k = l.length -> acc < 10 ^ i -> z6 (mk a) (mk l) (acc : Int) (i : Int) = some (if (l.drop i).all dU = true then .tup [iN (O7 a l (Au acc (l.drop i))),.bool (PG a l (Au acc (l.drop i)))] else noW,[])
 | 0,i,acc,hi,ha => by
  have hp := Qo (k := i) (by omega)
  have he := aax (a := a) (r := l) (v := acc) (by omega)
  rw [Il,List.drop_of_length_le (by omega),yO,yO,xb (yr (by omega)),he]
  rfl
 | k + 1,i,acc,hi,ha => by
  obtain ⟨x,hx⟩ := xx (l := l) (i := i) (by omega)
  have hp := Qo (k := i) (by omega)
  have hb := Rq hx
  have hd := Sc x
  rw [Il,yO,xK (yz (by omega)),yu (yx (by omega)),hb,MI hd,tU hx,List.all_cons]
  cases h : dU x with
  | false => rw [Bool.not_false,yk,if_neg (by simp)]
  | true =>
   have hx2 := dU_iff.1 h
   have e2 : w6 (w6 (w6 (10 * (acc : Int)) + w6 ((x.toNat : Nat) : Int)) - 48) = ((10 * acc + (x.toNat - 48) : Nat) : Int) := by
    rw [w64 (n := 10 * (acc : Int)) (by omega) (by omega),w64 (n := ((x.toNat : Nat) : Int)) (by omega) (by omega),w64 (n := 10 * (acc : Int) + _) (by omega) (by omega),w64 (by omega) (by omega)]; omega
   have ih := Vz (a := a) hl k (i + 1) (10 * acc + (x.toNat - 48)) (by omega) (by rw [Nat.pow_succ]; omega)
   rw [Bool.not_true,xJ,yu (yx (by omega)),e2,yM (by omega),ih,Bool.true_and]
   rfl
theorem Uj {l : List UInt8} (h0 : l.length ≠ 0) (h10 : ¬ 10 < l.length) (ha : l.all dU = true) : O7 l l (Au 0 l) = (Au 0 l : Int) /\ PG l l (Au 0 l) = (Ui (Cg l)).isSome /\ (∀ m,Ui (Cg l) = some m -> m = (Au 0 l : Int)) := by
 have hz := UN h0 h10 ha
 have e1 : O7 l l (Au 0 l) = (Au 0 l : Int) := by simp [O7]
 have e2 : Jd ((Au 0 l : Nat) : Int) = Iy (Au 0 l) := by simp [Jd]
 refine ⟨e1,?_,?_⟩
 ·unfold PG
  rw [e1,e2]
  by_cases h : l[0]? = some 48 /\ 1 < l.length
  ·rw [decide_eq_false (fun e => hz.1 e h),Cg,if_pos (.inr (.inr (.inl h)))]; rfl
  ·have hn : Cg l = some (Au 0 l) := by rw [Cg,if_neg (by rintro (e | e | e | e) <;> first | omega | exact h e | (rw [ha] at e; cases e))]
   rw [decide_eq_true (hz.2 h),hn]
   unfold Ui wi
   by_cases h1 : Au 0 l <= 1000000000
   ·simp [h1]; omega
   ·simp [h1]; omega
 ·intro m hm
  cases hn : Cg l with
  | none => rw [hn] at hm; cases hm
  | some n =>
   have := (RJ hn).2.2.2.2.1
   rw [hn] at hm
   unfold Ui at hm
   simp only at hm
   split at hm
   ·cases hm; rw [this]
   ·cases hm
theorem TZ {l : List UInt8} (h0 : l.length ≠ 0) (h10 : ¬ 10 < l.length) (ha : l.all dU = true) : O7 (45 :: l) l (Au 0 l) = -(Au 0 l : Int) /\ PG (45 :: l) l (Au 0 l) = (YQ (Cg l)).isSome /\ (∀ m,YQ (Cg l) = some m -> m = -(Au 0 l : Int)) := by
 have hz := UN h0 h10 ha
 have e1 : O7 (45 :: l) l (Au 0 l) = -(Au 0 l : Int) := by simp [O7]
 refine ⟨e1,?_,?_⟩
 ·unfold PG
  rw [e1]
  by_cases h : l[0]? = some 48 /\ 1 < l.length
  ·have : Jd (-(Au 0 l : Int)) ≠ 45 :: l := by
    unfold Jd
    split
    ·intro e; rw [Int.natAbs_neg,Int.natAbs_natCast] at e; exact hz.1 (List.cons_inj_right _ |>.1 e) h
    ·intro e
     have e0 : Au 0 l = 0 := by omega
     rw [e0] at e
     have := Aw (n := 0) (by omega)
     simp [this] at e
   rw [decide_eq_false this,Cg,if_pos (.inr (.inr (.inl h)))]; rfl
  ·have hn : Cg l = some (Au 0 l) := by rw [Cg,if_neg (by rintro (e | e | e | e) <;> first | omega | exact h e | (rw [ha] at e; cases e))]
   rw [hn]
   by_cases h1 : Au 0 l = 0
   ·have : Jd (-(Au 0 l : Int)) ≠ 45 :: l := by
     intro e
     rw [h1] at e
     have := Aw (n := 0) (by omega)
     simp [Jd,this] at e
    rw [decide_eq_false this,h1]; rfl
   ·have : Jd (-(Au 0 l : Int)) = 45 :: l := by
     unfold Jd
     rw [if_pos (by omega),Int.natAbs_neg,Int.natAbs_natCast,hz.2 h]
    rw [decide_eq_true this]
    unfold YQ wi
    by_cases h2 : Au 0 l <= 1000000000
    ·have : 0 < Au 0 l := by omega
     simp [h2,this]; omega
    ·simp [h2]; omega
 ·intro m hm
  cases hn : Cg l with
  | none => rw [hn] at hm; cases hm
  | some n =>
   have := (RJ hn).2.2.2.2.1
   rw [hn] at hm
   unfold YQ at hm
   simp only at hm
   split at hm
   ·cases hm; rw [this]
   ·cases hm
theorem VC {a r : List UInt8} {F : Option Nat -> Option Int} (hF : F none = none)
  (hfin : r.length ≠ 0 -> ¬ 10 < r.length -> r.all dU = true -> PG a r (Au 0 r) = (F (Cg r)).isSome /\ (∀ m,F (Cg r) = some m -> m = O7 a r (Au 0 r))) :
  ∃ n b,br (decide (ni r.length > 10)) (some (noW,[])) (br (ni r.length == 0) (some (noW,[])) (z6 (mk a) (mk r) 0 0)) = some (.tup [iN n,.bool b],[]) /\ b = (F (Cg r)).isSome /\ (∀ m,F (Cg r) = some m -> m = n) := by
 by_cases h10 : 10 < r.length
 ·have hn : Cg r = none := by rw [Cg,if_pos (.inr (.inl h10))]
  rw [xK (decide_eq_true (by simp only [ni]; omega)),hn,hF]
  exact ⟨0,false,rfl,rfl,fun m h => by cases h⟩
 ·rw [xb (decide_eq_false (by simp only [ni]; omega))]
  by_cases h0 : r.length = 0
  ·have hn : Cg r = none := by rw [Cg,if_pos (.inl h0)]
   rw [xK (by simp [ni,h0]),hn,hF]
   exact ⟨0,false,rfl,rfl,fun m h => by cases h⟩
  ·rw [xb (by simp only [ni,beq_eq_false_iff_ne,ne_eq]; omega)]
   have hl := Vz (a := a) (l := r) (by omega) r.length 0 0 (by omega) (by simp)
   rw [Int.natCast_zero,List.drop_zero] at hl
   rw [hl]
   cases ha : r.all dU with
   | false =>
    have hn : Cg r = none := by rw [Cg,if_pos (.inr (.inr (.inr ha)))]
    rw [if_neg (by simp),hn,hF]
    exact ⟨0,false,rfl,rfl,fun m h => by cases h⟩
   | true =>
    rw [if_pos rfl]
    obtain ⟨e1,e2⟩ := hfin h0 h10 ha
    exact ⟨_,_,rfl,e1,e2⟩
theorem aaE (l : List UInt8) : ∃ n b,V 227 [.str (mk l)] = some (.tup [iN n,.bool b],[]) /\ b = (Xp l).isSome /\ (∀ m,Xp l = some m -> m = n) := by
 have hpos : ∃ n b,br (decide (ni l.length > 10)) (some (noW,[])) (br (ni l.length == 0) (some (noW,[])) (z6 (mk l) (mk l) 0 0)) = some (.tup [iN n,.bool b],[]) /\ b = (Ui (Cg l)).isSome /\ (∀ m,Ui (Cg l) = some m -> m = n) :=
  VC rfl (fun h0 h10 ha => ⟨(Uj h0 h10 ha).2.1,fun m hm => ((Uj h0 h10 ha).2.2 m hm).trans (Uj h0 h10 ha).1.symm⟩)
 rw [U7,yO]
 by_cases hn : l[0]? = some 45 /\ 1 < l.length
 ·obtain ⟨hx,hl⟩ := hn
  match l,hx,hl with
  | x :: d :: r,hx,hl =>
   have hx : x = 45 := by simpa using hx
   subst hx
   have hb0 : bt (mk (45 :: d :: r)) 0 = 45 := Rq (i := 0) (x := 45) rfl
   have e : ByteArray.extract (mk (45 :: d :: r)) (Int.toNat 1) (45 :: d :: r).length = mk (d :: r) := by
    rw [FX]; congr 1; simp
   rw [xK (decide_eq_true (by simp only [ni]; omega)),yu (by simp only [ni,Bool.and_eq_true,decide_eq_true_eq]; omega),hb0,xK (by decide),yu (by unfold cW; simp; omega),e,yO]
   obtain ⟨n,b,h1,h2,h3⟩ := VC (a := 45 :: d :: r) (r := d :: r) (F := YQ) rfl (fun h0 h10 ha => ⟨(TZ h0 h10 ha).2.1,fun m hm => ((TZ h0 h10 ha).2.2 m hm).trans (TZ h0 h10 ha).1.symm⟩)
   refine ⟨n,b,h1,?_⟩
   rw [Xp]
   by_cases hd : dU d = true
   ·rw [if_pos ⟨rfl,hd⟩]; exact ⟨h2,h3⟩
   ·rw [if_neg (fun h => hd h.2)]
    have hf : ∀ c : UInt8,dU c = false -> ∀ q,Cg (c :: q) = none := by
     intro c hc q
     rw [Cg,if_pos (.inr (.inr (.inr (by rw [List.all_cons,hc]; rfl))))]
    rw [hf 45 rfl] 
    rw [hf d (by simpa using hd)] at h2 h3
    exact ⟨h2,h3⟩
 ·rw [ZQ hn]
  by_cases hl : 1 < l.length
  ·obtain ⟨x,hx⟩ := xx (l := l) (i := 0) (by omega)
   have hbt : bt (mk l) 0 = (x.toNat : Int) := Rq hx
   have hne : x.toNat ≠ 45 := by
    intro h; apply hn; rw [hx]; exact ⟨by congr 1; exact UInt8.toNat_inj.1 h,hl⟩
   rw [xK (decide_eq_true (by simp only [ni]; omega)),yu (by simp only [ni,Bool.and_eq_true,decide_eq_true_eq]; omega),hbt,xb (by simp only [beq_eq_false_iff_ne,ne_eq]; omega)]
   exact hpos
  ·rw [xb (decide_eq_false (by simp only [ni]; omega))]
   exact hpos
theorem Ws {l : List UInt8} (hb : l.length < 4611686018427387904) : ∃ x b,V 212 [.str (mk l)] = some (.tup [eN x,.bool b],[]) /\ XP (Ff l) x b := by
 have e1 : kc (mk l) ⟨#[35,116]⟩ = decide (l = [35,116]) := MZ l _
 have e2 : kc (mk l) ⟨#[35,102]⟩ = decide (l = [35,102]) := MZ l _
 obtain ⟨n,b,h3,h4,h5⟩ := aaE l
 have hnm := DW (s := mk l) (by rw [yO]; exact hb)
 rw [Tj,e1,e2,Xu h3]
 unfold Ff
 by_cases h1 : l = [35,116]
 ·rw [xK (decide_eq_true h1),if_pos h1]; exact ⟨⟨2,1,⟨#[]⟩,0,0⟩,true,rfl,rfl,rfl⟩
 rw [xb (decide_eq_false h1),if_neg h1]
 by_cases h2 : l = [35,102]
 ·rw [xK (decide_eq_true h2),if_pos h2]; exact ⟨⟨2,0,⟨#[]⟩,0,0⟩,true,rfl,rfl,rfl⟩
 rw [xb (decide_eq_false h2),if_neg h2]
 cases hf : Xp l with
 | some m =>
  rw [hf] at h4 h5
  have := h5 m rfl
  rw [h4,<- this]
  exact ⟨⟨3,m,⟨#[]⟩,0,0⟩,true,rfl,rfl,rfl⟩
 | none =>
  rw [hf] at h4
  rw [h4,show (none : Option Int).isSome = false from rfl,xJ,Oh hnm]
  refine ⟨⟨4,0,mk l,0,0⟩,LH (mk l),rfl,?_⟩
  cases e : LH (mk l) with
  | true => simp [Yn,e,XP]
  | false => simp [Yn,e,XP]
end
end Go.Eng
/-! sizes told: printed by mkz.py -/
namespace Go.Eng
open Go.Proofs Go.Proofs.Tryz
set_option maxHeartbeats 4000000
set_option maxRecDepth 100000

theorem sz3 : TypeInfo.size (Tables.types (Program.toTables Tryz.prog))[3] = 1 := by kernel_rfl
theorem fl3 : qU Tryz.prog (3) = true := by kernel_rfl

theorem zq (p0 : ByteArray) (p1 : Nat) (p2 : Int) (p3 : List D) (p4 : List D) (p5 : List D) (p6 : List D) : y6 p0 p1 p2 p3 p4 p5 p6 =
 br (decide (p2 < ni (ByteArray.size p0)))
  (
  grd (decide (0 <= p2) && decide (p2 < ni (ByteArray.size p0))) (br (bt p0 p2 == 32)
  (y6 p0 p1 (w6 (p2 + 1)) p3 p4 p5 p6)
  (
   br (bt p0 p2 == 40)
   (grd (decide
 (ni
   (List.length
    (part p5 (some (0,p1)) ++
     [D.agg
       [iN p2,
        D.os
         (1,0)
         []]])) <=
  LIM)) (nam (part p5 (some (0,p1)) ++
 [D.agg
   [iN p2,
    D.os
     (1,0)
     []]]) fun a =>
   za p0 (w6 (p2 + 1)) p3 p4 a p6))
   (
   br (bt p0 p2 == 41)
   (
    br (w6 (ni p1 - 1) == 0)
    (ck8 147 [(.agg [(.rs (5,0) p3)])] fun a => ((some ((.tup [(.agg [(.os (5,0) a)]),(.os (1,0) p4),(iN (5)),(iN p2)]),[]))))
    (
    grd (decide (0 <= w6 (ni p1 - 1)) && decide (w6 (ni p1 - 1) < ni p1) && decide (0 + p1 <= List.length p5)) (cT p5 (0 + Int.toNat (w6 (ni p1 - 1))) fun a =>
    asAgg a fun b => cT b 1 fun c =>
     jl (1,0) c fun d => asAgg a fun e => ck9 210 [(.op [(.os (5,0) p6)]),(.rs (1,0) d)] fun f g => ((grd (gW p1 (List.length (List.set p5 (0 + Int.toNat (w6 (ni p1 - 1))) (D.agg (List.take 1 e ++ [D.dead] ++ List.drop 2 e))) - 0) none (some (w6 (ni p1 - 1)))) (grd (decide (0 <= w6 (w6 (ni p1 - 1) - 1)) && decide (w6 (w6 (ni p1 - 1) - 1) < ni (Int.toNat (w6 (ni p1 - 1)))) && decide (0 + Int.toNat (w6 (ni p1 - 1)) <= List.length (List.set p5 (0 + Int.toNat (w6 (ni p1 - 1))) (D.agg (List.take 1 e ++ [D.dead] ++ List.drop 2 e))))) (cT (List.set p5 (0 + Int.toNat (w6 (ni p1 - 1))) (D.agg (List.take 1 e ++ [D.dead] ++ List.drop 2 e))) (0 + Int.toNat (w6 (w6 (ni p1 - 1) - 1))) fun h =>
          asAgg h fun i => cT i 1 fun j =>
           jl (1,0) j fun k => asAgg h fun l => grd (decide (ni (List.length (k ++ [iN f])) <= LIM)) (nam (k ++ [iN f]) fun m =>
            grd (decide (0 <= w6 (w6 (ni p1 - 1) - 1)) && decide (w6 (w6 (ni p1 - 1) - 1) < ni (Int.toNat (w6 (ni p1 - 1)))) && decide (0 + Int.toNat (w6 (ni p1 - 1)) <= List.length (List.set (List.set p5 (0 + Int.toNat (w6 (ni p1 - 1))) (D.agg (List.take 1 e ++ [D.dead] ++ List.drop 2 e))) (0 + Int.toNat (w6 (w6 (ni p1 - 1) - 1))) (D.agg (List.take 1 l ++ [D.dead] ++ List.drop 2 l))))) (cT (List.set (List.set p5 (0 + Int.toNat (w6 (ni p1 - 1))) (D.agg (List.take 1 e ++ [D.dead] ++ List.drop 2 e))) (0 + Int.toNat (w6 (w6 (ni p1 - 1) - 1))) (D.agg (List.take 1 l ++ [D.dead] ++ List.drop 2 l))) (0 + Int.toNat (w6 (w6 (ni p1 - 1) - 1))) fun n =>
             asAgg n fun o => nam (List.set (List.set (List.set p5 (0 + Int.toNat (w6 (ni p1 - 1))) (D.agg (List.take 1 e ++ [D.dead] ++ List.drop 2 e))) (0 + Int.toNat (w6 (w6 (ni p1 - 1) - 1))) (D.agg (List.take 1 l ++ [D.dead] ++ List.drop 2 l))) (0 + Int.toNat (w6 (w6 (ni p1 - 1) - 1)))
 (D.agg
  (List.take 1 o ++
    [D.os
      (1,0)
      m] ++
   List.drop 2 o))) fun p =>
              y6 p0 (Int.toNat (w6 (ni p1 - 1))) (w6 (p2 + 1)) p3 p4 p g)))))))))
   (ck6 211 [(.int .u8 (bt p0 p2))] fun a => (br a
     (zX p0 p1 p2 (w6 (ni p1 - 1)) p2 p3 p4 p5 p6)
     (ck8 147 [(.agg [(.rs (5,0) p3)])] fun b => ((some ((.tup [(.agg [(.os (5,0) b)]),(.os (1,0) p4),(iN (2)),(iN p2)]),[]))))))))))
  (
  br (decide (ni p1 > 1))
  (ck8 147 [(.agg [(.rs (5,0) p3)])] fun a => ((grd (decide (0 <= w6 (ni p1 - 1)) && decide (w6 (ni p1 - 1) < ni p1) && decide (0 + p1 <= List.length p5)) (cT p5 (0 + Int.toNat (w6 (ni p1 - 1))) fun b =>
     asAgg b fun c => cT c 0 fun d =>
      asI .i64 d fun e => some ((.tup [(.agg [(.os (5,0) a)]),(.os (1,0) p4),(iN (4)),(iN e)]),[])))))
  (ck6 60 [(.agg [(.rs (5,0) p6)])] fun a => (br (!a)
    (ck8 147 [(.agg [(.rs (5,0) p3)])] fun b => ((some ((.tup [(.agg [(.os (5,0) b)]),(.os (1,0) p4),(iN (6)),(iN (0))]),[]))))
    (
    grd (decide (0 <= 0) && decide (0 < ni p1) && decide (0 + p1 <= List.length p5)) (cT p5 0 fun b =>
    asAgg b fun c => cT c 1 fun d =>
     jl (1,0) d fun e => asAgg b fun _ => grd (decide (ni (List.length ([] ++ e)) <= LIM)) (nam ([] ++ e) fun f =>
       some ((.tup [(.agg [(.os (5,0) p6)]),(.os (1,0) f),(iN (0)),(iN (ni (ByteArray.size p0)))]),[]))))))) := by
 have h := LM p0 p1 p2 p3 p4 p5 p6
 simp only [sz3,fl3] at h
 exact h
theorem zF (p0 : ByteArray) (p1 : Int) (p2 : List D) (p3 : List D) (p4 : List D) (p5 : List D) : za p0 p1 p2 p3 p4 p5 =
 br (decide (p1 < ni (ByteArray.size p0)))
  (
  grd (decide (0 <= p1) && decide (p1 < ni (ByteArray.size p0))) (br (bt p0 p1 == 32)
  (za p0 (w6 (p1 + 1)) p2 p3 p4 p5)
  (
   br (bt p0 p1 == 40)
   (grd (decide
 (ni
   (List.length
    (p4 ++
     [D.agg
       [iN p1,
        D.os
         (1,0)
         []]])) <=
  LIM)) (nam (p4 ++
 [D.agg
   [iN p1,
    D.os
     (1,0)
     []]]) fun a =>
   za p0 (w6 (p1 + 1)) p2 p3 a p5))
   (
   br (bt p0 p1 == 41)
   (
    br (w6 (ni p4.length - 1) == 0)
    (ck8 147 [(.agg [(.rs (5,0) p2)])] fun a => ((some ((.tup [(.agg [(.os (5,0) a)]),(.os (1,0) p3),(iN (5)),(iN p1)]),[]))))
    (
    grd (decide (0 <= w6 (ni p4.length - 1)) && decide (w6 (ni p4.length - 1) < ni p4.length)) (cT p4 (Int.toNat (w6 (ni p4.length - 1))) fun a =>
    asAgg a fun b => cT b 1 fun c =>
     jl (1,0) c fun d => asAgg a fun e => ck9 210 [(.op [(.os (5,0) p5)]),(.rs (1,0) d)] fun f g => ((grd (cW (List.length (List.set p4 (Int.toNat (w6 (ni p4.length - 1))) (D.agg (List.take 1 e ++ [D.dead] ++ List.drop 2 e)))) none (some (w6 (ni p4.length - 1)))) (grd (decide (0 <= w6 (w6 (ni p4.length - 1) - 1)) && decide (w6 (w6 (ni p4.length - 1) - 1) < ni (Int.toNat (w6 (ni p4.length - 1)))) && decide (0 + Int.toNat (w6 (ni p4.length - 1)) <= List.length (List.set p4 (Int.toNat (w6 (ni p4.length - 1))) (D.agg (List.take 1 e ++ [D.dead] ++ List.drop 2 e))))) (cT (List.set p4 (Int.toNat (w6 (ni p4.length - 1))) (D.agg (List.take 1 e ++ [D.dead] ++ List.drop 2 e))) (0 + Int.toNat (w6 (w6 (ni p4.length - 1) - 1))) fun h =>
          asAgg h fun i => cT i 1 fun j =>
           jl (1,0) j fun k => asAgg h fun l => grd (decide (ni (List.length (k ++ [iN f])) <= LIM)) (nam (k ++ [iN f]) fun m =>
            grd (decide (0 <= w6 (w6 (ni p4.length - 1) - 1)) && decide (w6 (w6 (ni p4.length - 1) - 1) < ni (Int.toNat (w6 (ni p4.length - 1)))) && decide (0 + Int.toNat (w6 (ni p4.length - 1)) <= List.length (List.set (List.set p4 (Int.toNat (w6 (ni p4.length - 1))) (D.agg (List.take 1 e ++ [D.dead] ++ List.drop 2 e))) (0 + Int.toNat (w6 (w6 (ni p4.length - 1) - 1))) (D.agg (List.take 1 l ++ [D.dead] ++ List.drop 2 l))))) (cT (List.set (List.set p4 (Int.toNat (w6 (ni p4.length - 1))) (D.agg (List.take 1 e ++ [D.dead] ++ List.drop 2 e))) (0 + Int.toNat (w6 (w6 (ni p4.length - 1) - 1))) (D.agg (List.take 1 l ++ [D.dead] ++ List.drop 2 l))) (0 + Int.toNat (w6 (w6 (ni p4.length - 1) - 1))) fun n =>
             asAgg n fun o => nam (List.set (List.set (List.set p4 (Int.toNat (w6 (ni p4.length - 1))) (D.agg (List.take 1 e ++ [D.dead] ++ List.drop 2 e))) (0 + Int.toNat (w6 (w6 (ni p4.length - 1) - 1))) (D.agg (List.take 1 l ++ [D.dead] ++ List.drop 2 l))) (0 + Int.toNat (w6 (w6 (ni p4.length - 1) - 1)))
 (D.agg
  (List.take 1 o ++
    [D.os
      (1,0)
      m] ++
   List.drop 2 o))) fun p =>
              y6 p0 (Int.toNat (w6 (ni p4.length - 1))) (w6 (p1 + 1)) p2 p3 p g)))))))))
   (ck6 211 [(.int .u8 (bt p0 p1))] fun a => (br a
     (Av p0 p1 (w6 (ni p4.length - 1)) p1 p2 p3 p4 p5)
     (ck8 147 [(.agg [(.rs (5,0) p2)])] fun b => ((some ((.tup [(.agg [(.os (5,0) b)]),(.os (1,0) p3),(iN (2)),(iN p1)]),[]))))))))))
  (
  br (decide (ni p4.length > 1))
  (ck8 147 [(.agg [(.rs (5,0) p2)])] fun a => ((grd (decide (0 <= w6 (ni p4.length - 1)) && decide (w6 (ni p4.length - 1) < ni p4.length)) (cT p4 (Int.toNat (w6 (ni p4.length - 1))) fun b =>
     asAgg b fun c => cT c 0 fun d =>
      asI .i64 d fun e => some ((.tup [(.agg [(.os (5,0) a)]),(.os (1,0) p3),(iN (4)),(iN e)]),[])))))
  (ck6 60 [(.agg [(.rs (5,0) p5)])] fun a => (br (!a)
    (ck8 147 [(.agg [(.rs (5,0) p2)])] fun b => ((some ((.tup [(.agg [(.os (5,0) b)]),(.os (1,0) p3),(iN (6)),(iN (0))]),[]))))
    (
    grd (decide (0 <= 0) && decide (0 < ni p4.length)) (cT p4 0 fun b =>
    asAgg b fun c => cT c 1 fun d =>
     jl (1,0) d fun e => asAgg b fun _ => grd (decide (ni (List.length ([] ++ e)) <= LIM)) (nam ([] ++ e) fun f =>
       some ((.tup [(.agg [(.os (5,0) p5)]),(.os (1,0) f),(iN (0)),(iN (ni (ByteArray.size p0)))]),[]))))))) := by
 have h := OG p0 p1 p2 p3 p4 p5
 simp only [sz3,fl3] at h
 exact h
theorem GU (p0 : ByteArray) (p1 : Int) (p2 : Int) (p3 : Int) (p4 : List D) (p5 : List D) (p6 : List D) (p7 : List D) : Av p0 p1 p2 p3 p4 p5 p6 p7 =
 br (decide (p1 < ni (ByteArray.size p0)))
  (grd (decide (0 <= p1) && decide (p1 < ni (ByteArray.size p0))) (ck6 211 [(.int .u8 (bt p0 p1))] fun a => (br a
   (Av p0 (w6 (p1 + 1)) p2 p3 p4 p5 p6 p7)
   (grd (cW (ByteArray.size p0) (some p3) (some p1)) (Pi 212 [(.str (ByteArray.extract p0 p3.toNat p1.toNat))] fun b c d e f g => (((br (!g)
            (ck8 147 [(.agg [(.rs (5,0) p4)])] fun h => ((some ((.tup [(.agg [(.os (5,0) h)]),(.os (1,0) p5),(iN (3)),(iN p3)]),[]))))
            (
            grd (decide (0 <= p2) && decide (p2 < ni p6.length)) (cT p6 p2.toNat fun h =>
            asAgg h fun i => cT i 1 fun j =>
             jl (1,0) j fun k => asAgg h fun l => ck9 158 [(.op [(.os (5,0) p7)]),(.agg [(iN b),(iN c),(.str d),(iN e),(iN f)])] fun m n => ((grd (decide (ni (List.length (k ++ [iN m])) <= LIM)) (nam (k ++ [iN m]) fun o =>
                  grd (decide (0 <= p2) && decide (p2 < ni (List.length (List.set p6 p2.toNat (D.agg (List.take 1 l ++ [D.dead] ++ List.drop 2 l)))))) (cT (List.set p6 p2.toNat (D.agg (List.take 1 l ++ [D.dead] ++ List.drop 2 l))) p2.toNat fun p =>
                  asAgg p fun q => nam (List.set (List.set p6 p2.toNat (D.agg (List.take 1 l ++ [D.dead] ++ List.drop 2 l))) p2.toNat
 (D.agg
  (List.take 1 q ++
    [D.os
      (1,0)
      o] ++
   List.drop 2 q))) fun r =>
                   za p0 p1 p4 p5 r n))))))))))))))
  (grd (cW (ByteArray.size p0) (some p3) (some p1)) (Pi 212 [(.str (ByteArray.extract p0 p3.toNat p1.toNat))] fun a b c d e f => (((br (!f)
          (ck8 147 [(.agg [(.rs (5,0) p4)])] fun g => ((some ((.tup [(.agg [(.os (5,0) g)]),(.os (1,0) p5),(iN (3)),(iN p3)]),[]))))
          (
           grd (decide (0 <= p2) && decide (p2 < ni p6.length)) (cT p6 p2.toNat fun g =>
           asAgg g fun h => cT h 1 fun i =>
            jl (1,0) i fun j => asAgg g fun k => ck9 158 [(.op [(.os (5,0) p7)]),(.agg [(iN a),(iN b),(.str c),(iN d),(iN e)])] fun l m => ((grd (decide (ni (List.length (j ++ [iN l])) <= LIM)) (nam (j ++ [iN l]) fun n =>
                grd (decide (0 <= p2) && decide (p2 < ni (List.length (List.set p6 p2.toNat (D.agg (List.take 1 k ++ [D.dead] ++ List.drop 2 k)))))) (cT (List.set p6 p2.toNat (D.agg (List.take 1 k ++ [D.dead] ++ List.drop 2 k))) p2.toNat fun o =>
                 asAgg o fun p => nam (List.set (List.set p6 p2.toNat (D.agg (List.take 1 k ++ [D.dead] ++ List.drop 2 k))) p2.toNat
 (D.agg
  (List.take 1 p ++
    [D.os
      (1,0)
      n] ++
   List.drop 2 p))) fun q =>
                  za p0 p1 p4 p5 q m))))))))))) := by
 have h := Nc p0 p1 p2 p3 p4 p5 p6 p7
 simp only [sz3,fl3] at h
 exact h
theorem Fg (p0 : ByteArray) (p1 : Nat) (p2 : Int) (p3 : Int) (p4 : Int) (p5 : List D) (p6 : List D) (p7 : List D) (p8 : List D) : zX p0 p1 p2 p3 p4 p5 p6 p7 p8 =
 br (decide (p2 < ni (ByteArray.size p0)))
  (grd (decide (0 <= p2) && decide (p2 < ni (ByteArray.size p0))) (ck6 211 [(.int .u8 (bt p0 p2))] fun a => (br a
   (zX p0 p1 (w6 (p2 + 1)) p3 p4 p5 p6 p7 p8)
   (grd (cW (ByteArray.size p0) (some p4) (some p2)) (Pi 212 [(.str (ByteArray.extract p0 p4.toNat p2.toNat))] fun b c d e f g => (((br (!g)
            (ck8 147 [(.agg [(.rs (5,0) p5)])] fun h => ((some ((.tup [(.agg [(.os (5,0) h)]),(.os (1,0) p6),(iN (3)),(iN p4)]),[]))))
            (
            grd (decide (0 <= p3) && decide (p3 < ni p1) && decide (0 + p1 <= List.length p7)) (cT p7 (0 + Int.toNat p3) fun h =>
            asAgg h fun i => cT i 1 fun j =>
             jl (1,0) j fun k => asAgg h fun l => ck9 158 [(.op [(.os (5,0) p8)]),(.agg [(iN b),(iN c),(.str d),(iN e),(iN f)])] fun m n => ((grd (decide (ni (List.length (k ++ [iN m])) <= LIM)) (nam (k ++ [iN m]) fun o =>
                  grd (decide (0 <= p3) && decide (p3 < ni p1) && decide (0 + p1 <= List.length (List.set p7 (0 + Int.toNat p3) (D.agg (List.take 1 l ++ [D.dead] ++ List.drop 2 l))))) (cT (List.set p7 (0 + Int.toNat p3) (D.agg (List.take 1 l ++ [D.dead] ++ List.drop 2 l))) (0 + Int.toNat p3) fun p =>
                  asAgg p fun q => nam (List.set (List.set p7 (0 + Int.toNat p3) (D.agg (List.take 1 l ++ [D.dead] ++ List.drop 2 l))) (0 + Int.toNat p3)
 (D.agg
  (List.take 1 q ++
    [D.os
      (1,0)
      o] ++
   List.drop 2 q))) fun r =>
                   y6 p0 p1 p2 p5 p6 r n))))))))))))))
  (grd (cW (ByteArray.size p0) (some p4) (some p2)) (Pi 212 [(.str (ByteArray.extract p0 p4.toNat p2.toNat))] fun a b c d e f => (((br (!f)
          (ck8 147 [(.agg [(.rs (5,0) p5)])] fun g => ((some ((.tup [(.agg [(.os (5,0) g)]),(.os (1,0) p6),(iN (3)),(iN p4)]),[]))))
          (
           grd (decide (0 <= p3) && decide (p3 < ni p1) && decide (0 + p1 <= List.length p7)) (cT p7 (0 + Int.toNat p3) fun g =>
           asAgg g fun h => cT h 1 fun i =>
            jl (1,0) i fun j => asAgg g fun k => ck9 158 [(.op [(.os (5,0) p8)]),(.agg [(iN a),(iN b),(.str c),(iN d),(iN e)])] fun l m => ((grd (decide (ni (List.length (j ++ [iN l])) <= LIM)) (nam (j ++ [iN l]) fun n =>
                grd (decide (0 <= p3) && decide (p3 < ni p1) && decide (0 + p1 <= List.length (List.set p7 (0 + Int.toNat p3) (D.agg (List.take 1 k ++ [D.dead] ++ List.drop 2 k))))) (cT (List.set p7 (0 + Int.toNat p3) (D.agg (List.take 1 k ++ [D.dead] ++ List.drop 2 k))) (0 + Int.toNat p3) fun o =>
                 asAgg o fun p => nam (List.set (List.set p7 (0 + Int.toNat p3) (D.agg (List.take 1 k ++ [D.dead] ++ List.drop 2 k))) (0 + Int.toNat p3)
 (D.agg
  (List.take 1 p ++
    [D.os
      (1,0)
      n] ++
   List.drop 2 p))) fun q =>
                  y6 p0 p1 p2 p5 p6 q m))))))))))) := by
 have h := Lr p0 p1 p2 p3 p4 p5 p6 p7 p8
 simp only [sz3,fl3] at h
 exact h
theorem WJ (a0_0 : List D) (a1_ : ByteArray) : V 191 [.agg [.rs (5,0) a0_0],.str a1_] =
 ck6 60 [(.agg [(.rs (5,0) a0_0)])] fun a => (br (!a)
   (some ((.tup [(.agg [(.os (5,0) [])]),(.os (1,0) []),(iN (6)),(iN (0))]),[]))
   (
   br (decide (ni (ByteArray.size a1_) > 400))
   (ck8 147 [(.agg [(.rs (5,0) a0_0)])] fun b => ((some ((.tup [(.agg [(.os (5,0) b)]),(.os (1,0) []),(iN (1)),(iN (0))]),[]))))
   (ck8 147 [(.agg [(.rs (5,0) a0_0)])] fun b => ((za a1_ (0) a0_0 [] ([D.agg
  [iN (0),
   D.os
    (1,0)
    []]]) b))))) := by
 have h := Xb a0_0 a1_
 simp only [sz3,fl3] at h
 exact h

end Go.Eng
/-! reading a text,on both sides -/
namespace Go.Eng
noncomputable section
open Go.Proofs Go.Proofs.Tryz
set_option maxHeartbeats 4000000

def AK : List Int -> List Nd -> Nat -> List Nd × Nat
 | [],q,c => (q,c)
 | x :: r,q,c => AK r (q ++ [⟨5,0,⟨#[]⟩,x,(c : Int)⟩]) q.length
def yR (q : List Nd) (row : List Int) : List Nd × Nat := AK row.reverse (q ++ [⟨1,0,⟨#[]⟩,0,0⟩]) q.length
theorem PP : ∀ (r : List Int) (q : List Nd) (c : Nat),(AK r q c).1.length = q.length + r.length
 | [],q,c => rfl
 | x :: r,q,c => by rw [AK,PP r]; simp only [lnA,lnC,lnN]; omega
theorem BU (q : List Nd) (row : List Int) : (yR q row).1.length = q.length + row.length + 1 := by
 rw [yR,PP]; simp only [lnA,lnC,lnN,List.length_reverse]; omega
theorem IE {q : List Nd} (h : z9 q) {x : Nd} (hx : x.s.size < 4611686018427387904) : z9 (q ++ [x]) := by
 intro y hy
 rcases List.mem_append.1 hy with h1 | h1
 ·exact h y h1
 ·rw [List.mem_singleton.1 h1]; exact hx
theorem NY : ∀ (r : List Int) (q : List Nd) (c : Nat),z9 q -> z9 (AK r q c).1
 | [],q,c,h => h
 | x :: r,q,c,h => NY r _ _ (IE h (x := ⟨5,0,⟨#[]⟩,x,(c : Int)⟩) (by show (0 : Nat) < _; omega))
theorem PR {q : List Nd} (h : z9 q) (row : List Int) : z9 (yR q row).1 := NY _ _ _ (IE h (x := ⟨1,0,⟨#[]⟩,0,0⟩) (by show (0 : Nat) < _; omega))
theorem Wh {row : List Int} {k : Nat} {x : Int} (hx : row[k]? = some x) : (row.take (k + 1)).reverse = x :: (row.take k).reverse := by
 rw [List.take_add_one,hx]; simp
theorem Uz {q : List Nd} (h : q.length < 4294967296) (a b : Int) : V 94 [rP q,iN a,iN b] = some (iN q.length,[rP (q ++ [⟨5,0,⟨#[]⟩,a,b⟩])]) := by
 have := Gn h ⟨5,0,⟨#[]⟩,a,b⟩
 rw [OQ,zp this]
theorem PM {row : List Int} (hr : row.length < 4294967296) : ∀ (k : Nat) (q : List Nd) (c : Nat),k <= row.length -> q.length + k < 4294967296 ->
  Bq (row.map eI) (c : Int) ((k : Int) - 1) (q.map eN) = some (iN (AK (row.take k).reverse q c).2,[rP (AK (row.take k).reverse q c).1])
 | 0,q,c,_,_ => by rw [DZ,xb (decide_eq_false (by omega))]; rfl
 | k + 1,q,c,hk,hq => by
  obtain ⟨x,hx⟩ := xx (l := row) (i := k) (by omega)
  have hp := Uz (q := q) (by omega) x c
  have ih := PM hr k (q ++ [⟨5,0,⟨#[]⟩,x,(c : Int)⟩]) q.length (by omega) (by simp only [lnA,lnC,lnN]; omega)
  have e : ((k + 1 : Nat) : Int) - 1 = (k : Int) := by omega
  rw [DZ,e,xK (decide_eq_true (by omega)),yu (by rw [lnM]; exact yx (by omega)),Int.toNat_natCast,xW hx,ye,Fk hp,w64 (by omega) (by omega),ih,Wh hx,AK]
theorem Ux {q : List Nd} {row : List Int} (h : q.length + row.length < 4294967290) : V 222 [rP q,.rs (1,0) (row.map eI)] = some (iN (yR q row).2,[rP (yR q row).1]) := by
 have ha := Gn (p := q) (by omega) ⟨1,0,⟨#[]⟩,0,0⟩
 have hl := PM (row := row) (by omega) row.length (q ++ [⟨1,0,⟨#[]⟩,0,0⟩]) q.length (Nat.le_refl _) (by simp only [lnA,lnC,lnN]; omega)
 rw [List.take_length] at hl
 rw [OL,zp ha,lnM,w64 (by simp only [ni]; omega) (by simp only [ni]; omega)]
 exact hl
theorem Qy {row : List Int} (hr : row.length < 4294967296) : ∀ (k : Nat) (q : List Nd) (c : Nat),k <= row.length -> q.length + k < 4294967296 ->
  Dn (row.map eI) (c : Int) ((k : Int) - 1) (q.map eN) = some (iN (AK (row.take k).reverse q c).2,[rP (AK (row.take k).reverse q c).1])
 | 0,q,c,_,_ => by rw [GD,xb (decide_eq_false (by omega))]; rfl
 | k + 1,q,c,hk,hq => by
  obtain ⟨x,hx⟩ := xx (l := row) (i := k) (by omega)
  have hp := zi (p := q) (by omega) ⟨5,0,⟨#[]⟩,x,(c : Int)⟩
  have ih := Qy hr k (q ++ [⟨5,0,⟨#[]⟩,x,(c : Int)⟩]) q.length (by omega) (by simp only [lnA,lnC,lnN]; omega)
  have e : ((k + 1 : Nat) : Int) - 1 = (k : Int) := by omega
  rw [GD,e,xK (decide_eq_true (by omega)),yu (by rw [lnM]; exact yx (by omega)),Int.toNat_natCast,xW hx,ye,yV hp,w64 (by omega) (by omega),ih,Wh hx,AK]
theorem Ku {q : List Nd} {row : List Int} (h : q.length + row.length < 4294967290) : V 210 [rP q,.rs (1,0) (row.map eI)] = some (iN (yR q row).2,[rP (yR q row).1]) := by
 have ha := zi (p := q) (by omega) ⟨1,0,⟨#[]⟩,0,0⟩
 have hl := Qy (row := row) (by omega) row.length (q ++ [⟨1,0,⟨#[]⟩,0,0⟩]) q.length (Nat.le_refl _) (by simp only [lnA,lnC,lnN]; omega)
 rw [List.take_length] at hl
 rw [Tg,yV ha,lnM,w64 (by simp only [ni]; omega) (by simp only [ni]; omega)]
 exact hl
abbrev RwF := Int × List Int
inductive RdR where
 | err (c a : Int)
 | ok (q : List Nd) (row : List Int)
def Ez (l : List UInt8) (j : Nat) : Nat := j + ((l.drop j).takeWhile JH).length
def Yq (l : List UInt8) (G : Nat -> List RwF -> RwF -> List Nd -> RdR) (i : Nat) (o : List RwF) (t : RwF) (q : List Nd) : Option UInt8 -> RdR
 | none => if o = [] then .ok q t.2 else .err 4 t.1
 | some x =>
   if x = 32 then G (i + 1) o t q
   else if x = 40 then G (i + 1) (t :: o) ((i : Int),[]) q
   else if x = 41 then match o with
    | [] => .err 5 (i : Int)
    | u :: o => G (i + 1) o (u.1,u.2 ++ [((yR q t.2).2 : Int)]) (yR q t.2).1
   else if JH x = true then match Ff ((l.drop i).take (Ez l i - i)) with
    | none => .err 3 (i : Int)
    | some nd => G (Ez l i) o (t.1,t.2 ++ [(q.length : Int)]) (q ++ [nd])
   else .err 2 (i : Int)
def Ci (l : List UInt8) : Nat -> Nat -> List RwF -> RwF -> List Nd -> RdR
 | 0,_,_,_,_ => .err 1 0
 | k + 1,i,o,t,q => Yq l (Ci l k) i o t q l[i]?
theorem MO (l : List UInt8) (G : Nat -> List RwF -> RwF -> List Nd -> RdR) (i : Nat) (o : List RwF) (t : RwF) (q : List Nd) : Yq l G i o t q none = if o = [] then .ok q t.2 else .err 4 t.1 := rfl
theorem KF (l : List UInt8) (G : Nat -> List RwF -> RwF -> List Nd -> RdR) (i : Nat) (o : List RwF) (t : RwF) (q : List Nd) (x : UInt8) : Yq l G i o t q (some x) = (if x = 32 then G (i + 1) o t q
   else if x = 40 then G (i + 1) (t :: o) ((i : Int),[]) q
   else if x = 41 then match o with
    | [] => .err 5 (i : Int)
    | u :: o => G (i + 1) o (u.1,u.2 ++ [((yR q t.2).2 : Int)]) (yR q t.2).1
   else if JH x = true then match Ff ((l.drop i).take (Ez l i - i)) with
    | none => .err 3 (i : Int)
    | some nd => G (Ez l i) o (t.1,t.2 ++ [(q.length : Int)]) (q ++ [nd])
   else .err 2 (i : Int)) := rfl
theorem IV (l : List UInt8) (k i : Nat) (o : List RwF) (t : RwF) (q : List Nd) : Ci l (k + 1) i o t q = Yq l (Ci l k) i o t q l[i]? := rfl
theorem Kw {l : List UInt8} {j : Nat} {x : UInt8} (hx : l[j]? = some x) (h : JH x = true) : Ez l j = Ez l (j + 1) := by
 unfold Ez; rw [tU hx,List.takeWhile_cons,if_pos h]; simp only [lnC]; omega
theorem Sj {l : List UInt8} {j : Nat} {x : UInt8} (hx : l[j]? = some x) (h : JH x = false) : Ez l j = j := by
 unfold Ez; rw [tU hx,List.takeWhile_cons,if_neg (by rw [h]; simp)]; rfl
theorem WG {l : List UInt8} {j : Nat} (h : l.length <= j) : Ez l j = j := by
 unfold Ez; rw [List.drop_of_length_le h]; rfl
theorem UB {l : List UInt8} {j : Nat} (h : j <= l.length) : j <= Ez l j /\ Ez l j <= l.length := by
 unfold Ez
 have := (List.takeWhile_sublist (p := JH) (l := l.drop j)).length_le
 rw [List.length_drop] at this
 omega
def phi (o : List RwF) (t : RwF) (q : List Nd) : Nat := q.length + t.2.length + (o.map fun x => x.2.length).sum
theorem LJ {l : List UInt8} {x : Nd} (h : Ff l = some x) : x.s.size <= l.length := by
 unfold Ff Yn at h
 split at h
 ·cases h; exact Nat.zero_le _
 split at h
 ·cases h; exact Nat.zero_le _
 split at h
 ·cases h; exact Nat.zero_le _
 split at h
 ·cases h; exact Nat.le_of_eq (yO _)
 ·cases h
theorem AY {A B : List D} {x : D} (K : D -> Option Ret) : cT (A ++ x :: B) A.length K = K x := by simp [cT]
theorem BV {A B : List D} {x v : D} : (A ++ x :: B).set A.length v = A ++ v :: B := by simp
theorem Vu {l : List D} (h : l.length <= 4294967296) : decide (ni l.length <= LIM) = true := decide_eq_true (by rw [pE]; simp only [ni]; omega)
theorem EH {x : UInt8} (c : UInt8) (n : Int) (hn : (c.toNat : Int) = n) (h : ¬ x = c) : ((x.toNat : Int) == n) = false := by
 subst hn
 simp only [beq_eq_false_iff_ne,ne_eq]
 intro e
 exact h (UInt8.toNat_inj.1 (by omega))
end
end Go.Eng
/-! a step of a machine,plain -/
namespace Go.Eng
noncomputable section

abbrev ndN : Nd := ⟨1,0,⟨#[]⟩,0,0⟩
abbrev ndI (n : Int) : Nd := ⟨3,n,⟨#[]⟩,0,0⟩
abbrev ndP (a b : Int) : Nd := ⟨5,0,⟨#[]⟩,a,b⟩
abbrev ndF (n a : Int) : Nd := ⟨6,n,⟨#[]⟩,a,0⟩
abbrev ndK (a : Int) : Nd := ⟨7,0,⟨#[]⟩,a,0⟩
abbrev ndR (n : Int) : Nd := ⟨8,n,⟨#[]⟩,0,0⟩
def ndB (b : Bool) : Nd := match b with | true => ⟨2,1,⟨#[]⟩,0,0⟩ | false => ⟨2,0,⟨#[]⟩,0,0⟩
def nod (p : List Nd) (v : Int) : Nd := p.getD v.toNat ndN
abbrev InP (p : List Nd) (v : Int) : Prop := 0 <= v /\ v < (p.length : Int)

def prNames : List (List UInt8) := [[43],[45],[42],[60],[61],[99,111,110,115],[99,97,114],[99,100,114],[110,117,108,108,63],[112,97,105,114,63],[101,113,63],[110,111,116],[112,114,105,110,116],[115,101,108,102],[115,101,110,100],[114,101,99,118],[115,112,97,119,110],[99,97,108,108,99,99],[103,111]]
def Ch (s : ByteArray) : Int := ya (fun x => kc s (mk x)) prNames + 1
def prArgs : List Int := [2,2,2,2,2,2,1,1,1,1,2,1,1,0,2,0,1,1,1]
def y1 (n : Int) : Int := if wi n 1 19 = true then prArgs.getD (n - 1).toNat 0 else -1

def AV (out : List Int) (x : Nd) : Nd :=
 if x.kind = 5 then ⟨x.kind,x.n,x.s,out.getD x.a.toNat 0,out.getD x.b.toNat 0⟩
 else if x.kind = 6 \/ x.kind = 7 then ⟨x.kind,x.n,x.s,out.getD x.a.toNat 0,x.b⟩ else x
def EF (x y : Nd) : Bool := (x.kind == y.kind) && ((x.n == y.n) && (kc x.s y.s && ((x.a == y.a) && (x.b == y.b))))
def Sr : List Nd -> List Int -> List Nd -> List Int × List Nd
 | [],out,keys => (out,keys)
 | x :: r,out,keys => Sr r (out ++ [match keys.findIdx? (fun y => EF y (AV out x)) with | some k => (k : Int) | none => (out.length : Int)]) (keys ++ [AV out x])
def YE (p : List Nd) : List Int := (Sr p [] []).1
def Yu (p : List Nd) (a b : Int) : Bool := (YE p).getD a.toNat 0 == (YE p).getD b.toNat 0

def JE (p : List Nd) (n : Int) (l : List Int) : Except Int (List Nd × Int) :=
 let x := nod p (l.getD 0 0); let y := nod p (l.getD 1 0)
 if n <= 5 then
  if x.kind = 3 /\ y.kind = 3 then
   let z := if n = 1 then ndI (x.n + y.n) else if n = 2 then ndI (x.n - y.n) else if n = 3 then ndI (x.n * y.n) else if n = 4 then ndB (decide (x.n < y.n)) else ndB (x.n == y.n)
   if wi z.n (-1000000000) 1000000000 = true then .ok (p ++ [z],p.length) else .error 4
  else .error 3
 else if n = 6 then .ok (p ++ [ndP (l.getD 0 0) (l.getD 1 0)],p.length)
 else if n = 7 \/ n = 8 then
  if x.kind = 5 then .ok (p,if n = 7 then x.a else x.b) else .error 3
 else if n = 9 then .ok (p ++ [ndB (x.kind == 1)],p.length)
 else if n = 10 then .ok (p ++ [ndB (x.kind == 5)],p.length)
 else if n = 11 then .ok (p ++ [ndB (Yu p (l.getD 0 0) (l.getD 1 0))],p.length)
 else .ok (p ++ [ndB (x.kind == 2 && x.n == 0)],p.length)

def LI (m : Mc) (v : Int) : Mc := ⟨m.pool ++ [ndP v m.s],m.at',m.pool.length,m.e,m.d,m.state,m.ask,m.arg⟩
def CG (m : Mc) : Option (Int × Mc) := if (nod m.pool m.s).kind = 5 then some ((nod m.pool m.s).a,⟨m.pool,m.at',(nod m.pool m.s).b,m.e,m.d,m.state,m.ask,m.arg⟩) else none
def Dw : Nat -> Mc -> Option (List Int × Mc)
 | 0,m => some ([],m)
 | k + 1,m => match CG m with
  | none => none
  | some (v,m') => match Dw k m' with
   | none => none
   | some (l,m'') => some (v :: l,m'')
def JM (p : List Nd) : Nat -> Int -> Option Int
 | 0,v => if (nod p v).kind = 5 then some (nod p v).a else none
 | k + 1,v => if (nod p v).kind = 5 then JM p k (nod p v).b else none
def IJ (p : List Nd) : Nat -> Int -> List Int × Bool
 | 0,_ => ([],false)
 | k + 1,v => if (nod p v).kind = 5 then ((nod p v).a :: (IJ p k (nod p v).b).1,(IJ p k (nod p v).b).2) else ([],(nod p v).kind == 1)
def zR (p : List Nd) (v : Int) : List Int × Bool := IJ p (v.toNat + 1) v
def zP (c : Cd) (n : Int) : Bool := wi n 0 ((c.list.length : Int) - 1)
def Jj (c : Cd) (p : List Nd) (v : Int) (many : Nat) : Option (Int × List Int) := match zR p v with
 | (a :: r,true) => if r.length + 1 = many /\ (nod p a).kind = 3 /\ zP c (nod p a).n = true then some ((nod p a).n,r) else none
 | _ => none

def WD (m : Mc) (o i : Int) : Except Int Mc := match JM m.pool o.toNat m.e with
 | none => .error 7
 | some fr => match JM m.pool i.toNat fr with
  | none => .error 7
  | some v => .ok (LI m v)
def JU (c : Cd) (m : Mc) (s : ByteArray) : Except Int Mc :=
 if 0 <= CW c s then
  let d := c.defs.getD (CW c s).toNat ⟨⟨#[]⟩,0,0⟩
  .ok (LI ⟨m.pool ++ [ndN] ++ [ndF (8 * d.at' + d.args) m.pool.length],m.at',m.s,m.e,m.d,m.state,m.ask,m.arg⟩ (m.pool.length + 1))
 else if Ch s = 0 then .error 1
 else .ok (LI ⟨m.pool ++ [ndR (Ch s)],m.at',m.s,m.e,m.d,m.state,m.ask,m.arg⟩ m.pool.length)
def Jg (c : Cd) (m : Mc) (f : Nd) (l : List Int) : Except Int Mc :=
 if f.n % 8 ≠ (l.length : Int) then .error 2
 else if zP c (f.n / 8) = false then .error 7
 else
  let b := yR (m.pool ++ [ndI (m.at' + 1)]) [(m.pool.length : Int),m.s,m.e]
  let v := yR (b.1 ++ [ndP b.2 m.d]) l
  .ok ⟨v.1 ++ [ndP v.2 f.a] ++ [ndN],f.n / 8,((v.1.length : Int) + 1),v.1.length,b.1.length,m.state,m.ask,m.arg⟩
def Um (c : Cd) (m : Mc) (st : Int) (l : List Int) : Except Int Mc :=
 if l.length ≠ 1 then .error 2
 else match Jj c m.pool st 4 with
  | some (n,[s,e,d]) => .ok (LI ⟨m.pool,n,s,e,d,m.state,m.ask,m.arg⟩ (l.getD 0 0))
  | _ => .error 7
def CU (c : Cd) : Nat -> Mc -> Int -> List Int -> Except Int Mc
 | 0,_,_,_ => .error 0
 | k + 1,m,f,l =>
  let x := nod m.pool f
  if x.kind = 6 then Jg c m x l
  else if x.kind = 8 then
   if y1 x.n ≠ (l.length : Int) then .error 2
   else if x.n = 18 then
    let st := yR (m.pool ++ [ndI (m.at' + 1)]) [(m.pool.length : Int),m.s,m.e,m.d]
    CU c k ⟨st.1 ++ [ndK st.2],m.at',m.s,m.e,m.d,m.state,m.ask,m.arg⟩ (l.getD 0 0) [(st.1.length : Int)]
   else if x.n > 12 then
    let r := yR m.pool l
    .ok ⟨r.1,m.at',m.s,m.e,m.d,1,x.n,r.2⟩
   else match JE m.pool x.n l with
    | .error h => .error (h + 1)
    | .ok (p,v) => .ok ⟨p ++ [ndP v m.s],m.at' + 1,p.length,m.e,m.d,m.state,m.ask,m.arg⟩
  else if x.kind = 7 then Um c m x.a l
  else .error 3
def Bh (c : Cd) (m : Mc) (many : Nat) : Except Int Mc :=
 if zP c (m.at' + 1) = false then .error 7
 else match Dw (many + 1) m with
  | none => .error 7
  | some (l,m') => CU c 3 m' (l.reverse.getD 0 0) (l.reverse.drop 1)
def Jz (c : Cd) (m : Mc) : Except Int Mc := match CG m with
 | none => .error 7
 | some (v,m1) =>
  let d := nod m1.pool m1.d
  if d.kind = 1 then .ok ⟨m1.pool,0,m1.s,m1.e,m1.d,2,m1.ask,v⟩
  else if d.kind ≠ 5 then .error 7
  else match Jj c m1.pool d.a 3 with
   | some (n,[s,e]) => .ok (LI ⟨m1.pool,n,s,e,d.b,m1.state,m1.ask,m1.arg⟩ v)
   | _ => .error 7
def z3 (d : Int) (q : List Nd) (v : Int) (acc : List Nd) : List Nd × Int := ((AP d q [v] acc).2,(AP d q [v] acc).1.getD v.toNat 0)
def ab2 (c : Cd) (m : Mc) (v : Int) : Mc := LI ⟨(z3 (-1) c.pool v m.pool).1,m.at',m.s,m.e,m.d,m.state,m.ask,m.arg⟩ (z3 (-1) c.pool v m.pool).2
def goM (c : Cd) (r : Except Int Mc) (next : Int) : Except Int Mc := match r with
 | .error h => .error h
 | .ok m => if zP c next = true then .ok ⟨m.pool,next,m.s,m.e,m.d,m.state,m.ask,m.arg⟩ else .error 7
def Gh (c : Cd) (m : Mc) (x : In) : Except Int Mc :=
 if x.op = 1 then goM c (.ok (ab2 c m x.n)) (m.at' + 1)
 else if x.op = 2 then goM c (WD m x.n x.i) (m.at' + 1)
 else if x.op = 3 then goM c (JU c m x.s) (m.at' + 1)
 else if x.op = 5 then goM c (.ok m) x.n
 else if x.op = 6 then goM c (.ok (LI ⟨m.pool ++ [ndF (8 * x.n + x.i) m.e],m.at',m.s,m.e,m.d,m.state,m.ask,m.arg⟩ m.pool.length)) (m.at' + 1)
 else match CG m with
  | none => .error 7
  | some (v,m1) => goM c (.ok m1) (if x.op = 4 /\ (nod m1.pool v).kind = 2 /\ (nod m1.pool v).n = 0 then x.n else m.at' + 1)
def NW (m : Mc) (h : Int) : Mc := ⟨m.pool,0,m.s,m.e,m.d,3,h,0⟩
def doM (c : Cd) (m : Mc) : Except Int Mc :=
 let x := c.list.getD m.at'.toNat ⟨0,0,0,⟨#[]⟩⟩
 if x.op = 7 then Bh c m x.i.toNat else if x.op = 8 then Jz c m else Gh c m x
def Az (c : Cd) (m : Mc) : Mc := match doM c m with
 | .error h => NW m h
 | .ok m' => if m'.pool.length <= 3000 then m' else NW m 6
def WH : Mc := ⟨[],0,0,0,0,3,7,0⟩
def MW (c : Cd) (m : Mc) : Mc := if Bm c m = true then (if m.state = 0 then Az c m else m) else WH
def zn (m : Mc) : Mc := if m.pool.length <= 2000 then m else Qz m
def zl (c : Cd) : Nat -> Mc -> Mc × Nat
 | 0,m => (m,0)
 | k + 1,m => if m.state = 0 then ((zl c k (zn (Az c m))).1,(zl c k (zn (Az c m))).2 + 1) else (m,0)
def Wd (c : Cd) (m : Mc) (steps : Int) : Mc × Nat := if Bm c m = true then zl c (mnI steps 2000).toNat m else (WH,0)
end
end Go.Eng
/-! reading a text: the spec -/
namespace Go.Eng
noncomputable section
open Go.Proofs Go.Proofs.Tryz
set_option maxHeartbeats 4000000

theorem Uv {p : List Nd} (hl : p.length <= 4294967296) : V 147 [eP p] = some (oP p,[]) := by
 rw [Mh,List.nil_append]
 simp (disch := first | omega | (simp only [lnA,lnC,lnN,lnM,yO,wY]; omega)) only [↓xP,↓yA,yJ,lnM,pE,wY]

abbrev eO (x : RwF) : D := .agg [iN x.1,.os (1,0) (x.2.map eI)]
theorem DQ (t : RwF) (K : List D -> List D -> Option Ret) : (asAgg (eO t) fun l => cT l 1 fun y => jl (1,0) y fun r => asAgg (eO t) fun l2 => K r l2) = K (t.2.map eI) [iN t.1,.os (1,0) (t.2.map eI)] := rfl
theorem aaM (t : RwF) (K : Int -> Option Ret) : (asAgg (eO t) fun l => cT l 0 fun y => asI .i64 y fun r => K r) = K t.1 := rfl
theorem tdd (a b : D) : List.take 1 [a,b] ++ [D.dead] ++ List.drop 2 [a,b] = [a,.dead] := rfl
theorem tds (a b c : D) : List.take 1 [a,b] ++ [c] ++ List.drop 2 [a,b] = [a,c] := rfl
theorem abk (A J : List D) (x : D) : part (A ++ x :: J) (some (0,A.length + 1)) = A ++ [x] := by
 simp only [part,List.drop_zero]
 rw [show A ++ x :: J = (A ++ [x]) ++ J by simp,List.take_left' (by simp)]
def SR (P : List D) (n : Nat) (r : RdR) : Option Ret := match r with
 | .err c a => some (.tup [.agg [.os (5,0) P],.os (1,0) [],iN c,iN a],[])
 | .ok q row => if yU q = true then some (.tup [.agg [.os (5,0) (q.map eN)],.os (1,0) (row.map eI),iN 0,iN (n : Int)],[]) else some (.tup [.agg [.os (5,0) P],.os (1,0) [],iN 6,iN 0],[])
def Sk (r : Option Nd) (p : List Nd) (i : Nat) (X : Nd -> Option Ret) : Option Ret := match r with
 | none => some (.tup [.agg [.os (5,0) (p.map eN)],.os (1,0) [],iN 3,iN (i : Int)],[])
 | some nd => X nd
theorem aaN {l : List UInt8} (hl : l.length < 1000000000) {i : Nat} {p q : List Nd} {A : List D} {t : RwF} (hp : p.length < 4294967290) (hq : q.length < 4294967290) (hA : A.length < 4294967290) (ht : t.2.length < 4294967290) : ∀ (m j : Nat),j + m = l.length -> i <= j ->
  Av (mk l) (j : Int) (A.length : Int) (i : Int) (p.map eN) [] (A ++ [eO t]) (q.map eN) = Sk (Ff ((l.drop i).take (Ez l j - i))) p i fun nd => za (mk l) (Ez l j : Nat) (p.map eN) [] (A ++ [eO (t.1,t.2 ++ [(q.length : Int)])]) ((q ++ [nd]).map eN)
 | m,j,hm,hij => by
  have hcut : cW l.length (some (i : Int)) (some (j : Int)) = true := by unfold cW; simp; omega
  obtain ⟨x,b,h1,h2⟩ := Ws (l := (l.drop i).take (j - i)) (by simp only [List.length_take,List.length_drop]; omega)
  have ha := zi (p := q) (by omega) x
  have hc := Uv (p := p) (by omega)
  have hin : ∀ x : D,(decide (0 <= (A.length : Int)) && decide ((A.length : Int) < ni (A ++ [x]).length)) = true := fun x => yx (by simp)
  have hlim : decide (ni (t.2.map eI ++ [iN (q.length : Int)]).length <= LIM) = true := Vu (by simp only [lnA,lnM,lnC,lnN]; omega)
  have hrow : (t.2 ++ [(q.length : Int)]).map eI = t.2.map eI ++ [iN (q.length : Int)] := by simp
  match m with
  | 0 =>
   rw [GU,yO,xb (yr (by omega)),yu hcut,Int.toNat_natCast,Int.toNat_natCast,FX,GN h1,WG (by omega)]
   cases hw : Ff ((l.drop i).take (j - i)) with
   | none =>
    rw [hw] at h2
    have h2 : b = false := h2
    rw [h2,Bool.not_false,yk,zj hc]; rfl
   | some nd =>
    rw [hw] at h2
    obtain ⟨rfl,rfl⟩ : x = nd /\ b = true := h2
    rw [Bool.not_true,xJ,yu (hin _),Int.toNat_natCast,AY,DQ,yV ha,yu hlim,yA,BV,tdd,yu (hin _),AY,xu,BV,tds,yA,Sk,eO,hrow]
  | m + 1 =>
   obtain ⟨y,hy⟩ := xx (l := l) (i := j) (by omega)
   have hb := Rq hy
   have hwb := Jv y
   rw [GU,yO,xK (yz (by omega)),yu (yx (by omega)),hb,Al hwb]
   cases hwu : JH y with
   | true =>
    have ih := aaN hl hp hq hA ht (A := A) (i := i) m (j + 1) (by omega) (by omega)
    rw [yk,yM (by omega),ih,Kw hy hwu]
   | false =>
    rw [xJ,yu hcut,Int.toNat_natCast,Int.toNat_natCast,FX,GN h1,Sj hy hwu]
    cases hw : Ff ((l.drop i).take (j - i)) with
    | none =>
     rw [hw] at h2
     have h2 : b = false := h2
     rw [h2,Bool.not_false,yk,zj hc]; rfl
    | some nd =>
     rw [hw] at h2
     obtain ⟨rfl,rfl⟩ : x = nd /\ b = true := h2
     rw [Bool.not_true,xJ,yu (hin _),Int.toNat_natCast,AY,DQ,yV ha,yu hlim,yA,BV,tdd,yu (hin _),AY,xu,BV,tds,yA,Sk,eO,hrow]
theorem TU {A J : List D} {x : D} : (decide (0 <= (A.length : Int)) && decide ((A.length : Int) < ni (A.length + 1)) && decide (0 + (A.length + 1) <= (A ++ x :: J).length)) = true := by
 simp only [ni,Bool.and_eq_true,decide_eq_true_eq,lnA,lnC]; omega
theorem ZX {l : List UInt8} (hl : l.length < 1000000000) {i : Nat} {p q : List Nd} {A J : List D} {t : RwF} (hp : p.length < 4294967290) (hq : q.length < 4294967290) (hA : A.length < 4294967290) (ht : t.2.length < 4294967290) : ∀ (m j : Nat),j + m = l.length -> i <= j ->
  zX (mk l) (A.length + 1) (j : Int) (A.length : Int) (i : Int) (p.map eN) [] (A ++ eO t :: J) (q.map eN) = Sk (Ff ((l.drop i).take (Ez l j - i))) p i fun nd => y6 (mk l) (A.length + 1) (Ez l j : Nat) (p.map eN) [] (A ++ eO (t.1,t.2 ++ [(q.length : Int)]) :: J) ((q ++ [nd]).map eN)
 | m,j,hm,hij => by
  have hcut : cW l.length (some (i : Int)) (some (j : Int)) = true := by unfold cW; simp; omega
  obtain ⟨x,b,h1,h2⟩ := Ws (l := (l.drop i).take (j - i)) (by simp only [List.length_take,List.length_drop]; omega)
  have ha := zi (p := q) (by omega) x
  have hc := Uv (p := p) (by omega)
  have hlim : decide (ni (t.2.map eI ++ [iN (q.length : Int)]).length <= LIM) = true := Vu (by simp only [lnA,lnM,lnC,lnN]; omega)
  have hrow : (t.2 ++ [(q.length : Int)]).map eI = t.2.map eI ++ [iN (q.length : Int)] := by simp
  match m with
  | 0 =>
   rw [Fg,yO,xb (yr (by omega)),yu hcut,Int.toNat_natCast,Int.toNat_natCast,FX,GN h1,WG (by omega)]
   cases hw : Ff ((l.drop i).take (j - i)) with
   | none =>
    rw [hw] at h2
    have h2 : b = false := h2
    rw [h2,Bool.not_false,yk,zj hc]; rfl
   | some nd =>
    rw [hw] at h2
    obtain ⟨rfl,rfl⟩ : x = nd /\ b = true := h2
    rw [Bool.not_true,xJ,yu TU,Int.toNat_natCast,Nat.zero_add,AY,DQ,yV ha,yu hlim,yA,BV,tdd,yu TU,AY,xu,BV,tds,yA,Sk,eO,hrow]
  | m + 1 =>
   obtain ⟨y,hy⟩ := xx (l := l) (i := j) (by omega)
   have hb := Rq hy
   have hwb := Jv y
   rw [Fg,yO,xK (yz (by omega)),yu (yx (by omega)),hb,Al hwb]
   cases hwu : JH y with
   | true =>
    have ih := ZX hl hp hq hA ht (A := A) (J := J) (i := i) m (j + 1) (by omega) (by omega)
    rw [yk,yM (by omega),ih,Kw hy hwu]
   | false =>
    rw [xJ,yu hcut,Int.toNat_natCast,Int.toNat_natCast,FX,GN h1,Sj hy hwu]
    cases hw : Ff ((l.drop i).take (j - i)) with
    | none =>
     rw [hw] at h2
     have h2 : b = false := h2
     rw [h2,Bool.not_false,yk,zj hc]; rfl
    | some nd =>
     rw [hw] at h2
     obtain ⟨rfl,rfl⟩ : x = nd /\ b = true := h2
     rw [Bool.not_true,xJ,yu TU,Int.toNat_natCast,Nat.zero_add,AY,DQ,yV ha,yu hlim,yA,BV,tdd,yu TU,AY,xu,BV,tds,yA,Sk,eO,hrow]
theorem abl {A J : List D} {x y v : D} : ((A ++ [x]) ++ y :: J).set (A.length + 1) v = A ++ x :: v :: J := by
 have := BV (A := A ++ [x]) (B := J) (x := y) (v := v)
 rw [lnA,List.length_singleton] at this
 rw [this,List.append_assoc]; rfl
theorem abi {A J : List D} {x y : D} (K : D -> Option Ret) : cT ((A ++ [x]) ++ y :: J) (A.length + 1) K = K y := by
 have := AY (A := A ++ [x]) (B := J) (x := y) K
 rw [lnA,List.length_singleton] at this
 exact this
theorem aaf {n : Nat} (h : n < 4611686018427387904) : w6 (((n + 1 : Nat) : Int) - 1) = (n : Int) := by
 rw [w64 (by omega) (by omega)]; omega
theorem Zm (P : List D) (n : Nat) (q : List Nd) (row : List Int) : SR P n (.ok q row) = if yU q = true then some (.tup [.agg [.os (5,0) (q.map eN)],.os (1,0) (row.map eI),iN 0,iN (n : Int)],[]) else some (.tup [.agg [.os (5,0) P],.os (1,0) [],iN 6,iN 0],[]) := rfl
theorem R9 {l : List UInt8} (hl : l.length < 1000000000) {p : List Nd} (hp : p.length < 4294967290) : ∀ (k i : Nat) (o : List RwF) (t : RwF) (q : List Nd),l.length < i + k -> i <= l.length -> phi o t q + 2 * (l.length - i) < 4000000000 -> o.length + (l.length - i) < 4000000000 -> z9 q ->
  za (mk l) (i : Int) (p.map eN) [] (o.reverse.map eO ++ [eO t]) (q.map eN) = SR (p.map eN) l.length (Ci l k i o t q) /\
  ∀ J,y6 (mk l) (o.length + 1) (i : Int) (p.map eN) [] (o.reverse.map eO ++ eO t :: J) (q.map eN) = SR (p.map eN) l.length (Ci l k i o t q)
 | 0,i,o,t,q,h1,h2,_,_,_ => by omega
 | k + 1,i,o,t,q,h1,h2,h3,h4,hf => by
  have hph : phi o t q = q.length + t.2.length + (o.map fun x => x.2.length).sum := rfl
  have hc := Uv (p := p) (by omega)
  have hAl : (o.reverse.map eO).length = o.length := by rw [lnM,List.length_reverse]
  have hn1 : (o.reverse.map eO ++ [eO t]).length = o.length + 1 := by rw [lnA,hAl]; rfl
  have hw1 : w6 (ni (o.length + 1) - 1) = ((o.reverse.map eO).length : Int) := by rw [hAl]; exact aaf (by omega)
  have hin : ∀ J,(decide (0 <= ((o.reverse.map eO).length : Int)) && decide (((o.reverse.map eO).length : Int) < ni (o.length + 1)) && decide (0 + (o.length + 1) <= (o.reverse.map eO ++ eO t :: J).length)) = true := fun J => by
   rw [<- hAl]; exact TU
  rw [IV]
  by_cases hi : i = l.length
  ·have hx : l[i]? = none := List.getElem?_eq_none (by omega)
   have hok := z8 hf (by omega)
   rw [hx,MO]
   cases o with
   | nil =>
    have hlim : decide (ni ([] ++ t.2.map eI).length <= LIM) = true := Vu (by rw [List.nil_append,lnM]; omega)
    rw [if_pos rfl]
    constructor
    ·rw [zF,yO,xb (yr (by omega)),xb (by rfl),Bz hok]
     rw [Zm]
     cases hq : yU q with
     | false => rw [Bool.not_false,yk,zj hc,if_neg (by simp)]
     | true => rw [Bool.not_true,xJ,yu (by rfl),if_pos rfl,show ∀ K : D -> Option Ret,cT (([] : List RwF).reverse.map eO ++ [eO t]) 0 K = K (eO t) from fun K => rfl,DQ,yu hlim,yA,List.nil_append]
    ·intro J
     rw [zq,yO,xb (yr (by omega)),xb (by rfl),Bz hok]
     rw [Zm]
     cases hq : yU q with
     | false => rw [Bool.not_false,yk,zj hc,if_neg (by simp)]
     | true => rw [Bool.not_true,xJ,yu (by simp [ni]),if_pos rfl,show ∀ K : D -> Option Ret,cT (([] : List RwF).reverse.map eO ++ eO t :: J) 0 K = K (eO t) from fun K => rfl,DQ,yu hlim,yA,List.nil_append]
   | cons u o =>
    rw [if_neg (by simp)]
    constructor
    ·rw [zF,yO,xb (yr (by omega)),hn1,xK (decide_eq_true (by simp only [ni,lnC]; omega)),zj hc,hw1,yu (by rw [hAl]; exact yx (by omega)),Int.toNat_natCast,AY,aaM]; rfl
    ·intro J
     rw [zq,yO,xb (yr (by omega)),xK (decide_eq_true (by simp only [ni,lnC]; omega)),zj hc,hw1,yu (hin J),Int.toNat_natCast,Nat.zero_add,AY,aaM]; rfl
  obtain ⟨x,hx⟩ := xx (l := l) (i := i) (by omega)
  have hb := Rq hx
  rw [hx,KF]
  by_cases h32 : x = 32
  ·subst h32
   have ih := R9 hl hp k (i + 1) o t q (by omega) (by omega) (by omega) (by omega) hf
   rw [if_pos rfl]
   constructor
   ·rw [zF,yO,xK (yz (by omega)),yu (yx (by omega)),hb,xK (by rfl),yM (by omega)]
    exact ih.1
   ·intro J
    rw [zq,yO,xK (yz (by omega)),yu (yx (by omega)),hb,xK (by rfl),yM (by omega)]
    exact ih.2 J
  rw [if_neg h32]
  by_cases h40 : x = 40
  ·subst h40
   have hlo : decide (ni (o.reverse.map eO ++ [eO t] ++ [D.agg [iN (i : Int),.os (1,0) []]]).length <= LIM) = true := Vu (by rw [lnA,hn1]; simp only [lnC,lnN]; omega)
   have ih := (R9 hl hp k (i + 1) (t :: o) ((i : Int),[]) q (by omega) (by omega) (by simp only [phi,List.map_cons,List.sum_cons,lnN]; omega) (by simp only [lnC]; omega) hf).1
   rw [show (t :: o).reverse.map eO = o.reverse.map eO ++ [eO t] by simp] at ih
   rw [if_pos rfl]
   constructor
   ·rw [zF,yO,xK (yz (by omega)),yu (yx (by omega)),hb,xb (by rfl),xK (by rfl),yu hlo,yA,yM (by omega)]
    exact ih
   ·intro J
    have hpt := abk (o.reverse.map eO) J (eO t)
    rw [hAl] at hpt
    rw [zq,yO,xK (yz (by omega)),yu (yx (by omega)),hb,xb (by rfl),xK (by rfl),hpt,yu hlo,yA,yM (by omega)]
    exact ih
  rw [if_neg h40]
  by_cases h41 : x = 41
  ·subst h41
   rw [if_pos rfl]
   cases o with
   | nil =>
    constructor
    ·rw [zF,yO,xK (yz (by omega)),yu (yx (by omega)),hb,xb (by rfl),xb (by rfl),xK (by rfl),hn1,hw1,xK (by rfl),zj hc]; rfl
    ·intro J
     rw [zq,yO,xK (yz (by omega)),yu (yx (by omega)),hb,xb (by rfl),xb (by rfl),xK (by rfl),hw1,xK (by rfl),zj hc]; rfl
   | cons u o =>
    simp only [List.map_cons,List.sum_cons] at hph
    simp only [lnC] at h4
    have hll := Ku (q := q) (row := t.2) (by omega)
    have ih := (R9 hl hp k (i + 1) o (u.1,u.2 ++ [((yR q t.2).2 : Int)]) (yR q t.2).1 (by omega) (by omega) (by simp only [phi,BU,lnA,lnC,lnN]; omega) (by omega) (PR hf _)).2
    obtain ⟨O,hO⟩ : ∃ O,O = o.reverse.map eO := ⟨_,rfl⟩
    have hA : O.length = o.length := by rw [hO,lnM,List.length_reverse]
    have hrev : (u :: o).reverse.map eO = O ++ [eO u] := by rw [hO]; simp
    have hlim : decide (ni (u.2.map eI ++ [iN ((yR q t.2).2 : Int)]).length <= LIM) = true := Vu (by simp only [lnA,lnM,lnC,lnN]; omega)
    have hrow : (u.2 ++ [((yR q t.2).2 : Int)]).map eI = u.2.map eI ++ [iN ((yR q t.2).2 : Int)] := by simp
    have hl2 : (u :: o).length = O.length + 1 := by rw [hA]; rfl
    have hn2 : (O ++ [eO u] ++ [eO t]).length = O.length + 1 + 1 := by simp
    have hw2 : w6 (ni (O.length + 1 + 1) - 1) = ((O.length + 1 : Nat) : Int) := aaf (by omega)
    have hw3 : w6 (((O.length + 1 : Nat) : Int) - 1) = (O.length : Int) := aaf (by omega)
    have hne : (((O.length + 1 : Nat) : Int) == 0) = false := by simp only [beq_eq_false_iff_ne,ne_eq]; omega
    rw [<- hA,<- hO] at ih
    rw [hrev,hl2]
    constructor
    ·rw [zF,yO,xK (yz (by omega)),yu (yx (by omega)),hb,xb (by rfl),xb (by rfl),xK (by rfl),hn2,hw2,xb hne,yu (yx (by omega)),Int.toNat_natCast,abi,DQ,C9 hll,tdd,abl,hw3,Int.toNat_natCast,Nat.zero_add O.length]
     rw [yu (by unfold cW; simp; try omega),yu TU,AY,DQ,yu hlim,yA,BV,tdd,yu TU,AY,xu,BV,tds,yA,yM (by omega),<- hrow]
     exact ih _
    ·intro J
     rw [zq,yO,xK (yz (by omega)),yu (yx (by omega)),hb,xb (by rfl),xb (by rfl),xK (by rfl),hw2,xb hne,yu (by simp only [ni,Bool.and_eq_true,decide_eq_true_eq,lnA,lnC,lnN]; omega),Int.toNat_natCast,Nat.zero_add (O.length + 1),abi,DQ,C9 hll,tdd,abl,hw3,Int.toNat_natCast,Nat.zero_add O.length]
     rw [yu (by unfold gW; simp; try omega),yu (by have := TU (A := O) (J := D.agg [iN t.1,.dead] :: J) (x := eO u); rwa [Nat.zero_add] at this),AY,DQ,yu hlim,yA,BV,tdd,yu (by have := TU (A := O) (J := D.agg [iN t.1,.dead] :: J) (x := .agg [iN u.1,.dead]); rwa [Nat.zero_add] at this),AY,xu,BV,tds,yA,yM (by omega),<- hrow]
     exact ih _
  rw [if_neg h41]
  have hwb := Jv x
  cases hw : JH x with
  | false =>
   rw [hw] at hwb
   rw [if_neg (by simp)]
   constructor
   ·rw [zF,yO,xK (yz (by omega)),yu (yx (by omega)),hb,xb (EH 32 32 rfl h32),xb (EH 40 40 rfl h40),xb (EH 41 41 rfl h41),Al hwb,xJ,zj hc]; rfl
   ·intro J
    rw [zq,yO,xK (yz (by omega)),yu (yx (by omega)),hb,xb (EH 32 32 rfl h32),xb (EH 40 40 rfl h40),xb (EH 41 41 rfl h41),Al hwb,xJ,zj hc]; rfl
  | true =>
   rw [hw] at hwb
   have hs := aaN hl (i := i) (p := p) (q := q) (A := o.reverse.map eO) (t := t) hp (by omega) (by rw [hAl]; omega) (by omega) (l.length - i) i (by omega) (by omega)
   have hs1 := fun J => ZX hl (i := i) (p := p) (q := q) (A := o.reverse.map eO) (J := J) (t := t) hp (by omega) (by rw [hAl]; omega) (by omega) (l.length - i) i (by omega) (by omega)
   rw [hAl] at hs hs1
   have hwe := Kw hx hw
   have hwl := UB (l := l) (j := i + 1) (by omega)
   rw [hAl] at hw1
   rw [if_pos rfl]
   constructor
   ·rw [zF,yO,xK (yz (by omega)),yu (yx (by omega)),hb,xb (EH 32 32 rfl h32),xb (EH 40 40 rfl h40),xb (EH 41 41 rfl h41),Al hwb,yk,hn1,hw1,hs]
    cases hwd : Ff ((l.drop i).take (Ez l i - i)) with
    | none => rfl
    | some nd =>
     have hz := LJ hwd
     exact (R9 hl hp k (Ez l i) o (t.1,t.2 ++ [(q.length : Int)]) (q ++ [nd]) (by omega) (by omega) (by simp only [phi,lnA,lnC,lnN]; omega) (by omega) (IE hf (by rw [List.length_take,List.length_drop] at hz; omega))).1
   ·intro J
    rw [zq,yO,xK (yz (by omega)),yu (yx (by omega)),hb,xb (EH 32 32 rfl h32),xb (EH 40 40 rfl h40),xb (EH 41 41 rfl h41),Al hwb,yk,hw1,hs1]
    cases hwd : Ff ((l.drop i).take (Ez l i - i)) with
    | none => rfl
    | some nd =>
     have hz := LJ hwd
     exact (R9 hl hp k (Ez l i) o (t.1,t.2 ++ [(q.length : Int)]) (q ++ [nd]) (by omega) (by omega) (by simp only [phi,lnA,lnC,lnN]; omega) (by omega) (IE hf (by rw [List.length_take,List.length_drop] at hz; omega))).2 J
end
end Go.Eng
/-! reading a text: both sides agree -/
namespace Go.Eng
noncomputable section
open Go.Proofs Go.Proofs.Tryz
set_option maxHeartbeats 4000000

theorem IW {l : List UInt8} (hl : l.length < 1000000000) : ∀ (k i : Nat) (o : List RwF) (t : RwF) (q : List Nd),i <= l.length -> phi o t q + 2 * (l.length - i) < 4000000000 -> z9 q -> ∀ q' row,Ci l k i o t q = .ok q' row -> z9 q' /\ q'.length < 4000000000 /\ row.length < 4000000000
 | 0,i,o,t,q,_,_,_,q',row,h => by rw [Ci] at h; cases h
 | k + 1,i,o,t,q,h2,h3,hf,q',row,h => by
  have hph : phi o t q = q.length + t.2.length + (o.map fun x => x.2.length).sum := rfl
  rw [IV] at h
  by_cases hi : i = l.length
  ·have hx : l[i]? = none := List.getElem?_eq_none (by omega)
   rw [hx,MO] at h
   by_cases ho : o = []
   ·rw [if_pos ho] at h
    cases h
    exact ⟨hf,by omega,by omega⟩
   ·rw [if_neg ho] at h; cases h
  obtain ⟨x,hx⟩ := xx (l := l) (i := i) (by omega)
  rw [hx,KF] at h
  by_cases h32 : x = 32
  ·rw [if_pos h32] at h
   exact IW hl k (i + 1) o t q (by omega) (by omega) hf q' row h
  rw [if_neg h32] at h
  by_cases h40 : x = 40
  ·rw [if_pos h40] at h
   exact IW hl k (i + 1) (t :: o) ((i : Int),[]) q (by omega) (by simp only [phi,List.map_cons,List.sum_cons,lnN]; omega) hf q' row h
  rw [if_neg h40] at h
  by_cases h41 : x = 41
  ·rw [if_pos h41] at h
   cases o with
   | nil => cases h
   | cons u o =>
    simp only [List.map_cons,List.sum_cons] at hph
    exact IW hl k (i + 1) o (u.1,u.2 ++ [((yR q t.2).2 : Int)]) (yR q t.2).1 (by omega) (by simp only [phi,BU,lnA,lnC,lnN]; omega) (PR hf _) q' row h
  rw [if_neg h41] at h
  by_cases hw : JH x = true
  ·rw [if_pos hw] at h
   have hwe := Kw hx hw
   have hwl := UB (l := l) (j := i + 1) (by omega)
   cases hwd : Ff ((l.drop i).take (Ez l i - i)) with
   | none => rw [hwd] at h; cases h
   | some nd =>
    rw [hwd] at h
    have hz := LJ hwd
    exact IW hl k (Ez l i) o (t.1,t.2 ++ [(q.length : Int)]) (q ++ [nd]) (by omega) (by simp only [phi,lnA,lnC,lnN]; omega) (IE hf (by rw [List.length_take,List.length_drop] at hz; omega)) q' row h
  ·rw [if_neg hw] at h; cases h
def Y5 (p : List Nd) (n : Nat) (r : RdR) : List Nd × List Int × Int × Int := match r with
 | .err c a => (p,[],c,a)
 | .ok q row => if yU q = true then (q,row,0,(n : Int)) else (p,[],6,0)
def CE (p : List Nd) (l : List UInt8) : List Nd × List Int × Int × Int := if yU p = false then ([],[],6,0) else if 400 < l.length then (p,[],1,0) else Y5 p l.length (Ci l (l.length + 1) 0 [] (0,[]) p)
abbrev Ul (r : List Nd × List Int × Int × Int) : Option Ret := some (.tup [oP r.1,.os (1,0) (r.2.1.map eI),iN r.2.2.1,iN r.2.2.2],[])
theorem aai (p : List Nd) (n : Nat) (r : RdR) : SR (p.map eN) n r = Ul (Y5 p n r) := by
 cases r with
 | err c a => rfl
 | ok q row =>
  rw [Zm]
  unfold Y5
  by_cases h : yU q = true
  ·rw [if_pos h]; simp only [if_pos h]
  ·rw [if_neg h]; simp only [if_neg h]; rfl
theorem OC {p : List Nd} (hf : z9 p) (hl : p.length < 4611686018427387904) (l : List UInt8) : V 191 [eP p,.str (mk l)] = Ul (CE p l) := by
 have hok := z8 hf hl
 unfold CE
 rw [WJ,Bz hok]
 cases h : yU p with
 | false => rw [Bool.not_false,yk,if_pos rfl]; rfl
 | true =>
  have hp := y5 h
  have hc := Uv (p := p) (by omega)
  rw [Bool.not_true,xJ,if_neg (by simp),yO]
  by_cases h4 : 400 < l.length
  ·rw [xK (decide_eq_true (by simp only [ni]; omega)),zj hc,if_pos h4]; rfl
  ·have hs := (R9 (l := l) (by omega) (p := p) (by omega) (l.length + 1) 0 [] (0,[]) p (by omega) (by omega) (by simp only [phi,List.map_nil,List.sum_nil,lnN]; omega) (by simp only [lnN]; omega) hf).1
   rw [xb (decide_eq_false (by simp only [ni]; omega)),zj hc,if_neg h4,<- aai]
   exact hs
end
end Go.Eng
/-! compiling,plain (the reference's way) -/
namespace Go.Eng
noncomputable section

structure Ms where
 list : List In
 defs : List Df
 how : Int
abbrev inO (op : Int) : In := ⟨op,0,0,⟨#[]⟩⟩
def wrds : List (List UInt8) := [[113,117,111,116,101],[105,102],[102,110],[100,111],[108,101,116],[100,101,102,105,110,101]]
def XD (s : ByteArray) : Bool := wrds.any fun x => kc s (mk x)
def z4 (m : Ms) (x : In) : Ms := if m.how = 0 then (if m.list.length = 400 then ⟨m.list,m.defs,3⟩ else ⟨m.list ++ [x],m.defs,0⟩) else m
def Dt (m : Ms) : Int := if m.how = 0 then (if m.list.length = 400 then 0 else m.list.length) else 0
def toC (m : Ms) (k : Int) : Ms := if m.how = 0 then ⟨m.list.set k.toNat ⟨(m.list.getD k.toNat (inO 0)).op,m.list.length,(m.list.getD k.toNat (inO 0)).i,(m.list.getD k.toNat (inO 0)).s⟩,m.defs,0⟩ else m
def D5 (m : Ms) (h : Int) : Ms := ⟨m.list,m.defs,h⟩
def nmC (p : List Nd) (v : Int) : Bool := (nod p v).kind == 4 && !XD (nod p v).s
def KU (p : List Nd) : List Int -> Int -> List ByteArray -> List ByteArray × Int
 | [],h,out => (out,h)
 | x :: r,h,out => if h = 0 then KU p r (if nmC p x = true then 0 else 1) (out ++ [(nod p x).s]) else (out,h)
def Po (out : List ByteArray) : Nat -> Nat -> Int -> Int
 | 0,_,h => h
 | k + 1,i,h => if h = 0 then Po out k (i + 1) (if (out.take i).any (fun t => kc t (out.getD i ⟨#[]⟩)) = true then 2 else 0) else h
def Ax (p : List Nd) (xs : List Int) (h : Int) : List ByteArray × Int :=
 let r := KU p xs (if xs.length > 4 then 1 else h) []
 (r.1,Po r.1 r.1.length 0 r.2)
def aad (s : ByteArray) : List ByteArray -> Nat -> Option Nat
 | [],_ => none
 | x :: r,i => if kc x s = true then some i else aad s r (i + 1)
def Zj (s : ByteArray) : List (List ByteArray) -> Nat -> Option (Nat × Nat)
 | [],_ => none
 | e :: r,n => match aad s e 0 with
  | some i => some (n,i)
  | none => Zj s r (n + 1)
section
variable (E : List (List ByteArray) -> Int -> Ms -> Ms)
def FM (env : List (List ByteArray)) : List Int -> Bool -> Ms -> Ms
 | [],_,m => m
 | x :: r,f,m => if m.how = 0 then FM env r false (E env x (if f = true then m else z4 m (inO 9))) else m
def Xl (names : List ByteArray) (body : List Int) (env : List (List ByteArray)) (m : Ms) : Ms :=
 let m1 := z4 m ⟨6,0,names.length,⟨#[]⟩⟩
 let m2 := z4 m1 (inO 5)
 let m3 := FM E (names :: env) body true (toC m2 (Dt m))
 toC (z4 m3 (inO 8)) (Dt m1)
def PH (p : List Nd) (s : ByteArray) (xs : List Int) (env : List (List ByteArray)) (m : Ms) : Ms :=
 if kc s (mk [113,117,111,116,101]) = true /\ xs.length = 2 then z4 m ⟨1,xs.getD 1 0,0,⟨#[]⟩⟩
 else if kc s (mk [105,102]) = true /\ xs.length = 4 then
  let m1 := E env (xs.getD 1 0) m
  let m3 := E env (xs.getD 2 0) (z4 m1 (inO 4))
  let m5 := toC (z4 m3 (inO 5)) (Dt m1)
  toC (E env (xs.getD 3 0) m5) (Dt m3)
 else if kc s (mk [100,111]) = true /\ 2 <= xs.length then FM E env (xs.drop 1) true m
 else if kc s (mk [102,110]) = true /\ 3 <= xs.length then
  let a := zR p (xs.getD 1 0)
  if a.2 = false then D5 m 1 else
  let r := Ax p a.1 m.how
  Xl E r.1 (xs.drop 2) env (D5 m r.2)
 else if kc s (mk [108,101,116]) = true /\ 4 <= xs.length then
  let r := Ax p [xs.getD 1 0] m.how
  z4 (E env (xs.getD 2 0) (Xl E r.1 (xs.drop 3) env (D5 m r.2))) ⟨7,0,1,⟨#[]⟩⟩
 else D5 m 1
end
def KY (p : List Nd) : Nat -> List (List ByteArray) -> Int -> Ms -> Ms
 | 0,_,_,m => m
 | k + 1,env,v,m => if m.how ≠ 0 then m else
  let x := nod p v
  if x.kind = 1 \/ x.kind = 2 \/ x.kind = 3 then z4 m ⟨1,v,0,⟨#[]⟩⟩
  else if x.kind = 4 then
   if XD x.s = true then D5 m 1 else match Zj x.s env 0 with
    | some (n,i) => z4 m ⟨2,n,i,⟨#[]⟩⟩
    | none => z4 m ⟨3,0,0,x.s⟩
  else if x.kind ≠ 5 then D5 m 1
  else if (zR p v).2 = false then D5 m 1
  else
   let xs := (zR p v).1
   let h := nod p (xs.getD 0 0)
   if h.kind = 4 /\ XD h.s = true then PH (KY p k) p h.s xs env m
   else if xs.length > 5 then D5 m 1
   else z4 (xs.foldl (fun m x => KY p k env x m) m) ⟨7,0,(xs.length : Int) - 1,⟨#[]⟩⟩
def JA (p : List Nd) (env : List (List ByteArray)) (v : Int) (m : Ms) : Ms := KY p (v.toNat + 1) env v m
def KV (s : ByteArray) : List Df -> Int -> Int
 | [],h => h
 | d :: r,h => if h = 0 then KV s r (if kc d.name s = true then 2 else 0) else h
def Nk (p : List Nd) (s : ByteArray) (names : List ByteArray) (body : List Int) (m : Ms) : Ms :=
 z4 (FM (JA p) [names] body true ⟨m.list,m.defs ++ [⟨s,m.list.length,names.length⟩],KV s m.defs m.how⟩) (inO 8)
def ZO : ByteArray := mk [109,97,105,110]
def QA (p : List Nd) (v : Int) (m : Ms) : Ms :=
 let l := zR p v
 if (nod p v).kind = 5 /\ l.2 = true /\ (nod p (l.1.getD 0 0)).kind = 4 /\ kc (nod p (l.1.getD 0 0)).s (mk [100,101,102,105,110,101]) = true then
  if l.1.length < 3 \/ (nod p (l.1.getD 1 0)).kind ≠ 5 then D5 m 1 else
  let a := zR p (l.1.getD 1 0)
  if a.2 = false then D5 m 1
  else if nmC p (a.1.getD 0 0) = false then D5 m 1
  else
   let r := Ax p (a.1.drop 1) m.how
   Nk p (nod p (a.1.getD 0 0)).s r.1 (l.1.drop 2) (D5 m r.2)
 else Nk p ZO [] [v] m
def FQ (p : List Nd) (n : Int) : List Int -> Int -> Ms -> Cd × Int × Int
 | [],_,m => if zy ⟨p,m.list,m.defs⟩ = true then (⟨p,m.list,m.defs⟩,0,n) else (⟨[],[],[]⟩,3,0)
 | x :: r,i,m =>
  let m1 := QA p x m
  if m1.how = 3 then (⟨[],[],[]⟩,3,0) else if m1.how ≠ 0 then (⟨[],[],[]⟩,m1.how,i) else FQ p n r (i + 1) m1
def LX (p : List Nd) (xs : List Int) : Cd × Int × Int := if yU p = true /\ y4 p xs = true then FQ p xs.length xs 0 ⟨[],[],0⟩ else (⟨[],[],[]⟩,3,0)
end
end Go.Eng
/-! a step of a machine: the program's side: the stack,the frames,lists -/
namespace Go.Eng
noncomputable section
open Go.Proofs Go.Proofs.Tryz
set_option maxHeartbeats 4000000

abbrev eSt (c : Cd) (m : Mc) : D := .op [.os (5,0) (m.pool.map eN),iN m.at',iN m.s,iN m.e,iN m.d,iN m.state,iN m.ask,iN m.arg,.rs (5,0) (c.pool.map eN),.rs (4,0) (c.list.map eIn),.rs (3,0) (c.defs.map eDf)]
def Lt (c : Cd) (X : Option Ret) (r : Except Int Mc) : Prop := match r with
 | .ok m => X = some (iN 0,[eSt c m])
 | .error h => h ≠ 0 /\ ∃ m',X = some (iN h,[eSt c m'])
theorem Jl {p : List Nd} {v : Int} (h : InP p v) : p[v.toNat]? = some (nod p v) := by
 have : v.toNat < p.length := by omega
 simp [nod,List.getD_eq_getElem?_getD,List.getElem?_eq_getElem this]
theorem EJ {p : List Nd} (hp : y2 p) {v : Int} (h : InP p v) : okN (nod p v) v = true := by
 have := hp _ _ (Jl h)
 rwa [Int.toNat_of_nonneg h.1] at this
theorem J4 {p : List Nd} (hp : y2 p) {v : Int} (h : InP p v) (hk : (nod p v).kind = 5 \/ (nod p v).kind = 6 \/ (nod p v).kind = 7) : InP p (nod p v).a := by
 rcases hk with hk | hk
 ·have := z5 (EJ hp h) hk; exact ⟨by omega,by omega⟩
 ·have := Ai (EJ hp h) hk; exact ⟨by omega,by omega⟩
theorem Lh {p : List Nd} (hp : y2 p) {v : Int} (h : InP p v) (hk : (nod p v).kind = 5) : InP p (nod p v).b := by
 have := z5 (EJ hp h) hk; exact ⟨by omega,by omega⟩
theorem aaw {p q : List Nd} {v : Int} (h : InP p v) : nod (p ++ q) v = nod p v := by
 have : v.toNat < p.length := by omega
 simp [nod,List.getD_eq_getElem?_getD,List.getElem?_append_left this]
theorem yX {p : List Nd} (q : List Nd) {v : Int} (h : InP p v) : InP (p ++ q) v := ⟨h.1,by simp only [lnA]; omega⟩
section
variable {R : Type} {p : List Nd} {v : Int}
theorem RF (h : InP p v) : (decide (0 <= v) && decide (v < ni (p.map eN).length)) = true := by
 rw [lnM]; simp only [ni,Bool.and_eq_true,decide_eq_true_eq]; exact ⟨h.1,h.2⟩
theorem Ce (h : InP p v) (K : Int -> Int -> ByteArray -> Int -> Int -> Option R) : grd (decide (0 <= v) && decide (v < ni (p.map eN).length)) (cT (p.map eN) v.toNat fun x => tk2 x fun n4 n7 s10 n13 n16 => (K n4 n7 s10 n13 n16)) = K (nod p v).kind (nod p v).n (nod p v).s (nod p v).a (nod p v).b := by
 rw [yu (RF h),xW (Jl h),Jk]
theorem JJ (h : InP p v) (K : Int -> Option R) : grd (decide (0 <= v) && decide (v < ni (p.map eN).length)) (cT (p.map eN) v.toNat fun x => asAgg x fun l => cT l 0 fun y => asI .i64 y fun n => K n) = K (nod p v).kind := by
 rw [yu (RF h),xW (Jl h),ab3]
theorem YB (h : InP p v) (K : Int -> Option R) : grd (decide (0 <= v) && decide (v < ni (p.map eN).length)) (cT (p.map eN) v.toNat fun x => asAgg x fun l => cT l 1 fun y => asI .i64 y fun n => K n) = K (nod p v).n := by
 rw [yu (RF h),xW (Jl h),ab4]
theorem Zo (h : InP p v) (K : Int -> Option R) : grd (decide (0 <= v) && decide (v < ni (p.map eN).length)) (cT (p.map eN) v.toNat fun x => asAgg x fun l => cT l 3 fun y => asI .i64 y fun n => K n) = K (nod p v).a := by
 rw [yu (RF h),xW (Jl h),ab6]
theorem Zp (h : InP p v) (K : Int -> Option R) : grd (decide (0 <= v) && decide (v < ni (p.map eN).length)) (cT (p.map eN) v.toNat fun x => asAgg x fun l => cT l 4 fun y => asI .i64 y fun n => K n) = K (nod p v).b := by
 rw [yu (RF h),xW (Jl h),ab7]
end

theorem Ew {c : Cd} {m : Mc} (hl : m.pool.length < 4294967296) (v : Int) : V 185 [eSt c m,iN v] = some (.tup [],[eSt c (LI m v)]) := by
 have h := Uz hl v m.s
 rw [Mg,Fk h]
 rfl
theorem NV {c : Cd} {m : Mc} (hs : InP m.pool m.s) {v : Int} {m' : Mc} (h : CG m = some (v,m')) : V 182 [eSt c m] = some (.tup [iN v,.bool true],[eSt c m']) := by
 unfold CG at h
 rw [FU,Ce hs]
 split at h
 ·rename_i h5
  cases h
  rw [xb (yG h5)]
 ·cases h
theorem Jw {c : Cd} {m : Mc} (hs : InP m.pool m.s) (h : CG m = none) : V 182 [eSt c m] = some (.tup [iN 0,.bool false],[eSt c m]) := by
 unfold CG at h
 rw [FU,Ce hs]
 split at h
 ·cases h
 ·rename_i h5
  rw [xK (yH h5)]
theorem Wg {m : Mc} (hp : y2 m.pool) (hs : InP m.pool m.s) {v : Int} {m' : Mc} (h : CG m = some (v,m')) : InP m.pool v /\ m'.pool = m.pool /\ InP m.pool m'.s /\ m'.e = m.e /\ m'.d = m.d /\ m'.at' = m.at' /\ m'.state = m.state /\ m'.ask = m.ask /\ m'.arg = m.arg := by
 unfold CG at h
 split at h
 ·rename_i h5
  cases h
  exact ⟨J4 hp hs (.inl h5),rfl,Lh hp hs h5,rfl,rfl,rfl,rfl,rfl,rfl⟩
 ·cases h
def alD (r : Option Int) : D := match r with | some v => .tup [iN v,.bool true] | none => .tup [iN 0,.bool false]
theorem Lq {c : Cd} {m : Mc} (hp : y2 m.pool) : ∀ (k : Nat) (v : Int),InP m.pool v -> k < 4611686018427387904 ->
  Af v (k : Int) m.at' m.s m.e m.d m.state m.ask m.arg (c.pool.map eN) (c.list.map eIn) (c.defs.map eDf) (m.pool.map eN) = some (alD (JM m.pool k v),[eSt c m])
 | 0,v,hv,hk => by
  rw [Cm,xb (decide_eq_false (by omega)),JJ hv]
  unfold JM
  by_cases h5 : (nod m.pool v).kind = 5
  ·rw [if_pos h5,xb (yG h5),Zo hv]; rfl
  ·rw [if_neg h5,xK (yH h5)]; rfl
 | k + 1,v,hv,hk => by
  have hw : w6 (((k + 1 : Nat) : Int) - 1) = (k : Int) := by rw [w64 (by omega) (by omega)]; omega
  rw [Cm,xK (decide_eq_true (by omega)),JJ hv]
  unfold JM
  by_cases h5 : (nod m.pool v).kind = 5
  ·have ih := Lq (c := c) hp k (nod m.pool v).b (Lh hp hv h5) (by omega)
   rw [if_pos h5,xb (yG h5),Zp hv,hw,ih]
  ·rw [if_neg h5,xK (yH h5)]; rfl
theorem QF {c : Cd} {m : Mc} (hp : y2 m.pool) {v : Int} (hv : InP m.pool v) {n : Int} (h0 : 0 <= n) (h1 : n < 4611686018427387904) : V 207 [eSt c m,iN v,iN n] = some (alD (JM m.pool n.toNat v),[eSt c m]) := by
 have := Lq (c := c) hp n.toNat v hv (by omega)
 rw [Int.toNat_of_nonneg h0] at this
 rw [KO]
 exact this
theorem MC {p : List Nd} (hp : y2 p) : ∀ (k : Nat) (v a : Int),InP p v -> JM p k v = some a -> InP p a
 | 0,v,a,hv,h => by
  unfold JM at h
  split at h
  ·cases h; exact J4 hp hv (.inl ‹_›)
  ·cases h
 | k + 1,v,a,hv,h => by
  unfold JM at h
  split at h
  ·exact MC hp k _ a (Lh hp hv ‹_›) h
  ·cases h
theorem Rm {c : Cd} {m : Mc} (hp : y2 m.pool) (hl : m.pool.length < 4294967296) (he : InP m.pool m.e) {o i : Int} (o0 : 0 <= o) (o1 : o < 4611686018427387904) (i0 : 0 <= i) (i1 : i < 4611686018427387904) :
  Lt c (V 186 [eSt c m,iN o,iN i]) (WD m o i) := by
 have h1 := QF (c := c) hp he o0 o1
 rw [Jf]
 unfold WD
 cases e1 : JM m.pool o.toNat m.e with
 | none =>
  rw [e1] at h1; simp only [alD] at h1
  exact ⟨by decide,m,by rw [BZ h1]; rfl⟩
 | some fr =>
  rw [e1] at h1; simp only [alD] at h1
  have h2 := QF (c := c) hp (MC hp _ _ _ he e1) i0 i1
  rw [BZ h1,Bool.not_true,xJ]
  cases e2 : JM m.pool i.toNat fr with
  | none =>
   rw [e2] at h2; simp only [alD] at h2
   simp only [e2]
   exact ⟨by decide,m,by rw [BZ h2]; rfl⟩
  | some v =>
   rw [e2] at h2; simp only [alD] at h2
   simp only [e2]
   have h3 := Ew (c := c) hl v
   show _ = _
   rw [BZ h2,Bool.not_true,xJ,zQ h3]

theorem Yg {p : List Nd} (hp : y2 p) : ∀ (k : Nat) (v : Int),InP p v -> ∀ x ∈ (IJ p k v).1,InP p x
 | 0,v,hv,x,hx => by simp [IJ] at hx
 | k + 1,v,hv,x,hx => by
  unfold IJ at hx
  split at hx
  ·rename_i h5
   rcases List.mem_cons.1 hx with rfl | hx
   ·exact J4 hp hv (.inl h5)
   ·exact Yg hp k _ (Lh hp hv h5) x hx
  ·simp at hx
theorem Vv {p : List Nd} : ∀ (k : Nat) (v : Int),(IJ p k v).1.length <= k
 | 0,v => by simp [IJ]
 | k + 1,v => by
  unfold IJ
  split
  ·have := Vv (p := p) k (nod p v).b; simp only [lnC]; omega
  ·simp
theorem Oc {p : List Nd} (hp : y2 p) (hl : p.length < 4294967290) : ∀ (k : Nat) (v : Int) (acc : List Int),InP p v -> v < k -> acc.length + k < 4294967296 ->
  AC v (acc.map eI) (p.map eN) = some (.tup [.os (1,0) ((acc ++ (IJ p k v).1).map eI),.bool (IJ p k v).2],[rP p])
 | 0,v,acc,hv,hk,ha => by omega
 | k + 1,v,acc,hv,hk,ha => by
  rw [Ja,JJ hv]
  unfold IJ
  by_cases h5 : (nod p v).kind = 5
  ·have hb := z5 (EJ hp hv) h5
   have ih := Oc hp hl k (nod p v).b (acc ++ [(nod p v).a]) (Lh hp hv h5) (by omega) (by simp only [lnA,lnC,lnN]; omega)
   have ea : acc.map eI ++ [iN (nod p v).a] = (acc ++ [(nod p v).a]).map eI := by simp
   have hlim : decide (ni ((acc ++ [(nod p v).a]).map eI).length <= LIM) = true := decide_eq_true (by rw [pE]; simp only [ni,lnM,lnA,lnC,lnN]; omega)
   rw [if_pos h5,xK (yF h5),Zo hv,ea,yu hlim,yA,Zp hv,ih]
   simp
  ·rw [if_neg h5,xb (yE h5),JJ hv]
   simp
theorem Wu {p : List Nd} (hp : y2 p) (hl : p.length < 2147483648) {v : Int} (hv : InP p v) : V 119 [rP p,iN v] = some (.tup [.os (1,0) ((zR p v).1.map eI),.bool (zR p v).2],[rP p]) := by
 have := Oc hp (by omega) (v.toNat + 1) v [] hv (by omega) (by simp only [lnN]; omega)
 rw [LY]
 exact this
end
end Go.Eng
/-! which nodes are alike: both sides -/
namespace Go.Eng
noncomputable section
open Go.Proofs Go.Proofs.Tryz
set_option maxHeartbeats 4000000

theorem ndEq_iff {x y : Nd} : EF x y = true ↔ x = y := by
 unfold EF
 rw [BH]
 constructor
 ·intro h
  simp only [Bool.and_eq_true,beq_iff_eq,decide_eq_true_eq] at h
  obtain ⟨h1,h2,h3,h4,h5⟩ := h
  cases x; cases y
  simp only at h1 h2 h3 h4 h5
  subst h1; subst h2; subst h3; subst h4; subst h5
  rfl
 ·rintro rfl
  simp
abbrev kC (y : Nd) : List D := [iN y.kind,iN y.n,.str y.s,iN y.a,iN y.b]
theorem ZN (x y : Nd) : jT (kC x) (kC y) = EF y x := by
 have e : ∀ a b : Int,(a == b) = (b == a) := fun a b => by
  by_cases h : a = b
  ·subst h; rfl
  ·rw [yE h,yE (fun e => h e.symm)]
 have e2 : kc x.s y.s = kc y.s x.s := by
  rw [BH,BH]
  exact decide_eq_decide.2 ⟨Eq.symm,Eq.symm⟩
 simp only [jT,pQ,EF,Bool.and_true]
 rw [e x.kind,e x.n,e x.a,e x.b,e2]
def RA (x : D) (q : List D) : Option Int := match x with
 | .tup [.agg ks,.int _ v] => if jT q ks = true then some v else none
 | _ => none
theorem J3 (x : D) (r q : List D) : cJ (x :: r) q = match RA x q with | some v => some v | none => cJ r q := by
 by_cases hx : ∃ ks k v,x = .tup [.agg ks,.int k v]
 ·obtain ⟨ks,k,v,rfl⟩ := hx
  simp only [cJ,RA]
  cases jT q ks <;> rfl
 ·have e1 : RA x q = none := by
   unfold RA
   split
   ·exact absurd ⟨_,_,_,rfl⟩ hx
   ·rfl
  rw [e1,cJ]
  intro ks k v h
  exact hx ⟨ks,k,v,h⟩
theorem PU (key q : List D) (v : Int) : ∀ xs : List D,cJ (vL xs key v) q = match cJ xs q with | some u => some u | none => if jT q key = true then some v else none
 | [] => by
  show cJ [_] q = _
  rw [J3]
  simp only [RA,cJ]
  cases jT q key <;> rfl
 | x :: xs => by
  have ih := PU key q v xs
  show cJ (x :: vL xs key v) q = _
  rw [J3,J3,ih]
  cases RA x q <;> rfl
def I9 (ents : List D) (keys : List Nd) : Prop := ∀ x : Nd,cJ ents (kC x) = (keys.findIdx? (fun y => EF y x)).map (fun k => (k : Int))
theorem Xj : I9 [] [] := fun x => by simp [cJ]
theorem RB (keys : List Nd) (y x : Nd) : (keys ++ [y]).findIdx? (fun z => EF z x) = match keys.findIdx? (fun z => EF z x) with | some k => some k | none => if EF y x = true then some keys.length else none := by
 rw [List.findIdx?_append]
 cases h : keys.findIdx? (fun z => EF z x) with
 | some k => simp
 | none =>
  simp only [Option.none_or,List.findIdx?_cons,List.findIdx?_nil]
  cases EF y x <;> simp
theorem Xk {ents : List D} {keys : List Nd} (h : I9 ents keys) {y : Nd} {k : Nat} (hk : keys.findIdx? (fun z => EF z y) = some k) : I9 ents (keys ++ [y]) := by
 intro x
 rw [h x,RB]
 cases hx : keys.findIdx? (fun z => EF z x) with
 | some j => rfl
 | none =>
  simp only
  cases hyx : EF y x with
  | false => simp
  | true =>
   rw [ndEq_iff.1 hyx,hx] at hk
   cases hk
theorem Xi {ents : List D} {keys : List Nd} (h : I9 ents keys) {y : Nd} (_ : keys.findIdx? (fun z => EF z y) = none) : I9 (vL ents (kC y) keys.length) (keys ++ [y]) := by
 intro x
 rw [PU,h x,RB]
 cases hx : keys.findIdx? (fun z => EF z x) with
 | some j => rfl
 | none =>
  simp only [ZN]
  cases hyx : EF y x <;> simp
def clV (keys : List Nd) (y : Nd) (i : Nat) : Int := match keys.findIdx? (fun z => EF z y) with | some k => (k : Int) | none => (i : Int)
theorem Vt {l : List Int} (h : l.length < 4294967290) (x : Int) : decide (ni (l.map eI ++ [iN x]).length <= LIM) = true :=
 decide_eq_true (by rw [pE]; simp only [ni,lnA,lnM,lnC,lnN]; omega)
theorem LV {ents : List D} {keys : List Nd} {out : List Int} {i : Nat} (h : I9 ents keys) (ho : out.length = i) (hk : keys.length = i) (hl : i < 4294967290) (a b : Int) (s : ByteArray) (c d : Int) (F : List D -> List D -> Option Ret) :
  ∃ ents',I9 ents' (keys ++ [⟨a,b,s,c,d⟩]) /\ br (!ja ents [iN a,iN b,.str s,iN c,iN d])
   (grd (!ja ents [iN a,iN b,.str s,iN c,iN d]) (nam (vL ents [iN a,iN b,.str s,iN c,iN d] (i : Int)) fun l21 => grd (decide (ni (out.map eI ++ [iN (i : Int)]).length <= LIM)) (nam (out.map eI ++ [iN (i : Int)]) fun l22 => F l21 l22)))
   (grd (decide (ni (out.map eI ++ [iN (mR ents [iN a,iN b,.str s,iN c,iN d])]).length <= LIM)) (nam (out.map eI ++ [iN (mR ents [iN a,iN b,.str s,iN c,iN d])]) fun l23 => F ents l23)) =
   F ents' ((out ++ [clV keys ⟨a,b,s,c,d⟩ i]).map eI) := by
 have hx := h ⟨a,b,s,c,d⟩
 have el : ∀ v : Int,out.map eI ++ [iN v] = (out ++ [v]).map eI := fun v => by simp
 unfold clV
 cases hf : keys.findIdx? (fun z => EF z ⟨a,b,s,c,d⟩) with
 | some k =>
  rw [hf] at hx
  obtain ⟨e1,e2⟩ := vK (xs := ents) (ks := [iN a,iN b,.str s,iN c,iN d]) hx
  refine ⟨ents,Xk h hf,?_⟩
  rw [e2,e1,Bool.not_true,xJ,yu (Vt (by omega) _),yA,el]
 | none =>
  rw [hf] at hx
  obtain ⟨e1,e2⟩ := vJ (xs := ents) (ks := [iN a,iN b,.str s,iN c,iN d]) hx
  refine ⟨_,Xi h hf,?_⟩
  rw [e2,Bool.not_false,yk,xP,yA,yu (Vt (by omega) _),yA,el,hk]
theorem AX {R : Type} {l : List Int} {v : Int} (h0 : 0 <= v) (h1 : v < (l.length : Int)) (K : Int -> Option R) : grd (decide (0 <= v) && decide (v < ni (l.map eI).length)) (cT (l.map eI) v.toNat fun x => asI .i64 x fun n => K n) = K (l.getD v.toNat 0) := by
 obtain ⟨x,hx⟩ := xx (l := l) (i := v.toNat) (by omega)
 rw [yu (by rw [lnM]; simp only [ni,Bool.and_eq_true,decide_eq_true_eq]; exact ⟨h0,h1⟩),xW hx,ye,List.getD_eq_getElem?_getD,hx]; rfl
theorem Nh (x : Nd) (r : List Nd) (out : List Int) (keys : List Nd) : Sr (x :: r) out keys = Sr r (out ++ [clV keys (AV out x) out.length]) (keys ++ [AV out x]) := rfl
theorem KZ {p : List Nd} (hp : y2 p) (hl : p.length < 4294967290) : ∀ (k i : Nat) (ents : List D) (keys : List Nd) (out : List Int),i + k = p.length -> out.length = i -> keys.length = i -> I9 ents keys ->
  yW (p.map eN) (ni (p.map eN).length) (i : Int) ents (out.map eI) = some (.os (1,0) ((Sr (p.drop i) out keys).1.map eI),[])
 | 0,i,ents,keys,out,hi,ho,hk,h => by
  rw [FC,xb (by rw [lnM]; exact yr (by omega)),List.drop_of_length_le (by omega)]
  rfl
 | k + 1,i,ents,keys,out,hi,ho,hk,h => by
  obtain ⟨x,hx⟩ := xx (l := p) (i := i) (by omega)
  have hxo := hp i x hx
  have ih := fun ents keys out ho hk h => KZ hp hl k (i + 1) ents keys out (by omega) ho hk h
  rw [FC,xK (by rw [lnM]; exact yz (by omega)),yu (by rw [lnM]; exact yx (by omega)),Int.toNat_natCast,xW hx,Jk,tU hx,Nh,yM (by omega),ho]
  have fin : ∀ (y : Nd) (X : Option Ret),y = AV out x -> (∃ ents',I9 ents' (keys ++ [y]) /\ X = yW (p.map eN) (ni (p.map eN).length) ((i + 1 : Nat) : Int) ents' ((out ++ [clV keys y i]).map eI)) ->
    X = some (.os (1,0) ((Sr (p.drop (i + 1)) (out ++ [clV keys (AV out x) i]) (keys ++ [AV out x])).1.map eI),[]) := by
   rintro y X rfl ⟨ents',h1,rfl⟩
   exact ih ents' _ _ (by simp [ho]) (by simp [hk]) h1
  by_cases h5 : x.kind = 5
  ·have hb := z5 hxo h5
   rw [xK (yF h5),AX hb.1 (by omega),AX hb.2.2.1 (by omega)]
   exact fin ⟨x.kind,x.n,x.s,out.getD x.a.toNat 0,out.getD x.b.toNat 0⟩ _ (by simp only [AV,h5,if_true]) (LV h ho hk (by omega) x.kind x.n x.s _ _ fun e o => yW (p.map eN) (ni (p.map eN).length) ((i + 1 : Nat) : Int) e o)
  ·rw [xb (yE h5)]
   by_cases h6 : x.kind = 6
   ·have hb := Ai hxo (.inl h6)
    rw [xK (yF h6),xK (yF h6),AX hb.1 (by omega)]
    exact fin ⟨x.kind,x.n,x.s,out.getD x.a.toNat 0,x.b⟩ _ (by simp only [AV,h6,true_or,if_true]; simp) (LV h ho hk (by omega) x.kind x.n x.s _ x.b fun e o => yW (p.map eN) (ni (p.map eN).length) ((i + 1 : Nat) : Int) e o)
   ·rw [xb (yE h6)]
    by_cases h7 : x.kind = 7
    ·have hb := Ai hxo (.inr h7)
     rw [xK (yF h7),AX hb.1 (by omega)]
     exact fin ⟨x.kind,x.n,x.s,out.getD x.a.toNat 0,x.b⟩ _ (by simp only [AV,h7]; simp) (LV h ho hk (by omega) x.kind x.n x.s _ x.b fun e o => yW (p.map eN) (ni (p.map eN).length) ((i + 1 : Nat) : Int) e o)
    ·rw [xb (yE h7)]
     exact fin x _ (by simp only [AV,h5,h6,h7,if_false,or_self]) (LV h ho hk (by omega) x.kind x.n x.s x.a x.b fun e o => yW (p.map eN) (ni (p.map eN).length) ((i + 1 : Nat) : Int) e o)
theorem Y9 {p : List Nd} (hp : y2 p) (hl : p.length < 4294967290) : V 247 [eP p] = some (.os (1,0) ((YE p).map eI),[]) := by
 rw [QJ]
 exact KZ hp hl p.length 0 [] [] [] (Nat.zero_add _) rfl rfl Xj
theorem UK : ∀ (r : List Nd) (out : List Int) (keys : List Nd),(Sr r out keys).1.length = out.length + r.length
 | [],out,keys => rfl
 | x :: r,out,keys => by
  rw [Nh,UK r]; simp only [lnA,lnC,lnN]; omega
theorem LU (p : List Nd) : (YE p).length = p.length := by
 unfold YE; rw [UK]; simp
def Yr (p : List Nd) (a b : Int) : Bool := yU p && (Gb p a && (Gb p b && Yu p a b))
theorem Wj {p : List Nd} (hf : z9 p) (hl : p.length < 4611686018427387904) (a b : Int) : V 242 [eP p,iN a,iN b] = some (.bool (Yr p a b),[]) := by
 have h1 := DU hf hl
 have h2 := Eu hl a
 have h3 := Eu hl b
 rw [WY,Od h1]
 unfold Yr Gb
 cases e1 : yU p with
 | false => rfl
 | true =>
  have hlen := y5 e1
  have h4 := Y9 (okPool_iff.1 e1).1 (by omega)
  rw [Bool.not_true,xJ,J9 h2]
  cases e2 : wi a 0 ((p.length : Int) - 1) with
  | false => rfl
  | true =>
   rw [Bool.not_true,xJ,J9 h3]
   cases e3 : wi b 0 ((p.length : Int) - 1) with
   | false => rfl
   | true =>
    have b2 := wi_iff.1 e2
    have b3 := wi_iff.1 e3
    rw [Bool.not_true,xJ,Ub h4,AX b2.1 (by rw [LU]; omega),AX b3.1 (by rw [LU]; omega)]
    rfl

theorem aav (x : Nd) {R : Type} (K : Int -> Int -> ByteArray -> Int -> Int -> Option R) : tk2 (eN x) (fun n4 n7 s10 n13 n16 => (K n4 n7 s10 n13 n16)) = K x.kind x.n x.s x.a x.b := rfl
theorem Yc {keys : List Nd} (h : keys.length < 4294967290) (y : Nd) : decide (ni (keys.map eN ++ [eN y]).length <= LIM) = true :=
 decide_eq_true (by rw [pE]; simp only [ni,lnA,lnM,lnC,lnN]; omega)
theorem Km {p keys : List Nd} {out : List Int} {i : Nat} (hi : i < 4294967290) (hk : keys.length = i) (ho : out.length = i) (y : Nd) : ∀ (k j : Nat),j + k = i -> (∀ t,t < j -> ∀ z,keys[t]? = some z -> EF z y = false) ->
  zh (i : Int) (i : Int) (j : Int) (p.map eN) (out.map eI) (keys.map eN) y.kind y.n y.s y.a y.b = zU ((i + 1 : Nat) : Int) (p.map eN) ((out ++ [clV keys y i]).map eI) ((keys ++ [y]).map eN)
 | 0,j,hj,hn => by
  have hnone : keys.findIdx? (fun z => EF z y) = none := by
   rw [List.findIdx?_eq_none_iff]
   intro z hz
   obtain ⟨t,ht⟩ := List.getElem?_of_mem hz
   exact hn t (by have := aQ ht; omega) z ht
  have ek : keys.map eN ++ [D.agg [iN y.kind,iN y.n,D.str y.s,iN y.a,iN y.b]] = (keys ++ [y]).map eN := by simp
  have el : out.map eI ++ [iN (i : Int)] = (out ++ [clV keys y i]).map eI := by simp [clV,hnone]
  have hkl : decide (ni ((keys ++ [y]).map eN).length <= LIM) = true := by have := Yc (keys := keys) (by omega) y; simpa using this
  have hol := Vt (l := out) (by omega) (i : Int)
  rw [DC,xb (decide_eq_false (by omega)),ek,yu hkl,yA,yu hol,yA,el,yM (by omega)]
 | k + 1,j,hj,hn => by
  obtain ⟨z,hz⟩ := xx (l := keys) (i := j) (by omega)
  have ek : keys.map eN ++ [D.agg [iN y.kind,iN y.n,D.str y.s,iN y.a,iN y.b]] = (keys ++ [y]).map eN := by simp
  have hkl : decide (ni ((keys ++ [y]).map eN).length <= LIM) = true := by have := Yc (keys := keys) (by omega) y; simpa using this
  have hol := Vt (l := out) (by omega) (j : Int)
  rw [DC,xK (decide_eq_true (by omega)),yu (by rw [lnM]; exact yx (by omega)),Int.toNat_natCast,xW hz,aav]
  have et : (z.kind == y.kind && (z.n == y.n && (kc z.s y.s && (z.a == y.a && (z.b == y.b && true))))) = EF z y := by simp [EF]
  rw [et]
  cases hq : EF z y with
  | false =>
   rw [xJ,yM (by omega)]
   refine Km hi hk ho y k (j + 1) (by omega) (fun t ht u hu => ?_)
   rcases Nat.lt_or_ge t j with h | h
   ·exact hn t h u hu
   ·have : t = j := by omega
    subst this
    rw [hz] at hu; cases hu; exact hq
  | true =>
   have hsome : keys.findIdx? (fun z => EF z y) = some j := by
    rw [List.findIdx?_eq_some_iff_getElem]
    have hlt := aQ hz
    refine ⟨hlt,?_,fun t ht => ?_⟩
    ·rw [List.getElem?_eq_getElem hlt] at hz; cases hz; exact hq
    ·have htl : t < keys.length := by omega
     have := hn t ht keys[t] (List.getElem?_eq_getElem htl)
     simp [this]
   have el : out.map eI ++ [iN (j : Int)] = (out ++ [clV keys y i]).map eI := by simp [clV,hsome]
   rw [yk,ek,yu hkl,yA,yu hol,yA,el,yM (by omega)]
theorem Lm {p : List Nd} (hp : y2 p) (hl : p.length < 4294967290) : ∀ (k i : Nat) (keys : List Nd) (out : List Int),i + k = p.length -> out.length = i -> keys.length = i ->
  zU (i : Int) (p.map eN) (out.map eI) (keys.map eN) = some (.os (1,0) ((Sr (p.drop i) out keys).1.map eI),[])
 | 0,i,keys,out,hi,ho,hk => by
  rw [D4,xb (by rw [lnM]; exact yr (by omega)),List.drop_of_length_le (by omega)]
  rfl
 | k + 1,i,keys,out,hi,ho,hk => by
  obtain ⟨x,hx⟩ := xx (l := p) (i := i) (by omega)
  have hxo := hp i x hx
  rw [D4,xK (by rw [lnM]; exact yz (by omega)),yu (by rw [lnM]; exact yx (by omega)),Int.toNat_natCast,xW hx,Jk,tU hx,Nh,ho]
  have fin : ∀ (y : Nd),y = AV out x -> zh (i : Int) (i : Int) 0 (p.map eN) (out.map eI) (keys.map eN) y.kind y.n y.s y.a y.b = some (.os (1,0) ((Sr (p.drop (i + 1)) (out ++ [clV keys (AV out x) i]) (keys ++ [AV out x])).1.map eI),[]) := by
   rintro y rfl
   have h1 := Km (p := p) (i := i) (by omega) hk ho (AV out x) i 0 (Nat.zero_add _) (fun t ht => by omega)
   rw [Int.natCast_zero] at h1
   rw [h1]
   exact Lm hp hl k (i + 1) _ _ (by omega) (by simp [ho]) (by simp [hk])
  by_cases h5 : x.kind = 5
  ·have hb := z5 hxo h5
   rw [xK (yF h5),AX hb.1 (by omega),AX hb.2.2.1 (by omega)]
   exact fin ⟨x.kind,x.n,x.s,out.getD x.a.toNat 0,out.getD x.b.toNat 0⟩ (by simp only [AV,h5,if_true])
  ·rw [xb (yE h5)]
   by_cases h6 : x.kind = 6
   ·have hb := Ai hxo (.inl h6)
    rw [xK (yF h6),xK (yF h6),AX hb.1 (by omega)]
    exact fin ⟨x.kind,x.n,x.s,out.getD x.a.toNat 0,x.b⟩ (by simp only [AV,h6]; simp)
   ·rw [xb (yE h6)]
    by_cases h7 : x.kind = 7
    ·have hb := Ai hxo (.inr h7)
     rw [xK (yF h7),AX hb.1 (by omega)]
     exact fin ⟨x.kind,x.n,x.s,out.getD x.a.toNat 0,x.b⟩ (by simp only [AV,h7]; simp)
    ·rw [xb (yE h7)]
     exact fin x (by simp only [AV,h5,h6,h7,if_false,or_self])
theorem Wq {p : List Nd} (hp : y2 p) (hl : p.length < 4294967290) : V 252 [eP p] = some (.os (1,0) ((YE p).map eI),[]) := by
 have h := Lm hp hl p.length 0 [] [] (Nat.zero_add _) rfl rfl
 rw [Int.natCast_zero] at h
 rw [O6]
 exact h
end
end Go.Eng
/-! what is built in: both sides -/
namespace Go.Eng
noncomputable section
open Go.Proofs Go.Proofs.Tryz
set_option maxHeartbeats 4000000

theorem D8 {R : Type} {l : List Int} {v x : Int} (h0 : 0 <= v) (h : l[v.toNat]? = some x) (K : Int -> Option R) : grd (decide (0 <= v) && decide (v < ni (l.map eI).length)) (cT (l.map eI) v.toNat fun x => asI .i64 x fun n => K n) = K x := by
 have := aQ h
 rw [AX h0 (by omega),List.getD_eq_getElem?_getD,h]; rfl
theorem zG {R : Type} {a : Int} {r : List Int} (K : Int -> Option R) : grd (decide ((0 : Nat) <= 0) && decide ((0 : Int) < ni ((a :: r).map eI).length)) (cT ((a :: r).map eI) 0 fun x => asI .i64 x fun n => K n) = K a := D8 (l := a :: r) (v := 0) (by omega) rfl K
theorem Du {R : Type} {a b : Int} {r : List Int} (K : Int -> Option R) : grd (decide ((0 : Nat) <= 1) && decide ((1 : Int) < ni ((a :: b :: r).map eI).length)) (cT ((a :: b :: r).map eI) 1 fun x => asI .i64 x fun n => K n) = K b := D8 (l := a :: b :: r) (v := 1) (by omega) rfl K
theorem TV {R : Type} {a b c : Int} {r : List Int} (K : Int -> Option R) : grd (decide ((0 : Nat) <= 2) && decide ((2 : Int) < ni ((a :: b :: c :: r).map eI).length)) (cT ((a :: b :: c :: r).map eI) 2 fun x => asI .i64 x fun n => K n) = K c := D8 (l := a :: b :: c :: r) (v := 2) (by omega) rfl K
theorem aaZ {R : Type} {a b c d : Int} {r : List Int} (K : Int -> Option R) : grd (decide ((0 : Nat) <= 3) && decide ((3 : Int) < ni ((a :: b :: c :: d :: r).map eI).length)) (cT ((a :: b :: c :: d :: r).map eI) 3 fun x => asI .i64 x fun n => K n) = K d := D8 (l := a :: b :: c :: d :: r) (v := 3) (by omega) rfl K
theorem Jm : nz ⟨#[]⟩ = true := by unfold nz; rw [BH]; simp
theorem O9 {n : Int} : V 223 [iN n] = some (iN (y1 n),[]) := by
 rw [Pq,zf (zg _ _ _)]
 unfold y1
 cases h : wi n 1 19 with
 | false => rfl
 | true =>
  have hb := wi_iff.1 h
  rw [Bool.not_true,xJ,w64 (n := n - 1) (by omega) (by omega)]
  exact AX (l := prArgs) (by omega) (by show n - 1 < 19; omega) _
theorem Pa {n : Int} : V 245 [iN n] = some (iN (y1 n),[]) := by
 rw [Px,zM (Ae _ _ _)]
 unfold y1
 cases h : wi n 1 19 with
 | false => rfl
 | true =>
  have hb := wi_iff.1 h
  rw [Bool.not_true,xJ]
  have e : prArgs.getD (n - 1).toNat 0 = (0 :: prArgs).getD n.toNat 0 := by
   have : n.toNat = (n - 1).toNat + 1 := by omega
   rw [this]; rfl
  simp only [if_true]
  rw [e]
  exact AX (l := 0 :: prArgs) (by omega) (by show n < 20; omega) _
theorem We {R : Type} {l : List (List UInt8)} {i : Nat} {x : List UInt8} (h : l[i]? = some x) (K : ByteArray -> Option R) : grd (decide (0 <= (i : Int)) && decide ((i : Int) < ni (l.map fun x => D.str (mk x)).length)) (cT (l.map fun x => D.str (mk x)) (i : Int).toNat fun x => asS x fun n => K n) = K (mk x) := by
 have := aQ h
 rw [yu (by rw [lnM]; exact yx this),Int.toNat_natCast,xW h,yi]
theorem Y8 (a b : ByteArray) : kc a b = kc b a := by
 rw [BH,BH]
 exact decide_eq_decide.2 ⟨Eq.symm,Eq.symm⟩
theorem Qa {l : List (List UInt8)} (hl : l.length < 4611686018427387904) (s : ByteArray) : ∀ (k i : Nat),i + k = l.length -> zz (l.map fun x => D.str (mk x)) s (ni l.length) (i : Int) = some (iN (dQ (fun x => kc s (mk x)) l i),[])
 | 0,i,hi => by
  rw [Ar,xb (yr (by omega)),w8 (by omega)]
 | k + 1,i,hi => by
  obtain ⟨x,hx⟩ := xx (l := l) (i := i) (by omega)
  have ih := Qa hl s k (i + 1) (by omega)
  rw [Ar,xK (yz (by omega)),We hx]
  cases h : kc s (mk x) with
  | true => rw [yk,w9 hx h]
  | false => rw [xJ,yM (by omega),ih,wJ hx h]
theorem Jr (s : ByteArray) : 0 <= Ch s /\ Ch s <= 19 := by
 unfold Ch ya
 cases h : prNames.findIdx? fun x => kc s (mk x) with
 | none => simp
 | some k =>
  rw [List.findIdx?_eq_some_iff_getElem] at h
  obtain ⟨hk,_⟩ := h
  have : prNames.length = 19 := rfl
  simp only; omega
theorem Rh (s : ByteArray) : V 208 [.str s] = some (iN (Ch s),[]) := by
 have h1 : V 225 [.rs (1,0) (prNames.map fun x => D.str (mk x)),.str s] = some (iN (ya (fun x => kc s (mk x)) prNames),[]) := by
  have h := Qa (l := prNames) (by decide) s prNames.length 0 (Nat.zero_add _)
  rw [wK,Int.natCast_zero] at h
  rw [Fi]
  exact h
 have hb := Jr s
 have h2 : V 176 [] = some (.os (1,0) (prNames.map fun x => D.str (mk x)),[]) := OU
 unfold Ch at hb ⊢
 rw [SE,Qc h2,Ef h1,w64 (by omega) (by omega)]
theorem Kt (s : ByteArray) : ∀ (k i : Nat),i + k = 19 -> Dl s ((i + 1 : Nat) : Int) (([] :: prNames).map fun x => D.str (mk x)) = some (iN (dQ (fun x => kc s (mk x)) prNames i + 1),[])
 | 0,i,hi => by
  have : i = 19 := by omega
  subst this
  rw [GB,xb (decide_eq_false (by omega)),w8 (by decide)]
  rfl
 | k + 1,i,hi => by
  obtain ⟨x,hx⟩ := xx (l := prNames) (i := i) (by show i < 19; omega)
  have hx' : ([] :: prNames)[i + 1]? = some x := hx
  have ih := Kt s k (i + 1) (by omega)
  rw [GB,xK (decide_eq_true (by omega)),We hx',Y8]
  cases h : kc s (mk x) with
  | true => rw [yk,w9 hx h]; rfl
  | false => rw [xJ,yM (by omega),ih,wJ hx h]
theorem Rk (s : ByteArray) : V 232 [.str s] = some (iN (Ch s),[]) := by
 have h := Kt s 19 0 (Nat.zero_add _)
 rw [wK] at h
 have h2 : V 239 [] = some (.os (1,0) (([] :: prNames).map fun x => D.str (mk x)),[]) := QX
 rw [SW,Ue h2]
 exact h
theorem CR (b : Bool) : V 241 [.bool b] = some (eN (ndB b),[]) := by
 rw [Pt]; cases b <;> rfl
theorem IZ (b : Bool) : V 251 [.bool b] = some (eN (ndB b),[]) := by
 rw [Tv]; cases b <;> rfl
def IK (n a b : Int) : Nd := if n = 1 then ndI (a + b) else if n = 2 then ndI (a - b) else if n = 3 then ndI (a * b) else if n = 4 then ndB (decide (a < b)) else ndB (a == b)
theorem RI {a b : Int} (ha : -1000000000 <= a /\ a <= 1000000000) (hb : -1000000000 <= b /\ b <= 1000000000) : -1000000000000000000 <= a * b /\ a * b <= 1000000000000000000 := by
 have h1 : a.natAbs <= 1000000000 := by omega
 have h2 : b.natAbs <= 1000000000 := by omega
 have h3 : (a * b).natAbs <= 1000000000 * 1000000000 := by rw [Int.natAbs_mul]; exact Nat.mul_le_mul h1 h2
 omega
theorem Zd {n a b : Int} (ha : -1000000000 <= a /\ a <= 1000000000) (hb : -1000000000 <= b /\ b <= 1000000000) : V 243 [iN n,iN a,iN b] = some (eN (IK n a b),[]) := by
 have hm := RI ha hb
 rw [QM]
 unfold IK
 by_cases h1 : n = 1
 ·rw [xK (yF h1),if_pos h1,w64 (by omega) (by omega)]
 rw [xb (yE h1),if_neg h1]
 by_cases h2 : n = 2
 ·rw [xK (yF h2),if_pos h2,w64 (by omega) (by omega)]
 rw [xb (yE h2),if_neg h2]
 by_cases h3 : n = 3
 ·rw [xK (yF h3),if_pos h3,w64 (by omega) (by omega)]
 rw [xb (yE h3),if_neg h3]
 by_cases h4 : n = 4
 ·rw [xK (yF h4),if_pos h4,Ay (CR _)]
 rw [xb (yE h4),if_neg h4,Ay (CR _)]
theorem aaA {x : Nd} {h : Int} (ho : okN x h = true) : x.s.size <= 12 := by
 have nz0 : nz x.s = true -> x.s.size <= 12 := by
  intro e
  unfold nz at e
  rw [BH] at e
  rw [of_decide_eq_true e]; decide
 have nm : LH x.s = true -> x.s.size <= 12 := by
  intro e
  unfold LH at e
  simp only [Bool.and_eq_true] at e
  have := wi_iff.1 e.1
  omega
 unfold okN at ho
 repeat' split at ho
 all_goals first | cases ho | skip
 all_goals (simp only [Bool.and_eq_true] at ho; first | exact nz0 ho.2.1 | exact nm ho.2.1)
theorem DF {p : List Nd} (hp : y2 p) : z9 p := fun x hx => by
 obtain ⟨j,hj⟩ := List.getElem?_of_mem hx
 have := aaA (hp j x hj)
 omega
theorem Pd {x : Nd} {h : Int} (ho : okN x h = true) (hk : x.kind = 3) : -1000000000 <= x.n /\ x.n <= 1000000000 := by
 simp [okN,hk] at ho
 exact wi_iff.1 ho.1
def GW (p : List Nd) (n : Int) (v : Int) : Bool := if n <= 5 then (nod p v).kind == 3 else if n = 7 \/ n = 8 then (nod p v).kind == 5 else true
theorem RU {p : List Nd} {n : Int} {l : List Int} (hl : l.length < 4294967290) (hv : ∀ v ∈ l,InP p v) : ∀ (k i : Nat),i + k = l.length ->
  zd n (l.map eI) (l.map eI) (ni l.length) (i : Int) (p.map eN) = if (l.drop i).all (GW p n) = true then zd n (l.map eI) (l.map eI) (ni l.length) (l.length : Int) (p.map eN) else some (.tup [iN (-1),iN 3],[rP p])
 | 0,i,hi => by
  have : i = l.length := by omega
  subst this
  simp
 | k + 1,i,hi => by
  obtain ⟨v,hx⟩ := xx (l := l) (i := i) (by omega)
  have hvi := hv v (List.mem_of_getElem? hx)
  have ih := RU (n := n) hl hv k (i + 1) (by omega)
  rw [D0 n (l.map eI) (l.map eI) (ni l.length) (i : Int),xK (yz (by omega)),D8 (x := v) (by omega) (by rw [Int.toNat_natCast]; exact hx),yM (by omega),ih,tU hx,List.all_cons]
  by_cases h5 : n <= 5
  ·have ec : GW p n v = ((nod p v).kind == 3) := by unfold GW; rw [if_pos h5]
   rw [xK (decide_eq_true h5),JJ hvi,ec]
   by_cases hk : (nod p v).kind = 3
   ·rw [xb (yG hk),xb (yE (by omega)),xb (yE (by omega)),yF hk,Bool.true_and]
   ·rw [xK (yH hk),yE hk,Bool.false_and]; rfl
  ·rw [xb (decide_eq_false h5)]
   by_cases h7 : n = 7
   ·have ec : GW p n v = ((nod p v).kind == 5) := by unfold GW; rw [if_neg h5,if_pos (.inl h7)]
    rw [xK (yF h7),JJ hvi,ec]
    by_cases hk : (nod p v).kind = 5
    ·rw [xb (yG hk),yF hk,Bool.true_and]
    ·rw [xK (yH hk),yE hk,Bool.false_and]; rfl
   ·rw [xb (yE h7)]
    by_cases h8 : n = 8
    ·have ec : GW p n v = ((nod p v).kind == 5) := by unfold GW; rw [if_neg h5,if_pos (.inr h8)]
     rw [xK (yF h8),JJ hvi,ec]
     by_cases hk : (nod p v).kind = 5
     ·rw [xb (yG hk),yF hk,Bool.true_and]
     ·rw [xK (yH hk),yE hk,Bool.false_and]; rfl
    ·have ec : GW p n v = true := by unfold GW; rw [if_neg h5,if_neg (by omega)]
     rw [xb (yE h8),ec,Bool.true_and]
def abj (p : List Nd) (r : Except Int (List Nd × Int)) : Option Ret := match r with
 | .ok (q,v) => some (.tup [iN v,iN 0],[rP q])
 | .error h => some (.tup [iN (-1),iN h],[rP p])
def DG (p : List Nd) (n : Int) (l : List Int) : Nd :=
 let x := nod p (l.getD 0 0); let y := nod p (l.getD 1 0)
 if n = 6 then ndP (l.getD 0 0) (l.getD 1 0)
 else if n = 9 then ndB (x.kind == 1)
 else if n = 10 then ndB (x.kind == 5)
 else if n = 11 then ndB (Yu p (l.getD 0 0) (l.getD 1 0))
 else if n = 12 then ndB (x.kind == 2 && x.n == 0)
 else IK n x.n y.n
theorem XK {p : List Nd} (hp : y2 p) (hl : p.length < 4294967290) {n : Int} {l : List Int} (hv : ∀ v ∈ l,InP p v) (h12 : 1 <= n /\ n <= 12) (h78 : n ≠ 7 /\ n ≠ 8) (hlen : (l.length : Int) = y1 n) (h11 : n = 11 -> yU p = true)
  (hk : n <= 5 -> ∀ v ∈ l,(nod p v).kind = 3) : V 235 [eP p,iN n,.rs (1,0) (l.map eI)] = some (eN (DG p n l),[]) := by
 have hpos : l ≠ [] := by
  rintro rfl
  simp only [y1,lnN] at hlen
  have : n = 1 \/ n = 2 \/ n = 3 \/ n = 4 \/ n = 5 \/ n = 6 \/ n = 7 \/ n = 8 \/ n = 9 \/ n = 10 \/ n = 11 \/ n = 12 := by omega
  rcases this with rfl | rfl | rfl | rfl | rfl | rfl | rfl | rfl | rfl | rfl | rfl | rfl <;> cases hlen
 obtain ⟨a,r,rfl⟩ : ∃ a r,l = a :: r := by cases l with | nil => exact absurd rfl hpos | cons a r => exact ⟨a,r,rfl⟩
 have ha := hv a (by simp)
 have two : (n <= 6 \/ n = 11) -> ∃ b,r = [b] := by
  intro h
  have h2 : y1 n = 2 := by
   have : n = 1 \/ n = 2 \/ n = 3 \/ n = 4 \/ n = 5 \/ n = 6 \/ n = 11 := by omega
   rcases this with rfl | rfl | rfl | rfl | rfl | rfl | rfl <;> rfl
  rw [h2] at hlen
  simp only [lnC] at hlen
  match r,hlen with
  | [b],_ => exact ⟨b,rfl⟩
  | [],h => simp at h
  | _ :: _ :: _,h => simp at h; omega
 rw [Pw,zG,Ce ha]
 unfold DG
 simp only [List.getD_cons_zero]
 by_cases h6 : n = 6
 ·obtain ⟨b,rfl⟩ := two (by omega)
  rw [xK (yF h6),if_pos h6,zG,Du]
  rfl
 rw [xb (yE h6),if_neg h6]
 by_cases h9 : n = 9
 ·rw [xK (yF h9),if_pos h9,Ay (CR _)]
 rw [xb (yE h9),if_neg h9]
 by_cases h10 : n = 10
 ·rw [xK (yF h10),if_pos h10,Ay (CR _)]
 rw [xb (yE h10),if_neg h10]
 by_cases hn11 : n = 11
 ·obtain ⟨b,rfl⟩ := two (by omega)
  have hok := h11 hn11
  have hb := hv b (by simp)
  have hs := Wj (p := p) (DF hp) (by omega) a b
  have hsf : Yr p a b = Yu p a b := by
   have h1 : Gb p a = true := wi_iff.2 ⟨ha.1,by omega⟩
   have h2 : Gb p b = true := wi_iff.2 ⟨hb.1,by omega⟩
   simp [Yr,hok,h1,h2]
  rw [hsf] at hs
  rw [xK (yF hn11),if_pos hn11,zG,Du,YU hs,Ay (CR _)]
  rfl
 rw [xb (yE hn11),if_neg hn11]
 by_cases hn12 : n = 12
 ·rw [xK (yF hn12),if_pos hn12]
  cases hk2 : (nod p a).kind == 2 with
  | true => rw [yk,Ay (CR _),Bool.true_and]
  | false => rw [xJ,Ay (CR _),Bool.false_and]
 rw [xb (yE hn12),if_neg hn12]
 obtain ⟨b,rfl⟩ := two (by omega)
 have hb := hv b (by simp)
 have k1 := hk (by omega) a (by simp)
 have k2 := hk (by omega) b (by simp)
 have hn := Zd (n := n) (Pd (EJ hp ha) k1) (Pd (EJ hp hb) k2)
 rw [Du,YB hb,Uc hn]
 rfl
theorem FK {n : Int} {l : List Int} (hlen : (l.length : Int) = y1 n) (h : 1 <= n /\ n <= 6 \/ n = 11) : ∃ a b,l = [a,b] := by
 have h2 : y1 n = 2 := by
  have : n = 1 \/ n = 2 \/ n = 3 \/ n = 4 \/ n = 5 \/ n = 6 \/ n = 11 := by omega
  rcases this with rfl | rfl | rfl | rfl | rfl | rfl | rfl <;> rfl
 rw [h2] at hlen
 match l,hlen with
 | [a,b],_ => exact ⟨a,b,rfl⟩
 | [],h => simp at h
 | [_],h => simp at h
 | _ :: _ :: _ :: _,h => simp at h; omega
theorem Iw {n : Int} {l : List Int} (hlen : (l.length : Int) = y1 n) (h : 7 <= n /\ n <= 10 \/ n = 12) : ∃ a,l = [a] := by
 have h2 : y1 n = 1 := by
  have : n = 7 \/ n = 8 \/ n = 9 \/ n = 10 \/ n = 12 := by omega
  rcases this with rfl | rfl | rfl | rfl | rfl <;> rfl
 rw [h2] at hlen
 match l,hlen with
 | [a],_ => exact ⟨a,rfl⟩
 | [],h => simp at h
 | _ :: _ :: _,h => simp at h; omega
theorem XA {p : List Nd} (_ : y2 p) {n : Int} {l : List Int} (hv : ∀ v ∈ l,InP p v) (hlen : (l.length : Int) = y1 n) (_ : 1 <= n /\ n <= 12) (_ : n ≠ 7 /\ n ≠ 8) (hw : wi (DG p n l).n (-1000000000) 1000000000 = true) : okN (DG p n l) p.length = true := by
 have hB : ∀ b,okN (ndB b) p.length = true := by intro b; cases b <;> simp [ndB,okN,wi,Jm]
 unfold DG at hw ⊢
 simp only at hw ⊢
 by_cases h6 : n = 6
 ·rw [if_pos h6]
  obtain ⟨a,b,rfl⟩ := FK hlen (by omega)
  have ha := hv a (by simp)
  have hb := hv b (by simp)
  show (wi 0 0 0 && (nz ⟨#[]⟩ && (wi a 0 _ && wi b 0 _))) = true
  rw [wi_iff.2 ⟨ha.1,by omega⟩,wi_iff.2 ⟨hb.1,by omega⟩,Jm]
  rfl
 rw [if_neg h6] at hw ⊢
 by_cases h9 : n = 9
 ·rw [if_pos h9]; exact hB _
 rw [if_neg h9] at hw ⊢
 by_cases h10 : n = 10
 ·rw [if_pos h10]; exact hB _
 rw [if_neg h10] at hw ⊢
 by_cases h11 : n = 11
 ·rw [if_pos h11]; exact hB _
 rw [if_neg h11] at hw ⊢
 by_cases hn12 : n = 12
 ·rw [if_pos hn12]; exact hB _
 rw [if_neg hn12] at hw ⊢
 unfold IK at hw ⊢
 have hI : ∀ x,wi x (-1000000000) 1000000000 = true -> okN (ndI x) p.length = true := fun x hx => by
  show (wi x (-1000000000) 1000000000 && (nz ⟨#[]⟩ && _)) = true
  rw [hx,Jm]; rfl
 split at hw
 ·rw [if_pos ‹_›]; exact hI _ hw
 rw [if_neg ‹_›]
 split at hw
 ·rw [if_pos ‹_›]; exact hI _ hw
 rw [if_neg ‹_›]
 split at hw
 ·rw [if_pos ‹_›]; exact hI _ hw
 rw [if_neg ‹_›]
 split <;> exact hB _
theorem IU {p : List Nd} {n : Int} {l : List Int} (h12 : 1 <= n /\ n <= 12) (hlen : (l.length : Int) = y1 n) : JE p n l =
  if l.all (GW p n) = true then (if n = 7 then .ok (p,(nod p (l.getD 0 0)).a) else if n = 8 then .ok (p,(nod p (l.getD 0 0)).b) else if wi (DG p n l).n (-1000000000) 1000000000 = true then .ok (p ++ [DG p n l],p.length) else .error 4) else .error 3 := by
 unfold JE
 simp only
 have hBw : ∀ b,wi (ndB b).n (-1000000000) 1000000000 = true := by intro b; cases b <;> rfl
 by_cases h5 : n <= 5
 ·obtain ⟨a,b,rfl⟩ := FK hlen (by omega)
  have hc : [a,b].all (GW p n) = true ↔ (nod p a).kind = 3 /\ (nod p b).kind = 3 := by
   simp [GW,h5]
  rw [if_pos h5]
  simp only [List.getD_cons_zero,List.getD_cons_succ]
  by_cases hk : (nod p a).kind = 3 /\ (nod p b).kind = 3
  ·have n7 : ¬ n = 7 := by omega
   have n8 : ¬ n = 8 := by omega
   rw [if_pos hk,if_pos (hc.2 hk),if_neg n7,if_neg n8]
   have e : DG p n [a,b] = IK n (nod p a).n (nod p b).n := by
    unfold DG
    simp only [List.getD_cons_zero,List.getD_cons_succ]
    rw [if_neg (by omega),if_neg (by omega),if_neg (by omega),if_neg (by omega),if_neg (by omega)]
   rw [e]
   rfl
  ·rw [if_neg hk,if_neg (fun h => hk (hc.1 h))]
 rw [if_neg h5]
 by_cases h6 : n = 6
 ·subst h6
  have hc : l.all (GW p 6) = true := by simp [GW]
  rw [hc]
  simp only [if_true,DG]
  rfl
 rw [if_neg h6]
 by_cases h78 : n = 7 \/ n = 8
 ·obtain ⟨a,rfl⟩ := Iw hlen (by omega)
  have hc : [a].all (GW p n) = true ↔ (nod p a).kind = 5 := by simp [GW,h5,h78]
  rw [if_pos h78]
  simp only [List.getD_cons_zero]
  by_cases hk : (nod p a).kind = 5
  ·rw [if_pos hk,if_pos (hc.2 hk)]
   rcases h78 with rfl | rfl <;> rfl
  ·rw [if_neg hk,if_neg (fun h => hk (hc.1 h))]
 have hc : l.all (GW p n) = true := by simp [GW,h5,h78]
 rw [if_neg h78,if_pos hc,if_neg (fun h => h78 (.inl h)),if_neg (fun h => h78 (.inr h))]
 unfold DG
 simp only
 rw [if_neg h6]
 by_cases h9 : n = 9
 ·simp only [h9,if_true]; rw [if_pos (hBw _)]
 rw [if_neg h9,if_neg h9]
 by_cases h10 : n = 10
 ·simp only [h10,if_true]; rw [if_pos (hBw _)]
 rw [if_neg h10,if_neg h10]
 by_cases h11 : n = 11
 ·simp only [h11,if_true]; rw [if_pos (hBw _)]
 have hn12 : n = 12 := by omega
 rw [if_neg h11,if_neg h11,if_pos hn12,if_pos (hBw _)]
theorem Wo {p : List Nd} (hp : y2 p) (hl : p.length < 4294967290) {n : Int} {l : List Int} (hv : ∀ v ∈ l,InP p v) (h12 : 1 <= n /\ n <= 12) (hlen : (l.length : Int) = y1 n) (h11 : n = 11 -> yU p = true) :
  V 224 [rP p,iN n,.rs (1,0) (l.map eI)] = abj p (JE p n l) := by
 have hll : l.length <= 2 := by
  by_cases h : n <= 6 \/ n = 11
  ·obtain ⟨a,b,rfl⟩ := FK hlen (by omega); simp
  ·obtain ⟨a,rfl⟩ := Iw hlen (by omega); simp
 have h := RU (n := n) (l := l) (by omega) hv l.length 0 (Nat.zero_add _)
 rw [Int.natCast_zero,List.drop_zero] at h
 rw [OT,lnM,h,IU h12 hlen]
 by_cases hc : l.all (GW p n) = true
 ·rw [if_pos hc,if_pos hc,D0,xb (yr (Nat.le_refl _))]
  by_cases h7 : n = 7
  ·obtain ⟨a,rfl⟩ := Iw hlen (by omega)
   rw [xK (yF h7),if_pos h7,zG,Zo (hv a (by simp))]
   rfl
  rw [xb (yE h7),if_neg h7]
  by_cases h8 : n = 8
  ·obtain ⟨a,rfl⟩ := Iw hlen (by omega)
   rw [xK (yF h8),if_pos h8,zG,Zp (hv a (by simp))]
   rfl
  rw [xb (yE h8),if_neg h8]
  have hn := XK hp hl hv h12 ⟨h7,h8⟩ hlen h11 (fun h5 v hv' => by
   have := List.all_eq_true.1 hc v hv'
   simpa [GW,h5] using this)
  rw [Rb hn,zf (zg _ _ _)]
  cases hw : wi (DG p n l).n (-1000000000) 1000000000 with
  | false => rw [if_neg (by simp)]; rfl
  | true =>
   rw [if_pos rfl,Bool.not_true,xJ,zp (Gn (by omega) (DG p n l))]
   rfl
 ·rw [if_neg hc,if_neg hc]; rfl
theorem XJ {n : Int} (h5 : 1 <= n /\ n <= 5) {x y : Nd} (hx : x.kind = 3 -> -1000000000 <= x.n /\ x.n <= 1000000000) (hy : y.kind = 3 -> -1000000000 <= y.n /\ y.n <= 1000000000) :
  ∃ z,V 250 [iN n,eN x,eN y] = some (.tup [eN (if x.kind = 3 /\ y.kind = 3 /\ wi (IK n x.n y.n).n (-1000000000) 1000000000 = true then IK n x.n y.n else z),iN (if x.kind = 3 /\ y.kind = 3 then (if wi (IK n x.n y.n).n (-1000000000) 1000000000 = true then 0 else 4) else 3)],[]) := by
 have hBw : ∀ b,wi (ndB b).n (-1000000000) 1000000000 = true := by intro b; cases b <;> rfl
 refine ⟨⟨0,0,⟨#[]⟩,0,0⟩,?_⟩
 rw [PD]
 by_cases k1 : x.kind = 3
 ·rw [xb (yG k1)]
  by_cases k2 : y.kind = 3
  ·have a1 := hx k1
   have a2 := hy k2
   have hm := RI a1 a2
   have hk : x.kind = 3 /\ y.kind = 3 := ⟨k1,k2⟩
   rw [xb (yG k2),if_pos hk]
   have fin : ∀ (q : Int),IK n x.n y.n = ndI q -> (ck6 62 [iN q,iN (-1000000000),iN 1000000000] fun b => (br (!b) (some (D.tup [.agg [iN 0,iN 0,.str ⟨#[]⟩,iN 0,iN 0],iN 4],[])) (some (D.tup [.agg [iN 3,iN q,.str ⟨#[]⟩,iN 0,iN 0],iN 0],([] : List D))))) =
     some (D.tup [eN (if x.kind = 3 /\ y.kind = 3 /\ wi (IK n x.n y.n).n (-1000000000) 1000000000 = true then IK n x.n y.n else ⟨0,0,⟨#[]⟩,0,0⟩),iN (if wi (IK n x.n y.n).n (-1000000000) 1000000000 = true then 0 else 4)],[]) := by
    intro q hq
    rw [zM (Ae _ _ _),hq]
    simp only
    cases hw : wi q (-1000000000) 1000000000 with
    | false => rw [if_neg (by simp),if_neg (by simp)]; rfl
    | true => rw [if_pos ⟨k1,k2,rfl⟩,if_pos rfl]; rfl
   have PG : ∀ b,IK n x.n y.n = ndB b -> (FP 251 [.bool b] fun n4 n7 s10 n13 n16 => ((some (D.tup [.agg [iN n4,iN n7,.str s10,iN n13,iN n16],iN 0],([] : List D))))) =
     some (D.tup [eN (if x.kind = 3 /\ y.kind = 3 /\ wi (IK n x.n y.n).n (-1000000000) 1000000000 = true then IK n x.n y.n else ⟨0,0,⟨#[]⟩,0,0⟩),iN (if wi (IK n x.n y.n).n (-1000000000) 1000000000 = true then 0 else 4)],[]) := by
    intro b hb
    rw [Da (IZ b),hb,if_pos ⟨k1,k2,hBw b⟩,if_pos (hBw b)]
   have w1 : w6 (x.n - y.n) = x.n - y.n := w64 (by omega) (by omega)
   have w2 : w6 (x.n * y.n) = x.n * y.n := w64 (by omega) (by omega)
   have w3 : w6 (x.n + y.n) = x.n + y.n := w64 (by omega) (by omega)
   rw [w1,w2,w3]
   by_cases c2 : n = 2
   ·rw [xK (yF c2)]; exact fin _ (by subst c2; rfl)
   rw [xb (yE c2)]
   by_cases c3 : n = 3
   ·rw [xK (yF c3)]; exact fin _ (by subst c3; rfl)
   rw [xb (yE c3)]
   by_cases c4 : n = 4
   ·rw [xK (yF c4)]; exact PG _ (by subst c4; rfl)
   rw [xb (yE c4)]
   by_cases c5 : n = 5
   ·rw [xK (yF c5)]; exact PG _ (by subst c5; rfl)
   rw [xb (yE c5)]
   have c1 : n = 1 := by omega
   exact fin _ (by subst c1; rfl)
  ·rw [xK (yH k2),if_neg (fun h => k2 h.2.1),if_neg (fun h => k2 h.2)]
 ·rw [xK (yH k1),if_neg (fun h => k1 h.1),if_neg (fun h => k1 h.1)]
theorem aa6 {p : List Nd} (hp : y2 p) (hl : p.length < 4294967290) {n : Int} {l : List Int} (hv : ∀ v ∈ l,InP p v) (h12 : 1 <= n /\ n <= 12) (hlen : (l.length : Int) = y1 n) :
  V 246 [rP p,iN n,.rs (1,0) (l.map eI)] = abj p (JE p n l) := by
 obtain ⟨a,r,rfl⟩ : ∃ a r,l = a :: r := by
  by_cases h : n <= 6 \/ n = 11
  ·obtain ⟨a,b,rfl⟩ := FK hlen (by omega); exact ⟨_,_,rfl⟩
  ·obtain ⟨a,rfl⟩ := Iw hlen (by omega); exact ⟨_,_,rfl⟩
 have ha := hv a (by simp)
 rw [Xg,zG,Ce ha]
 unfold JE
 simp only [List.getD_cons_zero]
 by_cases h5 : n <= 5
 ·obtain ⟨a',b,e⟩ := FK hlen (by omega)
  cases e
  have hb := hv b (by simp)
  obtain ⟨z,hz⟩ := XJ (n := n) (by omega) (x := nod p a) (y := nod p b) (Pd (EJ hp ha)) (Pd (EJ hp hb))
  rw [xK (decide_eq_true h5),if_pos h5,Du,Ce hb,Re hz]
  simp only [List.getD_cons_zero,List.getD_cons_succ]
  by_cases hk : (nod p a).kind = 3 /\ (nod p b).kind = 3
  ·have e : (if n = 1 then ndI ((nod p a).n + (nod p b).n) else if n = 2 then ndI ((nod p a).n - (nod p b).n) else if n = 3 then ndI ((nod p a).n * (nod p b).n) else if n = 4 then ndB (decide ((nod p a).n < (nod p b).n)) else ndB ((nod p a).n == (nod p b).n)) = IK n (nod p a).n (nod p b).n := rfl
   rw [if_pos hk,if_pos hk,e]
   by_cases hw : wi (IK n (nod p a).n (nod p b).n).n (-1000000000) 1000000000 = true
   ·have hc : (nod p a).kind = 3 /\ (nod p b).kind = 3 /\ wi (IK n (nod p a).n (nod p b).n).n (-1000000000) 1000000000 = true := ⟨hk.1,hk.2,hw⟩
    rw [if_pos hw,if_pos hw,xb (yG rfl)]
    simp only [if_pos hc]
    rw [yV (zi (by omega) (IK n (nod p a).n (nod p b).n))]
    rfl
   ·rw [if_neg hw,if_neg hw]; rfl
  ·rw [if_neg hk,if_neg hk]; rfl
 rw [xb (decide_eq_false h5),if_neg h5]
 by_cases h6 : n = 6
 ·obtain ⟨a',b,e⟩ := FK hlen (by omega)
  cases e
  rw [xK (yF h6),if_pos h6,zG,Du,yV (zi (by omega) (ndP a b))]
  rfl
 rw [xb (yE h6),if_neg h6]
 by_cases h8 : n <= 8
 ·rw [xK (decide_eq_true h8),if_pos (by omega)]
  by_cases hk : (nod p a).kind = 5
  ·rw [xb (yG hk),if_pos hk]
   by_cases h7 : n = 7
   ·rw [xK (yF h7),if_pos h7]; rfl
   ·rw [xb (yE h7),if_neg h7]; rfl
  ·rw [xK (yH hk),if_neg hk]; rfl
 rw [xb (decide_eq_false h8),if_neg (by omega)]
 by_cases h9 : n = 9
 ·rw [xK (yF h9),if_pos h9,Da (IZ _),yV (zi (by omega) (ndB _))]; rfl
 rw [xb (yE h9),if_neg h9]
 by_cases h10 : n = 10
 ·rw [xK (yF h10),if_pos h10,Da (IZ _),yV (zi (by omega) (ndB _))]; rfl
 rw [xb (yE h10),if_neg h10]
 by_cases h11 : n = 11
 ·obtain ⟨a',b,e⟩ := FK hlen (by omega)
  cases e
  have hb := hv b (by simp)
  rw [xK (yF h11),if_pos h11,Qg (Wq hp hl),zG,AX ha.1 (by rw [LU]; exact ha.2),Du,AX hb.1 (by rw [LU]; exact hb.2),Da (IZ _),yV (zi (by omega) (ndB _))]
  rfl
 rw [xb (yE h11),if_neg h11]
 cases hk2 : (nod p a).kind == 2 with
 | true => rw [yk,Da (IZ _),yV (zi (by omega) (ndB _)),Bool.true_and]; rfl
 | false => rw [xJ,Da (IZ _),yV (zi (by omega) (ndB _)),Bool.false_and]; rfl
end
end Go.Eng
/-! a step of a machine keeps it right: plain -/
namespace Go.Eng

theorem zb {p : List Nd} (hp : y2 p) {x : Nd} (hx : okN x p.length = true) : y2 (p ++ [x]) := by
 intro j y hy
 rcases Nat.lt_or_ge j p.length with h | h
 ·rw [List.getElem?_append_left h] at hy; exact hp j y hy
 ·rw [List.getElem?_append_right h] at hy
  have : j = p.length := by have := aQ hy; simp at this; omega
  subst this
  simp at hy; subst hy; exact hx
theorem Ug (h : Int) : okN ndN h = true := by
 show (wi 0 0 0 && (nz ⟨#[]⟩ && _)) = true
 rw [Jm]; rfl
theorem KE {a b : Int} {n : Nat} (ha : 0 <= a /\ a < (n : Int)) (hb : 0 <= b /\ b < (n : Int)) : okN (ndP a b) n = true := by
 show (wi 0 0 0 && (nz ⟨#[]⟩ && (wi a 0 _ && wi b 0 _))) = true
 rw [wi_iff.2 ⟨ha.1,by omega⟩,wi_iff.2 ⟨hb.1,by omega⟩,Jm]; rfl
theorem Pe {n h : Int} (hn : -1000000000 <= n /\ n <= 1000000000) : okN (ndI n) h = true := by
 show (wi n (-1000000000) 1000000000 && (nz ⟨#[]⟩ && _)) = true
 rw [wi_iff.2 hn,Jm]; rfl
theorem Yp {k a : Int} {n : Nat} (hk : 0 <= k /\ k <= 1000000000) (ha : 0 <= a /\ a < (n : Int)) : okN (ndF k a) n = true := by
 show (wi k 0 1000000000 && (nz ⟨#[]⟩ && (wi a 0 _ && _))) = true
 rw [wi_iff.2 hk,wi_iff.2 ⟨ha.1,by omega⟩,Jm]; rfl
theorem Uf {a : Int} {n : Nat} (ha : 0 <= a /\ a < (n : Int)) : okN (ndK a) n = true := by
 show (wi 0 0 0 && (nz ⟨#[]⟩ && (wi a 0 _ && _))) = true
 rw [wi_iff.2 ⟨ha.1,by omega⟩,Jm]; rfl
theorem aaz {k h : Int} (hk : 0 <= k /\ k <= 99) : okN (ndR k) h = true := by
 show (wi k 0 99 && (nz ⟨#[]⟩ && _)) = true
 rw [wi_iff.2 hk,Jm]; rfl
theorem zO (p : List Nd) (x : Nd) : InP (p ++ [x]) (p.length : Int) := ⟨by omega,by simp only [lnA,lnC,lnN]; omega⟩
theorem Mu : ∀ (r : List Int) (q : List Nd) (c : Nat),y2 q -> c < q.length -> (∀ v ∈ r,InP q v) -> y2 (AK r q c).1 /\ (∃ t,(AK r q c).1 = q ++ t /\ t.length = r.length) /\ (AK r q c).2 < (AK r q c).1.length
 | [],q,c,hq,hc,hr => ⟨hq,⟨[],by simp [AK],rfl⟩,hc⟩
 | x :: r,q,c,hq,hc,hr => by
  have hx := hr x (by simp)
  obtain ⟨h1,⟨t,h2,h3⟩,h4⟩ := Mu r (q ++ [ndP x c]) q.length (zb hq (KE hx ⟨by omega,by omega⟩)) (by simp) (fun v hv => yX _ (hr v (by simp [hv])))
  exact ⟨h1,⟨ndP x c :: t,by rw [AK,h2]; simp,by simp [h3]⟩,h4⟩
theorem CX {q : List Nd} {row : List Int} (hq : y2 q) (hr : ∀ v ∈ row,InP q v) : y2 (yR q row).1 /\ (∃ t,(yR q row).1 = q ++ t /\ t.length = row.length + 1) /\ InP (yR q row).1 ((yR q row).2 : Int) := by
 obtain ⟨h1,⟨t,h2,h3⟩,h4⟩ := Mu row.reverse (q ++ [ndN]) q.length (zb hq (Ug _)) (by simp) (fun v hv => yX _ (hr v (by simpa using hv)))
 refine ⟨h1,⟨ndN :: t,by unfold yR; rw [h2]; simp,by simp [h3]⟩,⟨by omega,?_⟩⟩
 have : (yR q row).2 < (yR q row).1.length := h4
 omega
structure GM (m : Mc) : Prop where
 ok : y2 m.pool
 s : InP m.pool m.s
 e : InP m.pool m.e
 d : InP m.pool m.d
theorem Js {m : Mc} (h : GM m) {v : Int} (hv : InP m.pool v) : GM (LI m v) :=
 ⟨zb h.ok (KE hv h.s),zO _ _,yX _ h.e,yX _ h.d⟩
theorem CH {m m' : Mc} (h : GM m) {v : Int} (ht : CG m = some (v,m')) : GM m' /\ InP m'.pool v /\ m'.pool = m.pool /\ m'.at' = m.at' /\ m'.state = m.state /\ m'.ask = m.ask /\ m'.arg = m.arg /\ m'.d = m.d := by
 obtain ⟨h1,h2,h3,h4,h5,h6,h7,h8,h9⟩ := Wg h.ok h.s ht
 exact ⟨⟨by rw [h2]; exact h.ok,by rw [h2]; exact h3,by rw [h2,h4]; exact h.e,by rw [h2,h5]; exact h.d⟩,by rw [h2]; exact h1,h2,h6,h7,h8,h9,h5⟩
theorem KG : ∀ {k : Nat} {m m' : Mc} {l : List Int},GM m -> Dw k m = some (l,m') -> GM m' /\ (∀ v ∈ l,InP m'.pool v) /\ l.length = k /\ m'.pool = m.pool /\ m'.at' = m.at' /\ m'.state = m.state /\ m'.ask = m.ask /\ m'.arg = m.arg /\ m'.d = m.d
 | 0,m,m',l,h,ht => by
  simp only [Dw,Option.some.injEq,Prod.mk.injEq] at ht
  obtain ⟨rfl,rfl⟩ := ht
  exact ⟨h,by simp,rfl,rfl,rfl,rfl,rfl,rfl,rfl⟩
 | k + 1,m,m',l,h,ht => by
  simp only [Dw] at ht
  split at ht
  ·cases ht
  ·rename_i v m1 h1
   split at ht
   ·cases ht
   ·rename_i l2 m2 h2
    cases ht
    obtain ⟨g1,g2,g3,g4,g5,g6,g7,g8⟩ := CH h h1
    obtain ⟨f1,f2,f3,f4,f5,f6,f7,f8,f9⟩ := KG g1 h2
    refine ⟨f1,fun u hu => ?_,by simp [f3],f4.trans g3,f5.trans g4,f6.trans g5,f7.trans g6,f8.trans g7,f9.trans g8⟩
    rcases List.mem_cons.1 hu with rfl | hu
    ·rw [f4]; exact g2
    ·exact f2 u hu
theorem GL {p : List Nd} (hp : y2 p) {v : Int} (hv : InP p v) : ∀ x ∈ (zR p v).1,InP p x := Yg hp _ v hv
theorem RC {c : Cd} {p : List Nd} (hp : y2 p) {v : Int} (hv : InP p v) {many : Nat} {n : Int} {r : List Int} (h : Jj c p v many = some (n,r)) : zP c n = true /\ (∀ x ∈ r,InP p x) /\ r.length + 1 = many := by
 unfold Jj at h
 split at h
 ·rename_i a r' he
  split at h
  ·rename_i hc
   cases h
   have := GL hp hv
   rw [he] at this
   exact ⟨hc.2.2,fun x hx => this x (by simp [hx]),hc.1⟩
  ·cases h
 ·cases h
structure GoesM (c : Cd) (m m' : Mc) (k : Nat) : Prop where
 gm : GM m'
 ext : ∃ t,m'.pool = m.pool ++ t /\ t.length <= k
 st : JN c m' = true
theorem Ke {c : Cd} {m : Mc} (h0 : m.state = 0) (h1 : m.ask = 0) (h2 : m.arg = 0) (h3 : zP c m.at' = true) : JN c m = true := by
 unfold JN
 rw [if_pos h0,h1,h2]
 unfold zP at h3
 rw [h3]; rfl
structure RunM (c : Cd) (m : Mc) : Prop where
 gm : GM m
 st : m.state = 0
 ask : m.ask = 0
 arg : m.arg = 0
 pl : zP c m.at' = true
theorem isPl_iff {c : Cd} {n : Int} : zP c n = true ↔ 0 <= n /\ n <= (c.list.length : Int) - 1 := wi_iff
theorem UY {c : Cd} (hc : c.list.length <= 400) {m m' : Mc} (h : RunM c m) {f : Nd} (hf : InP m.pool f.a) {l : List Int} (hl : ∀ v ∈ l,InP m.pool v) (he : Jg c m f l = .ok m') : GoesM c m m' (l.length + 9) := by
 unfold Jg at he
 split at he
 ·cases he
 split at he
 ·cases he
 rename_i h1 h2
 have hpl := isPl_iff.1 h.pl
 simp only [Except.ok.injEq] at he
 have o1 : y2 (m.pool ++ [ndI (m.at' + 1)]) := zb h.gm.ok (Pe (by omega))
 obtain ⟨b1,⟨t,b2,b3⟩,b4⟩ := CX (row := [(m.pool.length : Int),m.s,m.e]) o1 (fun v hv => by
  simp only [List.mem_cons,List.not_mem_nil,or_false] at hv
  rcases hv with rfl | rfl | rfl
  ·exact zO _ _
  ·exact yX _ h.gm.s
  ·exact yX _ h.gm.e)
 have e1 : (yR (m.pool ++ [ndI (m.at' + 1)]) [(m.pool.length : Int),m.s,m.e]).1 = m.pool ++ (ndI (m.at' + 1) :: t) := by rw [b2]; simp
 have up : ∀ {v : Int},InP m.pool v -> InP (yR (m.pool ++ [ndI (m.at' + 1)]) [(m.pool.length : Int),m.s,m.e]).1 v := fun hv => by rw [e1]; exact yX _ hv
 have o2 := zb b1 (KE b4 (up h.gm.d))
 obtain ⟨v1,⟨t2,v2,v3⟩,v4⟩ := CX (row := l) o2 (fun v hv => yX _ (up (hl v hv)))
 have up2 : ∀ {v : Int},InP ((yR (m.pool ++ [ndI (m.at' + 1)]) [(m.pool.length : Int),m.s,m.e]).1 ++ [ndP ((yR (m.pool ++ [ndI (m.at' + 1)]) [(m.pool.length : Int),m.s,m.e]).2 : Int) m.d]) v -> InP (yR ((yR (m.pool ++ [ndI (m.at' + 1)]) [(m.pool.length : Int),m.s,m.e]).1 ++ [ndP ((yR (m.pool ++ [ndI (m.at' + 1)]) [(m.pool.length : Int),m.s,m.e]).2 : Int) m.d]) l).1 v := fun hv => by rw [v2]; exact yX _ hv
 have o3 := zb v1 (KE v4 (up2 (yX _ (up hf))))
 have o4 := zb o3 (Ug _)
 subst he
 refine ⟨⟨o4,?_,?_,?_⟩,⟨ndI (m.at' + 1) :: t ++ [ndP ((yR (m.pool ++ [ndI (m.at' + 1)]) [(m.pool.length : Int),m.s,m.e]).2 : Int) m.d] ++ t2 ++ [ndP ((yR ((yR (m.pool ++ [ndI (m.at' + 1)]) [(m.pool.length : Int),m.s,m.e]).1 ++ [ndP ((yR (m.pool ++ [ndI (m.at' + 1)]) [(m.pool.length : Int),m.s,m.e]).2 : Int) m.d]) l).2 : Int) f.a] ++ [ndN],?_,?_⟩,?_⟩
 ·have := zO ((yR ((yR (m.pool ++ [ndI (m.at' + 1)]) [(m.pool.length : Int),m.s,m.e]).1 ++ [ndP ((yR (m.pool ++ [ndI (m.at' + 1)]) [(m.pool.length : Int),m.s,m.e]).2 : Int) m.d]) l).1 ++ [ndP ((yR ((yR (m.pool ++ [ndI (m.at' + 1)]) [(m.pool.length : Int),m.s,m.e]).1 ++ [ndP ((yR (m.pool ++ [ndI (m.at' + 1)]) [(m.pool.length : Int),m.s,m.e]).2 : Int) m.d]) l).2 : Int) f.a]) ndN
  simpa using this
 ·exact yX _ (zO _ _)
 ·exact yX _ (yX _ (up2 (zO _ _)))
 ·show _ ++ _ ++ _ = _
  rw [v2,b2]
  simp
 ·simp only [lnA,lnC,lnN,b3,v3]; omega
 ·exact Ke h.st h.ask h.arg (by simpa using h2)
theorem Y4 {c : Cd} {m m' : Mc} (h : RunM c m) {st : Int} (hs : InP m.pool st) {l : List Int} (hl : ∀ v ∈ l,InP m.pool v) (he : Um c m st l = .ok m') : GoesM c m m' 1 := by
 unfold Um at he
 split at he
 ·cases he
 rename_i h1
 split at he
 ·rename_i n s e d hf
  obtain ⟨f1,f2,f3⟩ := RC h.gm.ok hs hf
  cases he
  have hv : InP m.pool (l.getD 0 0) := by
   match l,h1 with
   | [v],_ => exact hl v (by simp)
   | [],h => simp at h
   | _ :: _ :: _,h => simp at h
  have g : GM ⟨m.pool,n,s,e,d,m.state,m.ask,m.arg⟩ := ⟨h.gm.ok,f2 s (by simp),f2 e (by simp),f2 d (by simp)⟩
  exact ⟨Js g hv,⟨[_],rfl,Nat.le_refl _⟩,Ke h.st h.ask h.arg f1⟩
 ·cases he
theorem Qp {p q : List Nd} (hp : y2 p) {n v : Int} {l : List Int} (hv : ∀ v ∈ l,InP p v) (h12 : 1 <= n /\ n <= 12) (hlen : (l.length : Int) = y1 n) (h : JE p n l = .ok (q,v)) : y2 q /\ InP q v /\ ∃ t,q = p ++ t /\ t.length <= 1 := by
 rw [IU h12 hlen] at h
 split at h
 ·rename_i hc
  have one : n = 7 \/ n = 8 -> ∃ a,l = [a] /\ (nod p a).kind = 5 := by
   intro h78
   obtain ⟨a,rfl⟩ := Iw hlen (by omega)
   have := List.all_eq_true.1 hc a (by simp)
   refine ⟨a,rfl,?_⟩
   have h5 : ¬ n <= 5 := by omega
   simpa [GW,h5,h78] using this
  split at h
  ·rename_i h7
   cases h
   obtain ⟨a,rfl,hk⟩ := one (.inl h7)
   exact ⟨hp,J4 hp (hv a (by simp)) (.inl hk),[],by simp,by simp⟩
  ·split at h
   ·rename_i h7 h8
    cases h
    obtain ⟨a,rfl,hk⟩ := one (.inr h8)
    exact ⟨hp,Lh hp (hv a (by simp)) hk,[],by simp,by simp⟩
   ·rename_i h7 h8
    split at h
    ·rename_i hw
     cases h
     exact ⟨zb hp (XA hp hv hlen h12 ⟨h7,h8⟩ hw),zO _ _,_,rfl,Nat.le_refl _⟩
    ·cases h
 ·cases h
theorem BG {n : Int} {k : Nat} (h : y1 n = (k : Int)) : 1 <= n /\ n <= 19 /\ k <= 2 := by
 unfold y1 at h
 split at h
 ·rename_i hw
  have := wi_iff.1 hw
  refine ⟨this.1,this.2,?_⟩
  have hm : prArgs.getD (n - 1).toNat 0 <= 2 := by
   rcases Nat.lt_or_ge (n - 1).toNat prArgs.length with h | h
   ·have := List.getElem_mem (l := prArgs) h
    rw [List.getD_eq_getElem?_getD,List.getElem?_eq_getElem h,Option.getD_some]
    have all : ∀ x ∈ prArgs,x <= 2 := by decide
    exact all _ this
   ·rw [List.getD_eq_getElem?_getD,List.getElem?_eq_none h]; decide
  omega
 ·omega
theorem Pg {c : Cd} (hc : c.list.length <= 400) : ∀ (k : Nat) {m m' : Mc} {f : Int} {l : List Int},RunM c m -> zP c (m.at' + 1) = true -> InP m.pool f -> (∀ v ∈ l,InP m.pool v) -> l.length <= 4 -> CU c k m f l = .ok m' -> ∃ t,GoesM c m m' t /\ t <= 13 + 7 * k
 | 0,m,m',f,l,h,hnx,hf,hl,h4,he => by cases he
 | k + 1,m,m',f,l,h,hnx,hf,hl,h4,he => by
  unfold CU at he
  simp only at he
  split at he
  ·rename_i h6
   exact ⟨_,UY hc h (J4 h.gm.ok hf (.inr (.inl h6))) hl he,by omega⟩
  split at he
  ·rename_i h6 h8
   split at he
   ·cases he
   rename_i hargs
   have hargs : y1 (nod m.pool f).n = (l.length : Int) := by omega
   obtain ⟨n1,n19,l2⟩ := BG hargs
   split at he
   ·rename_i h18
    have hpl := isPl_iff.1 h.pl
    have o1 : y2 (m.pool ++ [ndI (m.at' + 1)]) := zb h.gm.ok (Pe (by omega))
    obtain ⟨b1,⟨t,b2,b3⟩,b4⟩ := CX (row := [(m.pool.length : Int),m.s,m.e,m.d]) o1 (fun v hv => by
     simp only [List.mem_cons,List.not_mem_nil,or_false] at hv
     rcases hv with rfl | rfl | rfl | rfl
     ·exact zO _ _
     ·exact yX _ h.gm.s
     ·exact yX _ h.gm.e
     ·exact yX _ h.gm.d)
    have e1 : (yR (m.pool ++ [ndI (m.at' + 1)]) [(m.pool.length : Int),m.s,m.e,m.d]).1 = m.pool ++ (ndI (m.at' + 1) :: t) := by rw [b2]; simp
    have up : ∀ {v : Int},InP m.pool v -> InP ((yR (m.pool ++ [ndI (m.at' + 1)]) [(m.pool.length : Int),m.s,m.e,m.d]).1 ++ [ndK ((yR (m.pool ++ [ndI (m.at' + 1)]) [(m.pool.length : Int),m.s,m.e,m.d]).2 : Int)]) v := fun hv => yX _ (by rw [e1]; exact yX _ hv)
    have hl0 : InP m.pool (l.getD 0 0) := by
     match l,hargs with
     | v :: _,_ => exact hl v (by simp)
     | [],h => rw [h18] at h; cases h
    have g2 : RunM c ⟨(yR (m.pool ++ [ndI (m.at' + 1)]) [(m.pool.length : Int),m.s,m.e,m.d]).1 ++ [ndK ((yR (m.pool ++ [ndI (m.at' + 1)]) [(m.pool.length : Int),m.s,m.e,m.d]).2 : Int)],m.at',m.s,m.e,m.d,m.state,m.ask,m.arg⟩ :=
     ⟨⟨zb b1 (Uf b4),up h.gm.s,up h.gm.e,up h.gm.d⟩,h.st,h.ask,h.arg,h.pl⟩
    obtain ⟨q,⟨g3,⟨t3,g4,g5⟩,g6⟩,g7⟩ := Pg hc k g2 hnx (up hl0) (fun v hv => by
     simp only [List.mem_singleton] at hv; subst hv; exact zO _ _) (by simp) he
    refine ⟨q + 7,⟨g3,⟨ndI (m.at' + 1) :: t ++ [ndK ((yR (m.pool ++ [ndI (m.at' + 1)]) [(m.pool.length : Int),m.s,m.e,m.d]).2 : Int)] ++ t3,?_,?_⟩,g6⟩,by omega⟩
    ·rw [g4]
     show _ ++ _ ++ _ = _
     rw [b2]
     simp
    ·simp only [lnA,lnC,lnN,b3]; omega
   split at he
   ·rename_i h18 h12
    simp only [Except.ok.injEq] at he
    obtain ⟨b1,⟨t,b2,b3⟩,b4⟩ := CX (row := l) h.gm.ok hl
    subst he
    have up : ∀ {v : Int},InP m.pool v -> InP (yR m.pool l).1 v := fun hv => by rw [b2]; exact yX _ hv
    refine ⟨l.length + 1,⟨⟨b1,up h.gm.s,up h.gm.e,up h.gm.d⟩,⟨t,b2,by omega⟩,?_⟩,by omega⟩
    unfold JN
    have hpl : wi m.at' 0 ((c.list.length : Int) - 1) = true := h.pl
    have hn : wi (nod m.pool f).n 13 19 = true := wi_iff.2 ⟨by omega,n19⟩
    have hr : Gb (yR m.pool l).1 ((yR m.pool l).2 : Int) = true := wi_iff.2 ⟨b4.1,by have := b4.2; omega⟩
    simp only
    rw [if_neg (by omega),if_pos trivial,hpl,hn,hr,yH h18]
    rfl
   split at he
   ·cases he
   ·rename_i h18 h12 p v hp
    cases he
    obtain ⟨q1,q2,t,q3,q4⟩ := Qp h.gm.ok hl (by omega) hargs.symm hp
    have up : ∀ {v : Int},InP m.pool v -> InP p v := fun hv => by rw [q3]; exact yX _ hv
    refine ⟨2,⟨⟨zb q1 (KE q2 (up h.gm.s)),zO _ _,yX _ (up h.gm.e),yX _ (up h.gm.d)⟩,⟨t ++ [ndP v m.s],by show p ++ _ = _; rw [q3]; simp,by simp; omega⟩,?_⟩,by omega⟩
    exact Ke h.st h.ask h.arg hnx
  split at he
  ·rename_i h6 h8 h7
   exact ⟨1,Y4 h (J4 h.gm.ok hf (.inr (.inr h7))) hl he,by omega⟩
  ·cases he
theorem QG {c : Cd} (hc : c.list.length <= 400) {m m' : Mc} (h : RunM c m) {k : Nat} (hk : k <= 4) (he : Bh c m k = .ok m') : ∃ t,GoesM c m m' t /\ t <= 34 := by
 unfold Bh at he
 split at he
 ·cases he
 rename_i hnx
 split at he
 ·cases he
 ·rename_i l m1 ht
  obtain ⟨f1,f2,f3,f4,f5,f6,f7,f8,f9⟩ := KG h.gm ht
  have g : RunM c m1 := ⟨f1,f6.trans h.st,f7.trans h.ask,f8.trans h.arg,by rw [f5]; exact h.pl⟩
  have hrev : ∀ v ∈ l.reverse,InP m1.pool v := fun v hv => f2 v (by simpa using hv)
  obtain ⟨a,r,hr⟩ : ∃ a r,l.reverse = a :: r := by
   cases hq : l.reverse with
   | nil => rw [<- List.length_reverse,hq] at f3; simp at f3
   | cons a r => exact ⟨a,r,rfl⟩
  rw [hr] at he hrev
  have hlen : r.length = k := by rw [<- List.length_reverse,hr] at f3; simpa using f3
  obtain ⟨t,⟨g1,⟨q,g2,g3⟩,g4⟩,g5⟩ := Pg hc 3 g (by rw [f5]; simpa using hnx) (hrev a (by simp)) (fun v hv => hrev v (by simpa using .inr hv)) (by simpa using (by omega : r.length <= 4)) he
  exact ⟨t,⟨g1,⟨q,by rw [g2,f4],g3⟩,g4⟩,by omega⟩
theorem WS {c : Cd} {m m' : Mc} (h : RunM c m) (he : Jz c m = .ok m') : GoesM c m m' 1 := by
 unfold Jz at he
 split at he
 ·cases he
 ·rename_i v m1 ht
  obtain ⟨f1,f2,f4,f5,f6,f7,f8,f9⟩ := CH h.gm ht
  simp only at he
  split at he
  ·cases he
   refine ⟨⟨f1.ok,f1.s,f1.e,f1.d⟩,⟨[],by rw [List.append_nil]; exact f4,by simp⟩,?_⟩
   unfold JN
   have hv : Gb m1.pool v = true := wi_iff.2 ⟨f2.1,by have := f2.2; omega⟩
   show (if (2 : Int) = 0 then _ else if (2 : Int) = 1 then _ else if (2 : Int) = 2 then _ else _) = true
   rw [if_neg (by omega),if_neg (by omega),if_pos rfl,hv,f7,h.ask]
   rfl
  ·split at he
   ·cases he
   ·rename_i h1 h5
    have h5 : (nod m1.pool m1.d).kind = 5 := by simpa using h5
    split at he
    ·rename_i n s e hf
     obtain ⟨q1,q2,q3⟩ := RC f1.ok (J4 f1.ok f1.d (.inl h5)) hf
     cases he
     have g : GM ⟨m1.pool,n,s,e,(nod m1.pool m1.d).b,m1.state,m1.ask,m1.arg⟩ := ⟨f1.ok,q2 s (by simp),q2 e (by simp),Lh f1.ok f1.d h5⟩
     exact ⟨Js g f2,⟨[_],by rw [<- f4]; rfl,Nat.le_refl _⟩,Ke (f6.trans h.st) (f7.trans h.ask) (f8.trans h.arg) q1⟩
    ·cases he
theorem D6 {q p : List Nd} (hq : yU q = true) (hp : y2 p) {v : Int} (hv : InP q v) (d : Int) : y2 (z3 d q v p).1 /\ InP (z3 d q v p).1 (z3 d q v p).2 /\ ∃ t,(z3 d q v p).1 = p ++ t /\ t.length <= q.length := by
 obtain ⟨h1,h2⟩ := PT hq hp [v] d
 have hr : y4 q [v] = true := by
  simp only [y4,List.all_cons,List.all_nil,Bool.and_true]
  exact wi_iff.2 ⟨hv.1,by omega⟩
 have hon := Eo hr v (by simp)
 obtain ⟨x,hx⟩ := xx (l := q) (i := v.toNat) (by omega)
 obtain ⟨j,hj,hj2⟩ := h2 v.toNat x hx hon
 refine ⟨h1,?_,?_⟩
 ·unfold z3
  simp only
  rw [List.getD_eq_getElem?_getD,hj,Option.getD_some]
  have := aQ hj2
  exact ⟨by omega,by omega⟩
 ·obtain ⟨r,hr⟩ := PX d q (AZ q [v]) q.length [] p
  have hl := My d q (AZ q [v]) q.length [] p
  refine ⟨r,hr,?_⟩
  rw [hr] at hl
  simp only [lnA] at hl
  omega
theorem IQ {c : Cd} (hc : zy c = true) {k : Nat} {x : In} (hx : c.list[k]? = some x) : Jq c x k = true := by
 unfold zy at hc
 simp only [Bool.and_eq_true] at hc
 have key : ∀ (n i : Nat),Ej c i n = true -> ∀ j,i <= j -> j < i + n -> ∀ x,c.list[j]? = some x -> Jq c x j = true := by
  intro n
  induction n with
  | zero => intro i _ j h1 h2; omega
  | succ n ih =>
   intro i h j h1 h2 x hx
   simp only [Ej,Bool.and_eq_true] at h
   rcases Nat.lt_or_ge i j with hij | hij
   ·exact ih (i + 1) h.2 j hij (by omega) x hx
   ·have : j = i := by omega
    subst this
    have h3 := h.1
    rw [hx] at h3
    exact h3
 exact key c.list.length 0 hc.2.2.2.1 k (Nat.zero_le _) (by have := aQ hx; omega) x hx
theorem NQ {c : Cd} (hc : zy c = true) {k : Nat} {x : Df} (hx : c.defs[k]? = some x) : VU c x k = true := by
 unfold zy at hc
 simp only [Bool.and_eq_true] at hc
 have key : ∀ (n i : Nat),Cx c i n = true -> ∀ j,i <= j -> j < i + n -> ∀ x,c.defs[j]? = some x -> VU c x j = true := by
  intro n
  induction n with
  | zero => intro i _ j h1 h2; omega
  | succ n ih =>
   intro i h j h1 h2 x hx
   simp only [Cx,Bool.and_eq_true] at h
   rcases Nat.lt_or_ge i j with hij | hij
   ·exact ih (i + 1) h.2 j hij (by omega) x hx
   ·have : j = i := by omega
    subst this
    have h3 := h.1
    rw [hx] at h3
    exact h3
 exact key c.defs.length 0 hc.2.2.2.2 k (Nat.zero_le _) (by have := aQ hx; omega) x hx
theorem zu {c : Cd} (hc : zy c = true) : yU c.pool = true /\ c.list.length <= 400 /\ c.defs.length <= 20 := by
 unfold zy at hc
 simp only [Bool.and_eq_true,decide_eq_true_eq] at hc
 exact ⟨hc.1,hc.2.1,hc.2.2.1⟩
theorem IG {c : Cd} {m : Mc} {r : Except Int Mc} {next : Int} {m' : Mc} {k : Nat} (hr : ∀ m1,r = .ok m1 -> GM m1 /\ (∃ t,m1.pool = m.pool ++ t /\ t.length <= k) /\ m1.state = 0 /\ m1.ask = 0 /\ m1.arg = 0) (he : goM c r next = .ok m') : GoesM c m m' k := by
 unfold goM at he
 split at he
 ·cases he
 ·rename_i m1
  obtain ⟨h1,h2,h3,h4,h5⟩ := hr m1 rfl
  split at he
  ·rename_i hp
   cases he
   exact ⟨⟨h1.ok,h1.s,h1.e,h1.d⟩,h2,Ke h3 h4 h5 hp⟩
  ·cases he
theorem aaI {m m1 : Mc} (h : GM m) {o i : Int} (he : WD m o i = .ok m1) : GM m1 /\ (∃ t,m1.pool = m.pool ++ t /\ t.length <= 1) /\ m1.state = m.state /\ m1.ask = m.ask /\ m1.arg = m.arg := by
 unfold WD at he
 split at he
 ·cases he
 ·rename_i fr hfr
  split at he
  ·cases he
  ·rename_i v hv
   cases he
   exact ⟨Js h (MC h.ok _ _ _ (MC h.ok _ _ _ h.e hfr) hv),⟨[_],rfl,Nat.le_refl _⟩,rfl,rfl,rfl⟩
theorem Nn {c : Cd} {s : ByteArray} (h : 0 <= CW c s) : ∃ d,c.defs[(CW c s).toNat]? = some d := by
 have hb : CW c s < (c.defs.length : Int) := by
  unfold CW ya at h ⊢
  cases hq : c.defs.findIdx? (fun d : Df => kc d.name s) with
  | none => rw [hq] at h; simp at h
  | some k =>
   rw [List.findIdx?_eq_some_iff_getElem] at hq
   obtain ⟨hk,_⟩ := hq
   simp only; omega
 exact xx (by omega)
theorem ZK {c : Cd} (hc : zy c = true) {m m1 : Mc} (h : GM m) {s : ByteArray} (he : JU c m s = .ok m1) : GM m1 /\ (∃ t,m1.pool = m.pool ++ t /\ t.length <= 3) /\ m1.state = m.state /\ m1.ask = m.ask /\ m1.arg = m.arg := by
 obtain ⟨_,c2,_⟩ := zu hc
 unfold JU at he
 split at he
 ·rename_i hd
  obtain ⟨d,hdg⟩ := Nn hd
  have hok := NQ hc hdg
  unfold VU at hok
  simp only [Bool.and_eq_true] at hok
  have a1 := wi_iff.1 hok.2.2.1
  have a2 := wi_iff.1 hok.2.2.2
  simp only [List.getD_eq_getElem?_getD,hdg,Option.getD_some,Except.ok.injEq] at he
  subst he
  have o1 := zb h.ok (Ug (m.pool.length : Int))
  have o2 := zb o1 (Yp (k := 8 * d.at' + d.args) (a := (m.pool.length : Int)) (n := (m.pool ++ [ndN]).length) (by omega) ⟨by omega,by simp only [lnA,lnC,lnN]; omega⟩)
  have g : GM ⟨m.pool ++ [ndN] ++ [ndF (8 * d.at' + d.args) m.pool.length],m.at',m.s,m.e,m.d,m.state,m.ask,m.arg⟩ := ⟨o2,yX _ (yX _ h.s),yX _ (yX _ h.e),yX _ (yX _ h.d)⟩
  refine ⟨Js g ⟨by omega,by simp only [lnA,lnC,lnN]; omega⟩,⟨_,by show _ ++ _ ++ _ ++ _ = _; rw [List.append_assoc,List.append_assoc],by simp⟩,rfl,rfl,rfl⟩
 ·split at he
  ·cases he
  ·simp only [Except.ok.injEq] at he
   subst he
   have hb := Jr s
   have o1 := zb h.ok (aaz (k := Ch s) (h := (m.pool.length : Int)) (by omega))
   have g : GM ⟨m.pool ++ [ndR (Ch s)],m.at',m.s,m.e,m.d,m.state,m.ask,m.arg⟩ := ⟨o1,yX _ h.s,yX _ h.e,yX _ h.d⟩
   exact ⟨Js g (zO _ _),⟨_,by show _ ++ _ ++ _ = _; rw [List.append_assoc],by simp⟩,rfl,rfl,rfl⟩
theorem Ql {c : Cd} {x : In} {k : Int} (h : Jq c x k = true) (h1 : x.op = 1) : InP c.pool x.n := by
 unfold Jq at h
 rw [if_pos h1] at h
 simp only [Bool.and_eq_true] at h
 have := wi_iff.1 h.1
 exact ⟨this.1,by omega⟩
theorem VW {c : Cd} {x : In} {k : Int} (h : Jq c x k = true) (h1 : x.op = 2) : (0 <= x.n /\ x.n <= 20) /\ 0 <= x.i /\ x.i <= 3 := by
 unfold Jq at h
 rw [if_neg (by omega),if_pos h1] at h
 simp only [Bool.and_eq_true] at h
 exact ⟨wi_iff.1 h.1,wi_iff.1 h.2.1⟩
theorem Qk {c : Cd} {x : In} {k : Int} (h : Jq c x k = true) (h1 : x.op = 6) : (k + 1 <= x.n /\ x.n <= (c.list.length : Int) - 1) /\ 0 <= x.i /\ x.i <= 4 := by
 unfold Jq at h
 rw [if_neg (by omega),if_neg (by omega),if_neg (by omega),if_neg (by omega),if_pos h1] at h
 simp only [Bool.and_eq_true] at h
 exact ⟨wi_iff.1 h.1,wi_iff.1 h.2.1⟩
theorem NT {c : Cd} {x : In} {k : Int} (h : Jq c x k = true) (h1 : x.op = 7) : 0 <= x.i /\ x.i <= 4 := by
 unfold Jq at h
 rw [if_neg (by omega),if_neg (by omega),if_neg (by omega),if_neg (by omega),if_neg (by omega),if_pos h1] at h
 simp only [Bool.and_eq_true] at h
 exact wi_iff.1 h.2.1
theorem VX {c : Cd} (hc : zy c = true) {m m' : Mc} (h : RunM c m) {x : In} {k : Nat} (hx : c.list[k]? = some x) (he : Gh c m x = .ok m') : GoesM c m m' (c.pool.length + 3) := by
 have hok := IQ hc hx
 have hk := aQ hx
 obtain ⟨c1,c2,_⟩ := zu hc
 unfold Gh at he
 split at he
 ·rename_i h1
  have hlit := Ql hok h1
  obtain ⟨f1,f2,t,f3,f4⟩ := D6 c1 h.gm.ok hlit (-1)
  refine IG (fun m1 e => ?_) he
  cases e
  have up : ∀ {v : Int},InP m.pool v -> InP (z3 (-1) c.pool x.n m.pool).1 v := fun hv => by rw [f3]; exact yX _ hv
  have g : GM ⟨(z3 (-1) c.pool x.n m.pool).1,m.at',m.s,m.e,m.d,m.state,m.ask,m.arg⟩ := ⟨f1,up h.gm.s,up h.gm.e,up h.gm.d⟩
  refine ⟨Js g f2,⟨t ++ [_],by show (z3 (-1) c.pool x.n m.pool).1 ++ _ = _; rw [f3,List.append_assoc],by simp; omega⟩,h.st,h.ask,h.arg⟩
 split at he
 ·refine IG (fun m1 e => ?_) he
  obtain ⟨g1,⟨t,g2,g3⟩,g4,g5,g6⟩ := aaI h.gm e
  exact ⟨g1,⟨t,g2,by omega⟩,g4.trans h.st,g5.trans h.ask,g6.trans h.arg⟩
 split at he
 ·refine IG (fun m1 e => ?_) he
  obtain ⟨g1,⟨t,g2,g3⟩,g4,g5,g6⟩ := ZK hc h.gm e
  exact ⟨g1,⟨t,g2,by omega⟩,g4.trans h.st,g5.trans h.ask,g6.trans h.arg⟩
 split at he
 ·refine IG (fun m1 e => ?_) he
  cases e
  exact ⟨h.gm,⟨[],by simp,by simp⟩,h.st,h.ask,h.arg⟩
 split at he
 ·rename_i h6
  have hf := Qk hok h6
  refine IG (fun m1 e => ?_) he
  cases e
  have o1 := zb h.gm.ok (Yp (k := 8 * x.n + x.i) (n := m.pool.length) (by omega) h.gm.e)
  have g : GM ⟨m.pool ++ [ndF (8 * x.n + x.i) m.e],m.at',m.s,m.e,m.d,m.state,m.ask,m.arg⟩ := ⟨o1,yX _ h.gm.s,yX _ h.gm.e,yX _ h.gm.d⟩
  exact ⟨Js g (zO _ _),⟨_,by show _ ++ _ ++ _ = _; rw [List.append_assoc],by simp⟩,h.st,h.ask,h.arg⟩
 ·split at he
  ·cases he
  ·rename_i v m1 ht
   obtain ⟨f1,f2,f4,f5,f6,f7,f8,f9⟩ := CH h.gm ht
   refine IG (fun m2 e => ?_) he
   cases e
   exact ⟨f1,⟨[],by simp [f4],by simp⟩,f6.trans h.st,f7.trans h.ask,f8.trans h.arg⟩
theorem Kc {c : Cd} {m : Mc} (h : Bm c m = true) (h0 : m.state = 0) : RunM c m /\ zy c = true /\ m.pool.length <= 3000 := by
 unfold Bm at h
 simp only [Bool.and_eq_true] at h
 obtain ⟨h1,h2,h3,h4,h5,h6⟩ := h
 obtain ⟨p1,p2⟩ := okPool_iff.1 h2
 have a3 := wi_iff.1 h3
 have a4 := wi_iff.1 h4
 have a5 := wi_iff.1 h5
 unfold JN at h6
 rw [if_pos h0] at h6
 simp only [Bool.and_eq_true,beq_iff_eq] at h6
 exact ⟨⟨⟨p1,⟨a3.1,by omega⟩,⟨a4.1,by omega⟩,⟨a5.1,by omega⟩⟩,h0,h6.2.1,h6.2.2,h6.1⟩,h1,p2⟩
theorem Un {c : Cd} {m : Mc} (h : RunM c m) : ∃ x,c.list[m.at'.toNat]? = some x := by
 have := isPl_iff.1 h.pl
 exact xx (by omega)
theorem Pm {c : Cd} (hc : zy c = true) {m m' : Mc} (h : RunM c m) (he : doM c m = .ok m') : GoesM c m m' (c.pool.length + 34) := by
 obtain ⟨x,hx⟩ := Un h
 have hok := IQ hc hx
 obtain ⟨c1,c2,_⟩ := zu hc
 unfold doM at he
 simp only [List.getD_eq_getElem?_getD,hx,Option.getD_some] at he
 split at he
 ·rename_i h7
  have := NT hok h7
  obtain ⟨t,⟨g1,⟨q,g2,g3⟩,g4⟩,g5⟩ := QG c2 h (k := x.i.toNat) (by omega) he
  exact ⟨g1,⟨q,g2,by omega⟩,g4⟩
 split at he
 ·obtain ⟨g1,⟨q,g2,g3⟩,g4⟩ := WS h he
  exact ⟨g1,⟨q,g2,by omega⟩,g4⟩
 ·obtain ⟨g1,⟨q,g2,g3⟩,g4⟩ := VX hc h hx he
  exact ⟨g1,⟨q,g2,by omega⟩,g4⟩
theorem Yo {c : Cd} {m : Mc} (hc : zy c = true) (hp : y2 m.pool) (hl : m.pool.length <= 3000) (hs : InP m.pool m.s) (he : InP m.pool m.e) (hd : InP m.pool m.d) (ht : JN c m = true) : Bm c m = true := by
 unfold Bm
 have h1 : yU m.pool = true := okPool_iff.2 ⟨hp,hl⟩
 have h2 : Gb m.pool m.s = true := wi_iff.2 ⟨hs.1,by omega⟩
 have h3 : Gb m.pool m.e = true := wi_iff.2 ⟨he.1,by omega⟩
 have h4 : Gb m.pool m.d = true := wi_iff.2 ⟨hd.1,by omega⟩
 rw [hc,h1,h2,h3,h4,ht]
 rfl
theorem CN {c : Cd} {m : Mc} (h : Bm c m = true) : zy c = true /\ y2 m.pool /\ m.pool.length <= 3000 /\ InP m.pool m.s /\ InP m.pool m.e /\ InP m.pool m.d /\ JN c m = true := by
 unfold Bm at h
 simp only [Bool.and_eq_true] at h
 obtain ⟨h1,h2,h3,h4,h5,h6⟩ := h
 obtain ⟨p1,p2⟩ := okPool_iff.1 h2
 have a3 := wi_iff.1 h3
 have a4 := wi_iff.1 h4
 have a5 := wi_iff.1 h5
 exact ⟨h1,p1,p2,⟨a3.1,by omega⟩,⟨a4.1,by omega⟩,⟨a5.1,by omega⟩,h6⟩
theorem Vj {c : Cd} {m : Mc} (h : Bm c m = true) {k : Int} (hk : 1 <= k /\ k <= 7) : Bm c (NW m k) = true := by
 obtain ⟨h1,h2,h3,h4,h5,h6,_⟩ := CN h
 refine Yo h1 h2 h3 h4 h5 h6 ?_
 unfold JN NW
 simp only
 rw [if_neg (by omega),if_neg (by omega),if_neg (by omega),wi_iff.2 hk]
 rfl
end Go.Eng
