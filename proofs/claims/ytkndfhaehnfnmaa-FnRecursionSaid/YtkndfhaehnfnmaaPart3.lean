/- the program and the reference on plain data, part 3 -/
import Derived.Test.YtkndfhaehnfnmaaPart2
import Derived.Test.YtkndfhaehnfnmaaPart1
import Derived.Test.YtkndfhaehnfnmaaEngC
/-! the node of a word,on both sides -/
namespace Go.Eng
noncomputable section
open Go.Proofs Go.Proofs.Try
set_option maxHeartbeats 4000000

def Jq (r : Option Nat) : Option Int := match r with | some n => if n <= 1000000000 then some (n : Int) else none | none => none
def Nu (r : Option Nat) : Option Int := match r with | some n => if 0 < n /\ n <= 1000000000 then some (-(n : Int)) else none | none => none
def Pg (l : List UInt8) : Option Int := match l with
 | x :: d :: r => if x = 45 /\ dU d = true then Nu (Cx (d :: r)) else Jq (Cx l)
 | _ => Jq (Cx l)
def Fa (r : Option Int) (l : List UInt8) : Option Nd := match r with | some n => some ⟨3,n,⟨#[]⟩,0,0⟩ | none => if Dv (mk l) = true then some ⟨4,0,mk l,0,0⟩ else none
def AK (l : List UInt8) : Option Nd := if l = [35,116] then some ⟨2,1,⟨#[]⟩,0,0⟩ else if l = [35,102] then some ⟨2,0,⟨#[]⟩,0,0⟩ else Fa (Pg l) l
def EH (r : Option Nd) (x : Nd) (b : Bool) : Prop := match r with | some y => x = y /\ b = true | none => b = false
theorem GD {l : List UInt8} {n : Nat} (h : Cx l = some n) : l.length ≠ 0 /\ ¬ 10 < l.length /\ ¬ (l[0]? = some 48 /\ 1 < l.length) /\ l.all dU = true /\ n = J8 0 l /\ n < 10000000000 := by
 unfold Cx at h
 split at h
 ·cases h
 ·rename_i hn
  cases h
  have ha : l.all dU = true := by
   cases e : l.all dU with
   | true => rfl
   | false => exact absurd (.inr (.inr (.inr e))) hn
  have h10 : ¬ 10 < l.length := fun e => hn (.inr (.inl e))
  have := OQ l 0 0 ha (by simp)
  rw [Nat.zero_add] at this
  have := Mq (k := l.length) (by omega)
  exact ⟨fun e => hn (.inl e),h10,fun e => hn (.inr (.inr (.inl e))),ha,rfl,by omega⟩
theorem QY {l : List UInt8} {n : Nat} (h : Cx l = some n) : Dv (mk l) = false := by
 have hs := GD h
 match l,hs with
 | x :: r,hs =>
  have : dU x = true := by have := hs.2.2.2.1; rw [List.all_cons,Bool.and_eq_true] at this; exact this.1
  exact LZ (j := 0) (x := x) rfl this
def tx (l : List UInt8) : Nd := match Cx l with | some n => ⟨3,(n : Int),⟨#[]⟩,0,0⟩ | none => ⟨4,0,mk l,0,0⟩
def tb (l : List UInt8) : Bool := match Cx l with | some n => decide (n <= 1000000000) | none => Dv (mk l)
theorem JB (l : List UInt8) : EH (Fa (Jq (Cx l)) l) (tx l) (tb l) := by
 unfold tx tb
 cases h : Cx l with
 | none =>
  cases e : Dv (mk l) with
  | true => simp [Jq,Fa,EH,e]
  | false => simp [Jq,Fa,EH,e]
 | some n =>
  have := QY h
  by_cases h1 : n <= 1000000000
  ·simp [Jq,Fa,EH,h1]
  ·simp [Jq,Fa,EH,h1,this]
theorem Sq {l : List UInt8} (hb : l.length < 4611686018427387904) :
 @Eq (Option Ret) (iw V 60 [(.str (mk l)),(iN (10))] fun x36 l37 =>
   tk9 x36 fun n41 b44 => (unn l37 (br b44
      (
       br (decide (n41 <= 1000000000))
       (
       br (decide (n41 > 0))
       (some ((.tup [(.agg [(iN (3)),(iN (w6 (1 * n41))),(.str ({ data := #[] })),(iN (0)),(iN (0))]),(.bool true)]),[]))
       (some ((.tup [(.agg [(iN (3)),(iN (w6 (1 * n41))),(.str ({ data := #[] })),(iN (0)),(iN (0))]),(.bool true)]),[])))
       (some ((.tup [(.agg [(iN (3)),(iN (w6 (1 * n41))),(.str ({ data := #[] })),(iN (0)),(iN (0))]),(.bool false)]),[])))
      (
       iw V 45 [(.str (mk l))] fun x45 l46 =>
       asB x45 fun b47 => unn l46 (some ((.tup [(.agg [(iN (4)),(iN (0)),(.str (mk l)),(iN (0)),(iN (0))]),(.bool b47)]),[])))))) (some (.tup [eN (tx l),.bool (tb l)],[])) := by
 have hn := KF l hb
 have hnm := Aj (s := mk l) (by rw [xH]; exact hb)
 unfold tx tb
 cases h : Cx l with
 | none =>
  rw [h] at hn
  rw [AR hn,wy,GV hnm]
 | some n =>
  have hs := (GD h).2.2.2.2.2
  rw [h] at hn
  rw [AR hn,xd,show (1 : Int) * n = n by omega,w64 (by omega) (by omega)]
  by_cases h1 : n <= 1000000000
  ·have e : decide (n <= 1000000000) = true := decide_eq_true h1
   rw [wz (decide_eq_true (by omega))]
   by_cases h0 : n = 0
   ·subst h0; rfl
   ·rw [wz (decide_eq_true (by omega))]; simp only [e]
  ·have e : decide (n <= 1000000000) = false := decide_eq_false h1
   rw [vJ (decide_eq_false (by omega))]; simp only [e]
theorem Qm {l : List UInt8} (h : ¬ (l[0]? = some 45 /\ 1 < l.length)) : Pg l = Jq (Cx l) := by
 match l with
 | [] => rfl
 | [x] => rfl
 | x :: d :: r => rw [Pg,if_neg]; rintro ⟨e,_⟩; exact h ⟨by rw [e]; rfl,by simp⟩
theorem NR {l : List UInt8} (hb : l.length < 4611686018427387904) : ∃ x b,V 35 [.str (mk l)] = some (.tup [eN x,.bool b],[]) /\ EH (AK l) x b := by
 have e1 : jH (mk l) ⟨#[35,116]⟩ = decide (l = [35,116]) := JA l _
 have e2 : jH (mk l) ⟨#[35,102]⟩ = decide (l = [35,102]) := JA l _
 rw [IU,e1,e2,Sq hb]
 unfold AK
 by_cases h1 : l = [35,116]
 ·rw [wz (decide_eq_true h1),if_pos h1]; exact ⟨⟨2,1,⟨#[]⟩,0,0⟩,true,rfl,rfl,rfl⟩
 rw [vJ (decide_eq_false h1),if_neg h1]
 by_cases h2 : l = [35,102]
 ·rw [wz (decide_eq_true h2),if_pos h2]; exact ⟨⟨2,0,⟨#[]⟩,0,0⟩,true,rfl,rfl,rfl⟩
 rw [vJ (decide_eq_false h2),if_neg h2,xH]
 by_cases hn : l[0]? = some 45 /\ 1 < l.length
 ·obtain ⟨hx,hl⟩ := hn
  match l,hx,hl with
  | x :: d :: r,hx,hl =>
   have hx : x = 45 := by simpa using hx
   subst hx
   have hd := GH d
   have hb0 : bt (mk (45 :: d :: r)) 0 = 45 := GN (i := 0) (x := 45) rfl
   have hb1 : bt (mk (45 :: d :: r)) 1 = (d.toNat : Int) := GN (i := 1) (x := d) rfl
   rw [wz (decide_eq_true (by simp only [ni]; omega)),xl (by simp only [ni,Bool.and_eq_true,decide_eq_true_eq]; omega),hb0,wz (by decide),xl (by simp only [ni,Bool.and_eq_true,decide_eq_true_eq]; omega),hb1,C6 hd]
   rw [Pg]
   cases hdd : dU d with
   | false =>
    rw [wy,if_neg (by simp)]
    exact ⟨_,_,rfl,JB _⟩
   | true =>
    have hnm : Dv (mk (45 :: d :: r)) = false := LZ (j := 1) (x := d) rfl hdd
    have e : ByteArray.extract (mk (45 :: d :: r)) (Int.toNat 1) (45 :: d :: r).length = mk (d :: r) := by
     rw [Fx]; congr 1; simp
    have hn := KF (d :: r) (by simp at hb ⊢; omega)
    rw [xd,if_pos ⟨rfl,rfl⟩,xl (by unfold cE; simp; omega),e]
    cases hf : Cx (d :: r) with
    | none =>
     rw [hf] at hn
     rw [AR hn,wy]
     exact ⟨⟨4,0,mk (45 :: d :: r),0,0⟩,false,rfl,by simp [Nu,Fa,hnm,EH]⟩
    | some n =>
     have hs := (GD hf).2.2.2.2.2
     rw [hf] at hn
     rw [AR hn,xd,show (-1 : Int) * n = -n by omega,w64 (by omega) (by omega)]
     by_cases h1 : n <= 1000000000
     ·rw [wz (decide_eq_true (by omega))]
      by_cases h0 : n = 0
      ·subst h0
       rw [vJ (by decide)]
       exact ⟨⟨3,-((0 : Nat) : Int),⟨#[]⟩,0,0⟩,false,rfl,by simp [Nu,Fa,hnm,EH]⟩
      ·rw [wz (decide_eq_true (by omega))]
       exact ⟨⟨3,-(n : Int),⟨#[]⟩,0,0⟩,true,rfl,by rw [Nu,if_pos ⟨by omega,h1⟩]; exact ⟨rfl,rfl⟩⟩
     ·rw [vJ (decide_eq_false (by omega))]
      exact ⟨⟨3,-(n : Int),⟨#[]⟩,0,0⟩,false,rfl,by simp [Nu,Fa,hnm,EH,h1]⟩
 ·rw [Qm hn]
  refine ⟨_,_,?_,JB l⟩
  by_cases hl : 1 < l.length
  ·obtain ⟨x,hx⟩ := wj (l := l) (i := 0) (by omega)
   have hbt : bt (mk l) 0 = (x.toNat : Int) := GN hx
   have hne : x.toNat ≠ 45 := by
    intro h; apply hn; rw [hx]; exact ⟨by congr 1; exact UInt8.toNat_inj.1 h,hl⟩
   rw [wz (decide_eq_true (by simp only [ni]; omega)),xl (by simp only [ni,Bool.and_eq_true,decide_eq_true_eq]; omega),hbt,vJ (by simp only [beq_eq_false_iff_ne,ne_eq]; omega)]
  ·rw [vJ (decide_eq_false (by simp only [ni]; omega))]
end
end Go.Eng
/-! sizes told: printed by mkz.py -/
namespace Go.Eng
open Go.Proofs Go.Proofs.Try
set_option maxHeartbeats 4000000
set_option maxRecDepth 100000

theorem sz3 : TypeInfo.size (Tables.types (Program.toTables Try.prog))[3] = 1 := by kernel_rfl
theorem fl3 : qc Try.prog (3) = true := by kernel_rfl

theorem zF (p0 : ByteArray) (p1 : Int) (p2 : List D) (p3 : List D) (p4 : List D) : xI p0 p1 p2 p3 p4 =
 br (decide (p1 < ni (ByteArray.size p0)))
  (
  grd (decide (0 <= p1) && decide (p1 < ni (ByteArray.size p0))) (br (bt p0 p1 == 32)
  (xI p0 (w6 (p1 + 1)) p2 p3 p4)
  (
   br (bt p0 p1 == 40)
   (grd (decide
 (ni
   (List.length
    (p3 ++
     [D.os
       (1,0)
       []])) <=
  LIM)) (nam (p3 ++
 [D.os
   (1,0)
   []]) fun a =>
   grd (decide (ni (List.length (p4 ++ [iN p1])) <= LIM)) (nam (p4 ++ [iN p1]) fun b =>
    xI p0 (w6 (p1 + 1)) p2 a b)))
   (
   br (bt p0 p1 == 41)
   (
    iw V 33 [(.op [(.os (5,0) p2),(.os (1,2) p3),(.os (1,0) p4)])] fun a b =>
    asB a fun c => unc b fun d e => JD d fun f g h => (unn e (br (!c)
         (some ((.tup [(iN (5)),(iN p1)]),[(.op [(.os (5,0) f),(.os (1,2) g),(.os (1,0) h)])]))
         (xI p0 (w6 (p1 + 1)) f g h))))
   (
    iw V 34 [(.int .u8 (bt p0 p1))] fun a b =>
    asB a fun c => unn b (br (!c)
     (some ((.tup [(iN (2)),(iN p1)]),[(.op [(.os (5,0) p2),(.os (1,2) p3),(.os (1,0) p4)])]))
     (yu p0 p1 p1 p2 p3 p4)))))))
  (
  br (decide (ni p4.length > 0))
  (
   grd (decide (0 <= w6 (ni p4.length - 1)) && decide (w6 (ni p4.length - 1) < ni p4.length)) (cy p4 (Int.toNat (w6 (ni p4.length - 1))) fun a =>
   asI .i64 a fun b => some ((.tup [(iN (4)),(iN b)]),[(.op [(.os (5,0) p2),(.os (1,2) p3),(.os (1,0) p4)])])))
  (some ((.tup [(iN (0)),(iN (ni (ByteArray.size p0)))]),[(.op [(.os (5,0) p2),(.os (1,2) p3),(.os (1,0) p4)])]))) := by
 have h := Cj p0 p1 p2 p3 p4
 simp only [sz3,fl3] at h
 exact h
theorem FG (p : List D) (o : List D) (t : List D) (v : Int) : V 36 [.op [.os (5,0) p,.os (1,2) o,.os (1,0) t],iN v] =
 grd (decide (0 <= w6 (ni o.length - 1)) && decide (w6 (ni o.length - 1) < ni o.length)) (cy o (Int.toNat (w6 (ni o.length - 1))) fun a =>
  iJ (1,0) a fun b => grd (decide (ni (List.length (b ++ [iN v])) <= LIM)) (nam (b ++ [iN v]) fun c =>
   grd (decide (0 <= w6 (ni o.length - 1)) && decide (w6 (ni o.length - 1) < ni (List.length (List.set o (Int.toNat (w6 (ni o.length - 1))) D.dead)))) (cy (List.set o (Int.toNat (w6 (ni o.length - 1))) D.dead) (Int.toNat (w6 (ni o.length - 1))) fun _ =>
   nam (List.set (List.set o (Int.toNat (w6 (ni o.length - 1))) D.dead) (Int.toNat (w6 (ni o.length - 1)))
 (D.os
  (1,0)
  c)) fun d =>
    some ((.tup []),[(.op [(.os (5,0) p),(.os (1,2) d),(.os (1,0) t)])])))) := by
 have h := FU p o t v
 simp only [sz3,fl3] at h
 exact h

end Go.Eng
/-! reading a text,on both sides -/
namespace Go.Eng
noncomputable section
open Go.Proofs Go.Proofs.Try
set_option maxHeartbeats 4000000

def zl : List Int -> List Nd -> Nat -> List Nd × Nat
 | [],q,c => (q,c)
 | x :: r,q,c => zl r (q ++ [⟨5,0,⟨#[]⟩,x,(c : Int)⟩]) q.length
def xK (q : List Nd) (row : List Int) : List Nd × Nat := zl row.reverse (q ++ [⟨1,0,⟨#[]⟩,0,0⟩]) q.length
theorem I4 : ∀ (r : List Int) (q : List Nd) (c : Nat),(zl r q c).1.length = q.length + r.length
 | [],q,c => rfl
 | x :: r,q,c => by rw [zl,I4 r]; simp only [lnA,lnC,lnN]; omega
theorem Cw (q : List Nd) (row : List Int) : (xK q row).1.length = q.length + row.length + 1 := by
 rw [xK,I4]; simp only [lnA,lnC,lnN,List.length_reverse]; omega
theorem GB {q : List Nd} (h : AX q) {x : Nd} (hx : x.s.size < 4611686018427387904) : AX (q ++ [x]) := by
 intro y hy
 rcases List.mem_append.1 hy with h1 | h1
 ·exact h y h1
 ·rw [List.mem_singleton.1 h1]; exact hx
theorem GR : ∀ (r : List Int) (q : List Nd) (c : Nat),AX q -> AX (zl r q c).1
 | [],q,c,h => h
 | x :: r,q,c,h => GR r _ _ (GB h (x := ⟨5,0,⟨#[]⟩,x,(c : Int)⟩) (by show (0 : Nat) < _; omega))
theorem Nr {q : List Nd} (h : AX q) (row : List Int) : AX (xK q row).1 := GR _ _ _ (GB h (x := ⟨1,0,⟨#[]⟩,0,0⟩) (by show (0 : Nat) < _; omega))
theorem Qx {row : List Int} {k : Nat} {x : Int} (hx : row[k]? = some x) : (row.take (k + 1)).reverse = x :: (row.take k).reverse := by
 rw [List.take_add_one,hx]; simp
theorem Lr {q : List Nd} (h : q.length < 4294967296) (a b : Int) : V 75 [rP q,iN a,iN b] = some (iN q.length,[rP (q ++ [⟨5,0,⟨#[]⟩,a,b⟩])]) := by
 have := AJ h ⟨5,0,⟨#[]⟩,a,b⟩
 rw [Ia,xT this]
theorem IW {row : List Int} (hr : row.length < 4294967296) : ∀ (k : Nat) (q : List Nd) (c : Nat),k <= row.length -> q.length + k < 4294967296 ->
  zb (row.map eI) (c : Int) ((k : Int) - 1) (q.map eN) = some (iN (zl (row.take k).reverse q c).2,[rP (zl (row.take k).reverse q c).1])
 | 0,q,c,_,_ => by rw [Ak,vJ (decide_eq_false (by omega))]; rfl
 | k + 1,q,c,hk,hq => by
  obtain ⟨x,hx⟩ := wj (l := row) (i := k) (by omega)
  have hp := Lr (q := q) (by omega) x c
  have ih := IW hr k (q ++ [⟨5,0,⟨#[]⟩,x,(c : Int)⟩]) q.length (by omega) (by simp only [lnA,lnC,lnN]; omega)
  have e : ((k + 1 : Nat) : Int) - 1 = (k : Int) := by omega
  rw [Ak,e,wz (decide_eq_true (by omega)),xl (by rw [lnM]; exact xo (by omega)),Int.toNat_natCast,wT hx,w7,AP hp,w64 (by omega) (by omega),ih,Qx hx,zl]
theorem JJ {q : List Nd} {row : List Int} (h : q.length + row.length < 4294967290) : V 57 [rP q,.rs (1,0) (row.map eI)] = some (iN (xK q row).2,[rP (xK q row).1]) := by
 have ha := AJ (p := q) (by omega) ⟨1,0,⟨#[]⟩,0,0⟩
 have hl := IW (row := row) (by omega) row.length (q ++ [⟨1,0,⟨#[]⟩,0,0⟩]) q.length (Nat.le_refl _) (by simp only [lnA,lnC,lnN]; omega)
 rw [List.take_length] at hl
 rw [G9,xT ha,lnM,w64 (by simp only [ni]; omega) (by simp only [ni]; omega)]
 exact hl
abbrev RwF := Int × List Int
inductive RdR where
 | err (c a : Int)
 | ok (q : List Nd) (row : List Int)
def AC (l : List UInt8) (j : Nat) : Nat := j + ((l.drop j).takeWhile zm).length
def Ou (l : List UInt8) (G : Nat -> List RwF -> RwF -> List Nd -> RdR) (i : Nat) (o : List RwF) (t : RwF) (q : List Nd) : Option UInt8 -> RdR
 | none => if o = [] then .ok q t.2 else .err 4 t.1
 | some x =>
   if x = 32 then G (i + 1) o t q
   else if x = 40 then G (i + 1) (t :: o) ((i : Int),[]) q
   else if x = 41 then match o with
    | [] => .err 5 (i : Int)
    | u :: o => G (i + 1) o (u.1,u.2 ++ [((xK q t.2).2 : Int)]) (xK q t.2).1
   else if zm x = true then match AK ((l.drop i).take (AC l i - i)) with
    | none => .err 3 (i : Int)
    | some nd => G (AC l i) o (t.1,t.2 ++ [(q.length : Int)]) (q ++ [nd])
   else .err 2 (i : Int)
def B9 (l : List UInt8) : Nat -> Nat -> List RwF -> RwF -> List Nd -> RdR
 | 0,_,_,_,_ => .err 1 0
 | k + 1,i,o,t,q => Ou l (B9 l k) i o t q l[i]?
theorem Iu (l : List UInt8) (G : Nat -> List RwF -> RwF -> List Nd -> RdR) (i : Nat) (o : List RwF) (t : RwF) (q : List Nd) : Ou l G i o t q none = if o = [] then .ok q t.2 else .err 4 t.1 := rfl
theorem Ef (l : List UInt8) (G : Nat -> List RwF -> RwF -> List Nd -> RdR) (i : Nat) (o : List RwF) (t : RwF) (q : List Nd) (x : UInt8) : Ou l G i o t q (some x) = (if x = 32 then G (i + 1) o t q
   else if x = 40 then G (i + 1) (t :: o) ((i : Int),[]) q
   else if x = 41 then match o with
    | [] => .err 5 (i : Int)
    | u :: o => G (i + 1) o (u.1,u.2 ++ [((xK q t.2).2 : Int)]) (xK q t.2).1
   else if zm x = true then match AK ((l.drop i).take (AC l i - i)) with
    | none => .err 3 (i : Int)
    | some nd => G (AC l i) o (t.1,t.2 ++ [(q.length : Int)]) (q ++ [nd])
   else .err 2 (i : Int)) := rfl
theorem Gk (l : List UInt8) (k i : Nat) (o : List RwF) (t : RwF) (q : List Nd) : B9 l (k + 1) i o t q = Ou l (B9 l k) i o t q l[i]? := rfl
theorem JL {l : List UInt8} {j : Nat} {x : UInt8} (hx : l[j]? = some x) (h : zm x = true) : AC l j = AC l (j + 1) := by
 unfold AC; rw [sn hx,List.takeWhile_cons,if_pos h]; simp only [lnC]; omega
theorem PI {l : List UInt8} {j : Nat} {x : UInt8} (hx : l[j]? = some x) (h : zm x = false) : AC l j = j := by
 unfold AC; rw [sn hx,List.takeWhile_cons,if_neg (by rw [h]; simp)]; rfl
theorem QL {l : List UInt8} {j : Nat} (h : l.length <= j) : AC l j = j := by
 unfold AC; rw [List.drop_of_length_le h]; rfl
theorem Lu {l : List UInt8} {j : Nat} (h : j <= l.length) : j <= AC l j /\ AC l j <= l.length := by
 unfold AC
 have := (List.takeWhile_sublist (p := zm) (l := l.drop j)).length_le
 rw [List.length_drop] at this
 omega
def phi (o : List RwF) (t : RwF) (q : List Nd) : Nat := q.length + t.2.length + (o.map fun x => x.2.length).sum
theorem NU {l : List UInt8} {x : Nd} (h : AK l = some x) : x.s.size <= l.length := by
 unfold AK Fa at h
 split at h
 ·cases h; exact Nat.zero_le _
 split at h
 ·cases h; exact Nat.zero_le _
 split at h
 ·cases h; exact Nat.zero_le _
 split at h
 ·cases h; exact Nat.le_of_eq (xH _)
 ·cases h
abbrev eR (x : RwF) : D := .os (1,0) (x.2.map eI)
abbrev rRd (q : List Nd) (o : List D) (a : List D) : D := .op [.os (5,0) (q.map eN),.os (1,2) o,.os (1,0) a]
theorem Iq {A B : List D} {x : D} (K : D -> Option Ret) : cy (A ++ x :: B) A.length K = K x := by simp [cy]
theorem Lg {A B : List D} {x v : D} : (A ++ x :: B).set A.length v = A ++ v :: B := by simp
theorem QT {A : List D} {x : D} (h : A.length < 4611686018427387904) : w6 (ni (A ++ [x]).length - 1) = (A.length : Int) := by
 rw [w64 (by simp only [ni]; omega) (by simp only [ni,lnA,lnC,lnN]; omega)]
 simp [ni]
theorem in1 {A : List D} {x : D} : (decide (0 <= (A.length : Int)) && decide ((A.length : Int) < ni (A ++ [x]).length)) = true := xo (by simp)
theorem Qd {l : List D} (h : l.length <= 4294967296) : decide (ni l.length <= LIM) = true := decide_eq_true (by rw [oE]; simp only [ni]; omega)
theorem Rz {q : List Nd} {A a : List D} {r : List Int} (hA : A.length < 4294967296) (hr : r.length < 4294967290) (v : Int) : V 36 [rRd q (A ++ [.os (1,0) (r.map eI)]) a,iN v] = some (.tup [],[rRd q (A ++ [.os (1,0) ((r ++ [v]).map eI)]) a]) := by
 rw [FG,QT (by omega),xl in1,Int.toNat_natCast,Iq,Lg]
 have e : ∀ K : List D -> Option Ret,iJ (1,0) (.os (1,0) (r.map eI)) K = K (r.map eI) := fun K => rfl
 rw [e,xl (Qd (by simp; omega)),xq,xl in1,Iq,Lg,xq]
 simp
theorem Ri {q : List Nd} {A a : List D} {r s : List Int} {b : D} (hA : A.length < 4294967290) (ha : a.length < 4294967290) (hr : r.length < 4294967290) (hs : q.length + s.length < 4294967290) :
  V 33 [rRd q ((A ++ [.os (1,0) (r.map eI)]) ++ [.os (1,0) (s.map eI)]) (a ++ [b])] = some (.bool true,[rRd (xK q s).1 (A ++ [.os (1,0) ((r ++ [((xK q s).2 : Int)]).map eI)]) a]) := by
 have hl := JJ (q := q) (row := s) hs
 have hp := Rz (q := (xK q s).1) (A := A) (a := a) (r := r) (by omega) hr ((xK q s).2 : Int)
 have e : ∀ K : List D -> Option Ret,iJ (1,0) (.os (1,0) (s.map eI)) K = K (s.map eI) := fun K => rfl
 have hA1 : (A ++ [D.os (1,0) (r.map eI)]).length = A.length + 1 := by simp
 have e1 : w6 (ni ((A ++ [D.os (1,0) (r.map eI)]) ++ [D.os (1,0) (s.map eI)]).length - 1) = ((A ++ [D.os (1,0) (r.map eI)]).length : Int) := QT (by rw [hA1]; omega)
 have e2 : w6 (ni (a ++ [b]).length - 1) = (a.length : Int) := QT (by omega)
 have p1 : ∀ (X : List D) (y : D),part (X ++ [y]) (some (0,X.length)) = X := fun X y => by simp [part]
 rw [AH,e1,e2,vJ (by rw [hA1]; simp only [beq_eq_false_iff_ne,ne_eq]; omega),xl in1,Int.toNat_natCast,Int.toNat_natCast,Iq,Lg,e,z0 hl,xl (by unfold cE; simp; try omega),xl (by unfold cE; simp; try omega),p1,p1,Bh hp]
def Sn (r : Option Nd) (l : List UInt8) (i j : Nat) (q : List Nd) (A a : List D) (t : List Int) : Option Ret := match r with
 | none => some (.tup [iN 3,iN (i : Int)],[rRd q (A ++ [.os (1,0) (t.map eI)]) a])
 | some nd => xI (mk l) (j : Int) ((q ++ [nd]).map eN) (A ++ [.os (1,0) ((t ++ [(q.length : Int)]).map eI)]) a
theorem Rv {l : List UInt8} (hl : l.length < 1000000000) {i : Nat} {q : List Nd} {A a : List D} {t : List Int} (hq : q.length < 4294967290) (hA : A.length < 4294967290) (ht : t.length < 4294967290) : ∀ (m j : Nat),j + m = l.length -> i <= j ->
  yu (mk l) (i : Int) (j : Int) (q.map eN) (A ++ [.os (1,0) (t.map eI)]) a = Sn (AK ((l.drop i).take (AC l j - i))) l i (AC l j) q A a t
 | m,j,hm,hij => by
  have hcut : cE l.length (some (i : Int)) (some (j : Int)) = true := by unfold cE; simp; omega
  obtain ⟨x,b,h1,h2⟩ := NR (l := (l.drop i).take (j - i)) (by simp only [List.length_take,List.length_drop]; omega)
  have ha := AJ (p := q) (by omega) x
  have hp := Rz (q := q ++ [x]) (A := A) (a := a) (r := t) (by omega) ht (q.length : Int)
  match m with
  | 0 =>
   rw [zQ,xH,vJ (xk (by omega)),xl hcut,Int.toNat_natCast,Int.toNat_natCast,Fx,Fc h1,QL (by omega)]
   cases hw : AK ((l.drop i).take (j - i)) with
   | none =>
    rw [hw] at h2
    have h2 : b = false := h2
    rw [h2,Bool.not_false,xd]; rfl
   | some nd =>
    rw [hw] at h2
    obtain ⟨rfl,rfl⟩ : x = nd /\ b = true := h2
    rw [Bool.not_true,wy,xT ha,Bh hp]; rfl
  | m + 1 =>
   obtain ⟨y,hy⟩ := wj (l := l) (i := j) (by omega)
   have hb := GN hy
   have hwb := Gt y
   rw [zQ,xH,wz (xp (by omega)),xl (xo (by omega)),hb,Dh hwb]
   cases hwu : zm y with
   | true =>
    have ih := Rv hl hq hA ht (A := A) (a := a) (i := i) m (j + 1) (by omega) (by omega)
    rw [xd,xF (by omega),ih,JL hy hwu]
   | false =>
    rw [wy,xl hcut,Int.toNat_natCast,Int.toNat_natCast,Fx,Fc h1,PI hy hwu]
    cases hw : AK ((l.drop i).take (j - i)) with
    | none =>
     rw [hw] at h2
     have h2 : b = false := h2
     rw [h2,Bool.not_false,xd]; rfl
    | some nd =>
     rw [hw] at h2
     obtain ⟨rfl,rfl⟩ : x = nd /\ b = true := h2
     rw [Bool.not_true,wy,xT ha,Bh hp]; rfl
def atO : List RwF -> RwF -> List D
 | [],_ => []
 | u :: o,t => atO o u ++ [iN t.1]
theorem FI : ∀ (o : List RwF) (t : RwF),(atO o t).length = o.length
 | [],_ => rfl
 | u :: o,t => by rw [atO,lnA,FI o u]; rfl
theorem NW (o : List RwF) (t : RwF) (r : List Int) : atO o (t.1,r) = atO o t := by cases o <;> rfl
def IR (n : Nat) (r : RdR) (X : Option Ret) : Prop := match r with
 | .err c a => c ≠ 0 /\ ∃ A B C,X = some (.tup [iN c,iN a],[.op [.os (5,0) A,.os (1,2) B,.os (1,0) C]])
 | .ok q row => X = some (.tup [iN 0,iN (n : Int)],[rRd q [.os (1,0) (row.map eI)] []])
theorem KC (o : List RwF) (t : RwF) : (t :: o).reverse.map eR = o.reverse.map eR ++ [eR t] := by simp
theorem Nt {x : UInt8} (c : UInt8) (n : Int) (hn : (c.toNat : Int) = n) (h : ¬ x = c) : ((x.toNat : Int) == n) = false := by
 subst hn
 simp only [beq_eq_false_iff_ne,ne_eq]
 intro e
 exact h (UInt8.toNat_inj.1 (by omega))
theorem LQ {l : List UInt8} (hl : l.length < 1000000000) : ∀ (k i : Nat) (o : List RwF) (t : RwF) (q : List Nd),l.length < i + k -> i <= l.length -> phi o t q + 2 * (l.length - i) < 4000000000 -> o.length + (l.length - i) < 4000000000 ->
  IR l.length (B9 l k i o t q) (xI (mk l) (i : Int) (q.map eN) (o.reverse.map eR ++ [eR t]) (atO o t))
 | 0,i,o,t,q,h1,h2,_,_ => by omega
 | k + 1,i,o,t,q,h1,h2,h3,h4 => by
  have hph : phi o t q = q.length + t.2.length + (o.map fun x => x.2.length).sum := rfl
  rw [Gk]
  by_cases hi : i = l.length
  ·have hx : l[i]? = none := List.getElem?_eq_none (by omega)
   rw [hx,zF,xH,vJ (xk (by omega))]
   cases o with
   | nil =>
    have e0 : decide (ni (atO ([] : List RwF) t).length > 0) = false := by rw [atO]; rfl
    rw [vJ e0,Iu,if_pos rfl]; rfl
   | cons u o =>
    rw [Iu,if_neg (by simp),wz (decide_eq_true (by rw [FI]; simp only [ni,lnC]; omega)),atO,QT (by rw [FI]; simp only [lnC] at h4; omega),xl in1,Int.toNat_natCast,Iq,w7]
    exact ⟨by decide,_,_,_,rfl⟩
  obtain ⟨x,hx⟩ := wj (l := l) (i := i) (by omega)
  have hb := GN hx
  rw [hx,zF,xH,wz (xp (by omega)),xl (xo (by omega)),hb]
  rw [Ef]
  by_cases h32 : x = 32
  ·subst h32
   rw [if_pos rfl,wz (by rfl),xF (by omega)]
   exact LQ hl k (i + 1) o t q (by omega) (by omega) (by omega) (by omega)
  rw [if_neg h32,vJ (Nt 32 32 rfl h32)]
  by_cases h40 : x = 40
  ·subst h40
   have hlo : decide (ni (o.reverse.map eR ++ [eR t] ++ [D.os (1,0) []]).length <= LIM) = true := Qd (by simp only [lnA,lnM,List.length_reverse,lnC,lnN]; omega)
   rw [if_pos rfl,wz (by rfl),xl hlo,xq,xl (Qd (by rw [lnA,FI]; simp only [lnC,lnN]; omega)),xq,xF (by omega)]
   have ih := LQ hl k (i + 1) (t :: o) ((i : Int),[]) q (by omega) (by omega) (by simp only [phi,List.map_cons,List.sum_cons,lnN]; omega) (by simp only [lnC]; omega)
   rw [KC] at ih
   exact ih
  rw [if_neg h40,vJ (Nt 40 40 rfl h40)]
  by_cases h41 : x = 41
  ·subst h41
   rw [if_pos rfl,wz (by rfl)]
   cases o with
   | nil =>
    have hc : V 33 [rRd q [eR t] []] = some (.bool false,[rRd q [eR t] []]) := by
     rw [AH]; rfl
    rw [show ([] : List RwF).reverse.map eR ++ [eR t] = [eR t] from rfl,show atO [] t = [] from rfl,Cz hc,Bool.not_false,xd]
    exact ⟨by decide,_,_,_,rfl⟩
   | cons u o =>
    simp only [List.map_cons,List.sum_cons] at hph
    simp only [lnC] at h4
    have hc := Ri (q := q) (A := o.reverse.map eR) (a := atO o u) (r := u.2) (s := t.2) (b := iN t.1) (by rw [lnM,List.length_reverse]; omega) (by rw [FI]; omega) (by omega) (by omega)
    rw [KC,atO,Cz hc,Bool.not_true,wy,xF (by omega)]
    have ih := LQ hl k (i + 1) o (u.1,u.2 ++ [((xK q t.2).2 : Int)]) (xK q t.2).1 (by omega) (by omega) (by simp only [phi,Cw,lnA,lnC,lnN]; omega) (by omega)
    rw [NW] at ih
    exact ih
  rw [if_neg h41,vJ (Nt 41 41 rfl h41),Dh (Gt x)]
  cases hw : zm x with
  | false =>
   rw [Bool.not_false,xd,if_neg (by simp)]
   exact ⟨by decide,_,_,_,rfl⟩
  | true =>
   have hs := Rv hl (i := i) (q := q) (A := o.reverse.map eR) (a := atO o t) (t := t.2) (by omega) (by rw [lnM,List.length_reverse]; omega) (by omega) (l.length - i) i (by omega) (by omega)
   have hwe := JL hx hw
   have hwl := Lu (l := l) (j := i + 1) (by omega)
   rw [Bool.not_true,wy,if_pos rfl,hs]
   cases hwd : AK ((l.drop i).take (AC l i - i)) with
   | none => exact ⟨by decide,_,_,_,rfl⟩
   | some nd =>
    have ih := LQ hl k (AC l i) o (t.1,t.2 ++ [(q.length : Int)]) (q ++ [nd]) (by omega) (by omega) (by simp only [phi,lnA,lnC,lnN]; omega) (by omega)
    rw [NW] at ih
    exact ih
end
end Go.Eng
/-! reading a text: the spec -/
namespace Go.Eng
open Go.Proofs Go.Proofs.Try
set_option maxHeartbeats 4000000

theorem QB {p : List Nd} (hl : p.length <= 4294967296) : V 16 [eP p] = some (oP p,[]) := by
 have h : V 32 [.rs (5,0) (p.map eN)] = some (.os (5,0) (p.map eN),[]) := by
  rw [yK,List.nil_append,xl (decide_eq_true (by rw [oE,lnM]; simp only [ni]; omega)),xq]
  exact vP _ _
 rw [DC]
 simp (disch := first | omega | (simp only [lnA,lnC,lnN,lnM,xH,vC]; omega)) only [↓vE,vT,↓xh,↓w9,h]
end Go.Eng
/-! reading a text: both sides agree -/
namespace Go.Eng
noncomputable section
open Go.Proofs Go.Proofs.Try
set_option maxHeartbeats 4000000

theorem CI {l : List UInt8} (hl : l.length < 1000000000) : ∀ (k i : Nat) (o : List RwF) (t : RwF) (q : List Nd),i <= l.length -> phi o t q + 2 * (l.length - i) < 4000000000 -> AX q -> ∀ q' row,B9 l k i o t q = .ok q' row -> AX q' /\ q'.length < 4000000000 /\ row.length < 4000000000
 | 0,i,o,t,q,_,_,_,q',row,h => by rw [B9] at h; cases h
 | k + 1,i,o,t,q,h2,h3,hf,q',row,h => by
  have hph : phi o t q = q.length + t.2.length + (o.map fun x => x.2.length).sum := rfl
  rw [Gk] at h
  by_cases hi : i = l.length
  ·have hx : l[i]? = none := List.getElem?_eq_none (by omega)
   rw [hx,Iu] at h
   by_cases ho : o = []
   ·rw [if_pos ho] at h
    cases h
    exact ⟨hf,by omega,by omega⟩
   ·rw [if_neg ho] at h; cases h
  obtain ⟨x,hx⟩ := wj (l := l) (i := i) (by omega)
  rw [hx,Ef] at h
  by_cases h32 : x = 32
  ·rw [if_pos h32] at h
   exact CI hl k (i + 1) o t q (by omega) (by omega) hf q' row h
  rw [if_neg h32] at h
  by_cases h40 : x = 40
  ·rw [if_pos h40] at h
   exact CI hl k (i + 1) (t :: o) ((i : Int),[]) q (by omega) (by simp only [phi,List.map_cons,List.sum_cons,lnN]; omega) hf q' row h
  rw [if_neg h40] at h
  by_cases h41 : x = 41
  ·rw [if_pos h41] at h
   cases o with
   | nil => cases h
   | cons u o =>
    simp only [List.map_cons,List.sum_cons] at hph
    exact CI hl k (i + 1) o (u.1,u.2 ++ [((xK q t.2).2 : Int)]) (xK q t.2).1 (by omega) (by simp only [phi,Cw,lnA,lnC,lnN]; omega) (Nr hf _) q' row h
  rw [if_neg h41] at h
  by_cases hw : zm x = true
  ·rw [if_pos hw] at h
   have hwe := JL hx hw
   have hwl := Lu (l := l) (j := i + 1) (by omega)
   cases hwd : AK ((l.drop i).take (AC l i - i)) with
   | none => rw [hwd] at h; cases h
   | some nd =>
    rw [hwd] at h
    have hz := NU hwd
    exact CI hl k (AC l i) o (t.1,t.2 ++ [(q.length : Int)]) (q ++ [nd]) (by omega) (by simp only [phi,lnA,lnC,lnN]; omega) (GB hf (by rw [List.length_take,List.length_drop] at hz; omega)) q' row h
  ·rw [if_neg hw] at h; cases h
def Sg (p : List Nd) (n : Nat) (r : RdR) : List Nd × List Int × Int × Int := match r with
 | .err c a => (p,[],c,a)
 | .ok q row => if xJ q = true then (q,row,0,(n : Int)) else (p,[],6,0)
def Ox (p : List Nd) (l : List UInt8) : List Nd × List Int × Int × Int := if xJ p = false then ([],[],6,0) else if 400 < l.length then (p,[],1,0) else Sg p l.length (B9 l (l.length + 1) 0 [] (0,[]) p)
abbrev RL (r : List Nd × List Int × Int × Int) : Option Ret := some (.tup [oP r.1,.os (1,0) (r.2.1.map eI),iN r.2.2.1,iN r.2.2.2],[])
theorem MH {p : List Nd} (hf : AX p) (hl : p.length < 4611686018427387904) (l : List UInt8) : V 8 [eP p,.str (mk l)] = RL (Ox p l) := by
 have hok := yc hf hl
 unfold Ox
 rw [M8,Aw hok]
 cases h : xJ p with
 | false => rw [Bool.not_false,xd,if_pos rfl]; rfl
 | true =>
  have hp := ye h
  have hc := QB (p := p) (by omega)
  rw [Bool.not_true,wy,if_neg (by simp),xH]
  by_cases h4 : 400 < l.length
  ·rw [wz (decide_eq_true (by simp only [ni]; omega)),zA hc,if_pos h4]; rfl
  have hs := LQ (l := l) (by omega) (l.length + 1) 0 [] (0,[]) p (by omega) (by omega) (by simp only [phi,List.map_nil,List.sum_nil,lnN]; omega) (by simp only [lnN]; omega)
  have hff := CI (l := l) (by omega) (l.length + 1) 0 [] (0,[]) p (by omega) (by simp only [phi,List.map_nil,List.sum_nil,lnN]; omega) hf
  have ht : V 17 [.op [.os (5,0) (p.map eN),.os (1,2) [.os (1,0) []],.os (1,0) []],.str (mk l)] = xI (mk l) 0 (p.map eN) [.os (1,0) []] [] := by rw [Fp]
  have hs : IR l.length (B9 l (l.length + 1) 0 [] (0,[]) p) (xI (mk l) 0 (p.map eN) [.os (1,0) []] []) := hs
  rw [<- ht] at hs
  rw [vJ (decide_eq_false (by simp only [ni]; omega)),zA hc,if_neg h4]
  cases hr : B9 l (l.length + 1) 0 [] (0,[]) p with
  | err c a =>
   rw [hr] at hs
   obtain ⟨hne,A,B,C,hX⟩ := hs
   rw [Di hX,vJ (by simpa using hne),wz (by simpa using hne),zA hc]; rfl
  | ok q row =>
   rw [hr] at hs
   have hX : V 17 [.op [.os (5,0) (p.map eN),.os (1,2) [.os (1,0) []],.os (1,0) []],.str (mk l)] = some (.tup [iN 0,iN (l.length : Int)],[rRd q [.os (1,0) (row.map eI)] []]) := hs
   obtain ⟨h1,h2,h3⟩ := hff q row hr
   have hok2 := yc h1 (by omega)
   rw [Di hX,wz (by rfl),Aw hok2]
   unfold Sg
   cases hq : xJ q with
   | false => rw [Bool.not_false,xd,zA hc]; simp only [hq]; rfl
   | true => rw [Bool.not_true,wy,vJ (by rfl),xl (by rfl)]; simp only [hq]; rfl
end
end Go.Eng
/-! texts by their words: reading them,plain -/
namespace Go.Eng
noncomputable section

inductive Tk where
 | sp
 | op
 | cl
 | wd (w : List UInt8) (n : Nd)
def Tk.text : Tk -> List UInt8
 | .sp => [32]
 | .op => [40]
 | .cl => [41]
 | .wd w _ => w
def yD : List Tk -> List UInt8
 | [] => []
 | t :: r => t.text ++ yD r
def Q8 : List Tk -> Bool
 | .wd _ _ :: _ => false
 | _ => true
def OkT : List Tk -> Prop
 | [] => True
 | .wd w n :: r => (w ≠ [] /\ w.all zm = true /\ AK w = some n) /\ Q8 r = true /\ OkT r
 | _ :: r => OkT r
def rdT : List Tk -> List (List Int) -> List Int -> List Nd -> Option (List Nd × List Int)
 | [],[],t,q => some (q,t)
 | [],_ :: _,_,_ => none
 | .sp :: r,o,t,q => rdT r o t q
 | .op :: r,o,t,q => rdT r (t :: o) [] q
 | .cl :: _,[],_,_ => none
 | .cl :: r,u :: o,t,q => rdT r o (u ++ [((xK q t).2 : Int)]) (xK q t).1
 | .wd _ n :: r,o,t,q => rdT r o (t ++ [(q.length : Int)]) (q ++ [n])
theorem Sj {w s : List UInt8} (hw : w.all zm = true) (hs : ∀ x r,s = x :: r -> zm x = false) : (w ++ s).takeWhile zm = w := by
 induction w with
 | nil =>
  cases s with
  | nil => rfl
  | cons x r => simp [hs x r rfl]
 | cons a w ih =>
  simp only [List.all_cons,Bool.and_eq_true] at hw
  simp [hw.1,ih hw.2]
theorem Nn {r : List Tk} (h : Q8 r = true) (x : UInt8) (s : List UInt8) (e : yD r = x :: s) : zm x = false := by
 cases r with
 | nil => cases e
 | cons t r =>
  cases t with
  | sp => simp only [yD,Tk.text,List.cons_append,List.nil_append] at e; cases e; decide
  | op => simp only [yD,Tk.text,List.cons_append,List.nil_append] at e; cases e; decide
  | cl => simp only [yD,Tk.text,List.cons_append,List.nil_append] at e; cases e; decide
  | wd w n => cases h
theorem Rq {x : UInt8} (h : zm x = true) : x ≠ 32 /\ x ≠ 40 /\ x ≠ 41 := by
 refine ⟨?_,?_,?_⟩ <;> (rintro rfl; revert h; decide)
theorem Jt {l : List UInt8} : ∀ (ts : List Tk) (k i : Nat) (O : List RwF) (T : RwF) (q q' : List Nd) (row : List Int),OkT ts -> l.drop i = yD ts -> i <= l.length -> ts.length < k -> rdT ts (O.map Prod.snd) T.2 q = some (q',row) -> B9 l k i O T q = .ok q' row
 | ts,0,i,O,T,q,q',row,_,_,_,hk,_ => by omega
 | [],k + 1,i,O,T,q,q',row,ho,hd,hi,hk,h => by
  have hx : l[i]? = none := by
   have : l.length <= i := by
    have := congrArg List.length hd
    rw [List.length_drop] at this
    simp only [yD,lnN] at this
    omega
   exact List.getElem?_eq_none this
  rw [Gk,hx,Iu]
  cases O with
  | nil =>
   simp only [List.map_nil,rdT,Option.some.injEq,Prod.mk.injEq] at h
   rw [if_pos rfl,h.1,h.2]
  | cons u O => simp only [List.map_cons,rdT] at h; cases h
 | t :: r,k + 1,i,O,T,q,q',row,ho,hd,hi,hk,h => by
  have hit : ∀ x s,yD (t :: r) = x :: s -> l[i]? = some x /\ i < l.length /\ l.drop (i + 1) = s := fun x s e => by
   have hd2 : l.drop i = x :: s := hd.trans e
   have hil : i < l.length := by
    have := congrArg List.length hd2
    rw [List.length_drop,lnC] at this
    omega
   refine ⟨?_,hil,?_⟩
   ·have := congrArg (fun z => z[0]?) hd2
    simp only [List.getElem?_drop,Nat.add_zero,List.getElem?_cons_zero] at this
    exact this
   ·rw [<- List.drop_drop,hd2]; rfl
  rw [Gk]
  cases t with
  | sp =>
   obtain ⟨h1,h2,h3⟩ := hit 32 (yD r) rfl
   rw [h1,Ef,if_pos rfl]
   exact Jt r k (i + 1) O T q q' row ho h3 h2 (by simp only [lnC] at hk; omega) h
  | op =>
   obtain ⟨h1,h2,h3⟩ := hit 40 (yD r) rfl
   rw [h1,Ef,if_neg (by decide),if_pos rfl]
   exact Jt r k (i + 1) (T :: O) ((i : Int),[]) q q' row ho h3 h2 (by simp only [lnC] at hk; omega) h
  | cl =>
   obtain ⟨h1,h2,h3⟩ := hit 41 (yD r) rfl
   rw [h1,Ef,if_neg (by decide),if_neg (by decide),if_pos rfl]
   cases O with
   | nil => simp only [List.map_nil,rdT] at h; cases h
   | cons u O => exact Jt r k (i + 1) O (u.1,u.2 ++ [((xK q T.2).2 : Int)]) (xK q T.2).1 q' row ho h3 h2 (by simp only [lnC] at hk; omega) h
  | wd w n =>
   obtain ⟨⟨w1,w2,w3⟩,w4,w5⟩ := ho
   obtain ⟨x,w',rfl⟩ : ∃ x w',w = x :: w' := by
    cases w with
    | nil => exact absurd rfl w1
    | cons x w' => exact ⟨x,w',rfl⟩
   obtain ⟨h1,h2,h3⟩ := hit x (w' ++ yD r) rfl
   have hx : zm x = true := by simp only [List.all_cons,Bool.and_eq_true] at w2; exact w2.1
   obtain ⟨n1,n2,n3⟩ := Rq hx
   have htk : (l.drop i).takeWhile zm = x :: w' := by
    rw [hd]
    exact Sj w2 (fun y s e => Nn w4 y s e)
   have hwe : AC l i = i + (x :: w').length := by unfold AC; rw [htk]
   have htx : (l.drop i).take (AC l i - i) = x :: w' := by
    rw [hwe,Nat.add_sub_cancel_left,hd]
    show ((x :: w') ++ yD r).take (x :: w').length = x :: w'
    rw [List.take_left]
   have hdr : l.drop (AC l i) = yD r := by
    rw [hwe,<- List.drop_drop,hd]
    show ((x :: w') ++ yD r).drop (x :: w').length = yD r
    rw [List.drop_left]
   have hle : AC l i <= l.length := (Lu hi).2
   rw [h1,Ef,if_neg n1,if_neg n2,if_neg n3,if_pos hx,htx,w3]
   exact Jt r k (AC l i) O (T.1,T.2 ++ [(q.length : Int)]) (q ++ [n]) q' row w5 hdr hle (by simp only [lnC] at hk; omega) h
theorem O7 {ts : List Tk} (h : OkT ts) : ts.length <= (yD ts).length := by
 induction ts with
 | nil => exact Nat.le_refl _
 | cons t r ih =>
  cases t with
  | sp => have := ih h; simp only [yD,Tk.text,lnA,lnC,lnN]; omega
  | op => have := ih h; simp only [yD,Tk.text,lnA,lnC,lnN]; omega
  | cl => have := ih h; simp only [yD,Tk.text,lnA,lnC,lnN]; omega
  | wd w n =>
   have := ih h.2.2
   have h1 : 0 < w.length := List.length_pos_iff.2 h.1.1
   simp only [yD,Tk.text,lnA,lnC]; omega
theorem Pp {p q' : List Nd} {ts : List Tk} {row : List Int} (ho : OkT ts) (hp : xJ p = true) (hl : (yD ts).length <= 400) (h : rdT ts [] [] p = some (q',row)) : Ox p (yD ts) = if xJ q' = true then (q',row,0,((yD ts).length : Int)) else (p,[],6,0) := by
 have hg := Jt (l := yD ts) ts ((yD ts).length + 1) 0 [] (0,[]) p q' row ho rfl (Nat.zero_le _) (by have := O7 ho; omega) h
 unfold Ox
 rw [if_neg (by simp [hp]),if_neg (by omega),hg]
 rfl
end
end Go.Eng
/-! digits are a number's word,plain -/
namespace Go.Eng

theorem BM {n : Nat} (h : n < 256) : (UInt8.ofNat n).toNat = n := by simp [UInt8.toNat_ofNat']; omega
theorem PP {d : Nat} (h : d < 10) : dU (UInt8.ofNat (48 + d)) = true := by
 unfold dU
 rw [BM (by omega)]
 simp only [Bool.and_eq_true,decide_eq_true_eq]
 omega
theorem KN : ∀ n : Nat,(Bn n).all dU = true := by
 intro n
 induction n using Nat.strongRecOn with
 | _ n ih =>
  by_cases h : n < 10
  ·rw [yW h,List.all_cons,PP h]; rfl
  ·rw [Ap h,List.all_append,ih (n / 10) (by omega),List.all_cons,PP (by omega)]; rfl
theorem QJ (a b : List UInt8) (x : Nat) : J8 x (a ++ b) = J8 (J8 x a) b := by
 unfold J8; rw [List.foldl_append]
theorem QK : ∀ n : Nat,J8 0 (Bn n) = n := by
 intro n
 induction n using Nat.strongRecOn with
 | _ n ih =>
  by_cases h : n < 10
  ·rw [yW h]
   show 10 * 0 + ((UInt8.ofNat (48 + n)).toNat - 48) = n
   rw [BM (by omega)]; omega
  ·rw [Ap h,QJ,ih (n / 10) (by omega)]
   show 10 * (n / 10) + ((UInt8.ofNat (48 + n % 10)).toNat - 48) = n
   rw [BM (by omega)]; omega
theorem Qg {n : Nat} (h : n < 10000000000) : Cx (Bn n) = some n := by
 have h1 := FK 9 n (by omega)
 have h2 := IG n
 unfold Cx
 rw [if_neg,QK]
 rintro (e | e | e | e)
 ·omega
 ·omega
 ·rcases OZ n with q | q
  ·exact q e.1
  ·subst q
   rw [yW (by omega)] at e
   simp at e
 ·rw [KN] at e; cases e
theorem IJ (n : Nat) : ∃ d r,Bn n = d :: r /\ dU d = true := by
 have h := IG n
 have ha := KN n
 generalize Bn n = l at h ha
 cases l with
 | nil => simp at h
 | cons d r => rw [List.all_cons,Bool.and_eq_true] at ha; exact ⟨d,r,rfl,ha.1⟩
theorem QO {x : UInt8} (h : dU x = true) : zm x = true := by unfold zm; rw [h]; simp
theorem Ru {x : UInt8} (h : dU x = true) : x ≠ 45 /\ x ≠ 35 := by
 constructor <;> (rintro rfl; revert h; decide)
theorem Ql {n : Int} (h : n.natAbs <= 1000000000) : Pg (zY n) = some n := by
 have hn := Qg (n := n.natAbs) (by omega)
 unfold zY
 by_cases h0 : n < 0
 ·rw [if_pos h0]
  obtain ⟨d,r,hd,hdd⟩ := IJ n.natAbs
  rw [hd] at hn ⊢
  unfold Pg
  simp only
  rw [if_pos ⟨trivial,hdd⟩,hn]
  unfold Nu
  simp only
  rw [if_pos ⟨by omega,h⟩,show -(n.natAbs : Int) = n by omega]
 ·rw [if_neg h0]
  obtain ⟨d,r,hd,hdd⟩ := IJ n.natAbs
  have hp : Jq (Cx (Bn n.natAbs)) = some n := by
   rw [hn]; unfold Jq; simp only; rw [if_pos h,show (n.natAbs : Int) = n by omega]
  rw [hd] at hp ⊢
  cases r with
  | nil => exact hp
  | cons e r =>
   show (if d = 45 /\ dU e = true then Nu (Cx (e :: r)) else Jq (Cx (d :: e :: r))) = some n
   rw [if_neg (fun q => (Ru hdd).1 q.1)]
   exact hp
theorem Kg {n : Int} : ∃ d r,zY n = d :: r /\ d ≠ 35 /\ (zY n).all zm = true := by
 obtain ⟨d,r,hd,hdd⟩ := IJ n.natAbs
 have ha : (Bn n.natAbs).all zm = true := List.all_eq_true.2 fun x hx => QO (List.all_eq_true.1 (KN _) x hx)
 unfold zY
 by_cases h0 : n < 0
 ·rw [if_pos h0]
  exact ⟨45,_,rfl,by decide,by rw [List.all_cons,ha]; decide⟩
 ·rw [if_neg h0]
  exact ⟨d,r,hd,(Ru hdd).2,ha⟩
theorem QM {n : Int} (h : n.natAbs <= 1000000000) : AK (zY n) = some ⟨3,n,⟨#[]⟩,0,0⟩ := by
 obtain ⟨d,r,hd,hne,_⟩ := Kg (n := n)
 have hk := Ql h
 unfold AK
 rw [if_neg (by rw [hd]; intro e; injection e with e1 e2; exact hne e1),if_neg (by rw [hd]; intro e; injection e with e1 e2; exact hne e1),hk]
 rfl
end Go.Eng
/-! code and machines: when they are right,on both sides -/
namespace Go.Eng
noncomputable section
open Go.Proofs Go.Proofs.Try
set_option maxHeartbeats 4000000

structure In where
 op : Int
 n : Int
 i : Int
 s : ByteArray
structure Df where
 name : ByteArray
 at' : Int
 args : Int
structure Cd where
 pool : List Nd
 list : List In
 defs : List Df
abbrev eIn (x : In) : D := .agg [iN x.op,iN x.n,iN x.i,.str x.s]
abbrev eDf (x : Df) : D := .agg [.str x.name,iN x.at',iN x.args]
abbrev eCd (c : Cd) : D := .agg [.rs (5,0) (c.pool.map eN),.rs (4,0) (c.list.map eIn),.rs (3,0) (c.defs.map eDf)]
abbrev oCd (c : Cd) : D := .agg [.os (5,0) (c.pool.map eN),.os (4,0) (c.list.map eIn),.os (3,0) (c.defs.map eDf)]
structure FitsC (c : Cd) : Prop where
 pool : AX c.pool
 plen : c.pool.length < 4611686018427387904
 list : ∀ x ∈ c.list,x.s.size < 4611686018427387904
 llen : c.list.length < 4611686018427387904
 defs : ∀ x ∈ c.defs,x.name.size < 4611686018427387904
 dlen : c.defs.length < 4611686018427387904
section
variable {R : Type}
theorem RH (x : In) (K : Int -> Int -> Int -> ByteArray -> Option R) : Qy (eIn x) (fun n4 n7 n10 s13 => (K n4 n7 n10 s13)) = K x.op x.n x.i x.s := rfl
end
def Bc (c : Cd) (s : ByteArray) : Int := wW (fun d : Df => jH d.name s) c.defs
theorem BV {l : List Df} (hl : l.length < 4611686018427387904) (s : ByteArray) : ∀ (k i : Nat),i + k = l.length -> y7 (l.map eDf) s (ni (l.map eDf).length) (i : Int) = some (iN (dv (fun d : Df => jH d.name s) l i),[])
 | 0,i,hi => by
  rw [z7,vG (by omega)]
  simp (disch := first | omega | (simp only [lnA,lnC,lnN,lnM,xH,vC]; omega)) only [↓wy,xB,lnM,vC]
 | k + 1,i,hi => by
  obtain ⟨x,hx⟩ := wj (l := l) (i := i) (by omega)
  have ih := BV hl s k (i + 1) (by omega)
  have hd : V 47 [eDf x,.bp [.str s]] = some (.bool (jH x.name s),[]) := by rw [PR]
  have hw : w6 ((i : Int) + 1) = ((i + 1 : Nat) : Int) := xF (by omega)
  rw [z7]
  cases h : jH x.name s with
  | true => rw [vH hx h]; rw [h] at hd; simp (disch := first | omega | (simp only [lnA,lnC,lnN,lnM,xH,vC]; omega)) only [↓vE,vT,↓xd,↓wH,↓xh,↓wX,↓w7,↓wx,↓xb,↓wg,↓wU,xC,Bool.and_true,lnM,vC,↓wT hx,hd]
  | false =>
   rw [h] at hd
   rw [vp hx h,<- ih,lnM]; simp (disch := first | omega | (simp only [lnA,lnC,lnN,lnM,xH,vC]; omega)) only [↓vE,vT,↓xd,↓wy,↓wH,↓xh,↓wX,↓w7,↓wx,↓xb,↓wg,↓wU,xC,Bool.and_true,vC,↓wT hx,hd,hw]
theorem Db {c : Cd} (hf : FitsC c) (s : ByteArray) : V 23 [eCd c,.str s] = some (iN (Bc c s),[]) := by
 have h := BV hf.dlen s c.defs.length 0 (Nat.zero_add _)
 rw [vq,Int.natCast_zero] at h
 have h2 : V 46 [.rs (3,0) (c.defs.map eDf),.fn 47 [.bp [.str s]]] = some (iN (Bc c s),[]) := by
  rw [Ck]; exact h
 rw [GQ]
 simp (disch := first | omega | (simp only [lnA,lnC,lnN,lnM,xH,vC]; omega)) only [↓vE,vT,↓xh,↓w7,h2]
def Gh (c : Cd) (x : In) (k : Int) : Bool :=
 if x.op = 1 then wi x.n 0 ((c.pool.length : Int) - 1) && (x.i == 0 && nz x.s)
 else if x.op = 2 then wi x.n 0 20 && (wi x.i 0 3 && nz x.s)
 else if x.op = 3 then x.n == 0 && (x.i == 0 && Dv x.s)
 else if x.op = 4 \/ x.op = 5 then wi x.n (k + 1) (c.list.length : Int) && (x.i == 0 && nz x.s)
 else if x.op = 6 then wi x.n (k + 1) ((c.list.length : Int) - 1) && (wi x.i 0 4 && nz x.s)
 else if x.op = 7 then x.n == 0 && (wi x.i 0 4 && nz x.s)
 else if x.op = 8 \/ x.op = 9 then x.n == 0 && (x.i == 0 && nz x.s)
 else false
theorem JH {c : Cd} (hf : FitsC c) {k : Nat} {x : In} (hx : c.list[k]? = some x) : V 44 [eCd c,iN (k : Int)] = some (.bool (Gh c x k),[]) := by
 have hk := aQ hx
 have hl := hf.llen
 have hp := hf.plen
 have hs := hf.list x (List.mem_of_getElem? hx)
 rw [JR]
 unfold Gh
 have hnm := Aj hs
 have hnode := y6 hp x.n
 by_cases h1 : x.op = 1
 ·rw [if_pos h1]; simp (disch := first | omega | (simp only [lnA,lnC,lnN,lnM,xH,vC]; omega)) only [↓vE,vT,↓xd,↓wH,↓xh,↓wX,↓w7,↓wx,↓xb,↓wg,↓wU,xC,xx,Bool.and_true,lnM,vC,↓wT hx,hnode]; simp only [yH]; rfl
 rw [if_neg h1]
 by_cases h2 : x.op = 2
 ·rw [if_pos h2]; simp (disch := first | omega | (simp only [lnA,lnC,lnN,lnM,xH,vC]; omega)) only [↓vE,vT,↓xd,↓wy,↓wH,↓xh,↓wX,↓w7,↓wx,↓xb,↓wg,↓wU,xC,xx,xw,Bool.and_true,lnM,vC,↓wT hx,xW]; simp only [yH]; rfl
 rw [if_neg h2]
 by_cases h3 : x.op = 3
 ·rw [if_pos h3]; simp (disch := first | omega | (simp only [lnA,lnC,lnN,lnM,xH,vC]; omega)) only [↓vE,vT,↓xd,↓wy,↓wH,↓xh,↓wX,↓w7,↓wx,↓xb,↓wg,↓wU,xC,xx,xw,Bool.and_true,lnM,vC,↓wT hx,hnm]; simp only [yH]
 rw [if_neg h3]
 by_cases h4 : x.op = 4
 ·rw [if_pos (.inl h4)]; simp (disch := first | omega | (simp only [lnA,lnC,lnN,lnM,xH,vC]; omega)) only [↓vE,vT,↓xd,↓wy,↓wH,↓xh,↓wX,↓w7,↓wx,↓xb,↓wg,↓wU,xC,xx,xw,Bool.and_true,lnM,wS,vC,↓wT hx,xW]; simp only [yH]; rfl
 by_cases h5 : x.op = 5
 ·rw [if_pos (.inr h5)]; simp (disch := first | omega | (simp only [lnA,lnC,lnN,lnM,xH,vC]; omega)) only [↓vE,vT,↓xd,↓wy,↓wH,↓xh,↓wX,↓w7,↓wx,↓xb,↓wg,↓wU,xC,xx,xw,Bool.and_true,lnM,wS,vC,↓wT hx,xW]; simp only [yH]; rfl
 rw [if_neg (by omega)]
 by_cases h6 : x.op = 6
 ·rw [if_pos h6]; simp (disch := first | omega | (simp only [lnA,lnC,lnN,lnM,xH,vC]; omega)) only [↓vE,vT,↓xd,↓wy,↓wH,↓xh,↓wX,↓w7,↓wx,↓xb,↓wg,↓wU,xC,xx,xw,Bool.and_true,lnM,wS,vC,↓wT hx,xW]; simp only [yH]; rfl
 rw [if_neg h6]
 by_cases h7 : x.op = 7
 ·rw [if_pos h7]; simp (disch := first | omega | (simp only [lnA,lnC,lnN,lnM,xH,vC]; omega)) only [↓vE,vT,↓xd,↓wy,↓wH,↓xh,↓wX,↓w7,↓wx,↓xb,↓wg,↓wU,xC,xx,xw,Bool.and_true,lnM,vC,↓wT hx,xW]; simp only [yH]; rfl
 rw [if_neg h7]
 by_cases h8 : x.op = 8
 ·rw [if_pos (.inl h8)]; simp (disch := first | omega | (simp only [lnA,lnC,lnN,lnM,xH,vC]; omega)) only [↓xd,↓wy,↓wH,↓xh,↓wX,↓w7,↓xb,↓wg,↓wU,xC,xx,xw,Bool.and_true,lnM,vC,↓wT hx]; simp only [yH]; rfl
 by_cases h9 : x.op = 9
 ·rw [if_pos (.inr h9)]; simp (disch := first | omega | (simp only [lnA,lnC,lnN,lnM,xH,vC]; omega)) only [↓xd,↓wy,↓wH,↓xh,↓wX,↓w7,↓xb,↓wg,↓wU,xC,xx,xw,Bool.and_true,lnM,vC,↓wT hx]; simp only [yH]; rfl
 rw [if_neg (by omega)]
 simp (disch := first | omega | (simp only [lnA,lnC,lnN,lnM,xH,vC]; omega)) only [↓wy,↓wH,↓xh,↓wX,↓w7,↓xb,↓wg,↓wU,xC,xw,Bool.and_true,lnM,vC,↓wT hx]
def CH (c : Cd) : Nat -> Nat -> Bool
 | _,0 => true
 | i,k + 1 => (match c.list[i]? with | some x => Gh c x i | none => true) && CH c (i + 1) k
def Pm (c : Cd) (d : Df) (i : Int) : Bool := Dv d.name && (Bc c d.name == i && (wi d.at' 0 ((c.list.length : Int) - 1) && wi d.args 0 4))
def Bj (c : Cd) : Nat -> Nat -> Bool
 | _,0 => true
 | i,k + 1 => (match c.defs[i]? with | some d => Pm c d i | none => true) && Bj c (i + 1) k
def yG (c : Cd) : Bool := xJ c.pool && (decide (c.list.length <= 400) && (decide (c.defs.length <= 20) && (CH c 0 c.list.length && Bj c 0 c.defs.length)))
theorem DH {c : Cd} (hf : FitsC c) : ∀ (k i : Nat),i + k = c.defs.length -> zG (c.defs.map eDf) (ni (c.defs.map eDf).length) (i : Int) (c.pool.map eN) (c.list.map eIn) (c.defs.map eDf) = some (.bool (Bj c i k),[])
 | 0,i,hi => by
  have hd := hf.dlen
  rw [AY]
  simp (disch := first | omega | (simp only [lnA,lnC,lnN,lnM,xH,vC]; omega)) only [↓wy,xB,lnM,vC]
  rfl
 | k + 1,i,hi => by
  have hd := hf.dlen
  have hll := hf.llen
  obtain ⟨x,hx⟩ := wj (l := c.defs) (i := i) (by omega)
  have ih := DH hf k (i + 1) (by omega)
  rw [lnM] at ih
  have hw : w6 ((i : Int) + 1) = ((i + 1 : Nat) : Int) := xF (by omega)
  have hdf := Db hf x.name
  have hnm := Aj (hf.defs x (List.mem_of_getElem? hx))
  rw [AY]
  simp only [Bj,hx,Pm]
  cases e1 : Dv x.name with
  | false => rw [e1] at hnm; simp (disch := first | omega | (simp only [lnA,lnC,lnN,lnM,xH,vC]; omega)) only [↓vE,vT,↓xd,↓wH,↓xh,↓wX,↓w7,↓wx,↓xb,↓wg,↓wU,xC,Bool.and_true,Bool.false_and,Bool.not_false,lnM,vC,↓wT hx,hnm]
  | true =>
   rw [e1] at hnm
   by_cases e2 : Bc c x.name = (i : Int)
   ·rw [e2] at hdf
    simp (disch := first | omega | (simp only [lnA,lnC,lnN,lnM,xH,vC]; omega)) only [↓vE,vT,↓xd,↓wy,↓wH,↓xh,↓wX,↓w7,↓wx,↓xb,↓wg,↓wU,xC,xx,xz,Bool.true_and,Bool.and_true,Bool.not_true,lnM,wS,vC,↓wT hx,hnm,hdf,e2,xW,hw,ih]
    cases wi x.at' 0 ((c.list.length : Int) - 1) <;> cases wi x.args 0 4 <;> rfl
   ·simp (disch := first | omega | (simp only [lnA,lnC,lnN,lnM,xH,vC]; omega)) only [↓vE,vT,↓xd,↓wy,↓wH,↓xh,↓wX,↓w7,↓wx,↓xb,↓wg,↓wU,xC,xw,xA,Bool.and_true,Bool.false_and,Bool.and_false,Bool.not_true,lnM,vC,↓wT hx,hnm,hdf]
theorem EW {c : Cd} (hf : FitsC c) : ∀ (k i : Nat),i + k = c.list.length -> zT (ni (c.list.map eIn).length) (i : Int) (c.pool.map eN) (c.list.map eIn) (c.defs.map eDf) = some (.bool (CH c i k && Bj c 0 c.defs.length),[])
 | 0,i,hi => by
  have hll := hf.llen
  have h := DH hf c.defs.length 0 (Nat.zero_add _)
  rw [Int.natCast_zero,lnM] at h
  rw [Bw]
  simp (disch := first | omega | (simp only [lnA,lnC,lnN,lnM,xH,vC]; omega)) only [↓wy,xB,lnM,vC,h]
  rfl
 | k + 1,i,hi => by
  have hll := hf.llen
  obtain ⟨x,hx⟩ := wj (l := c.list) (i := i) (by omega)
  have ih := EW hf k (i + 1) (by omega)
  rw [lnM] at ih
  have hw : w6 ((i : Int) + 1) = ((i + 1 : Nat) : Int) := xF (by omega)
  have hi := JH hf hx
  rw [Bw]
  simp only [CH,hx]
  cases e1 : Gh c x i with
  | false => rw [e1] at hi; simp (disch := first | omega | (simp only [lnA,lnC,lnN,lnM,xH,vC]; omega)) only [↓vE,vT,↓xd,↓xh,↓wx,xC,Bool.false_and,Bool.not_false,lnM,vC,hi]
  | true => rw [e1] at hi; simp (disch := first | omega | (simp only [lnA,lnC,lnN,lnM,xH,vC]; omega)) only [↓vE,vT,↓xd,↓wy,↓xh,↓wx,xC,Bool.true_and,Bool.not_true,lnM,vC,hi,hw,ih]
theorem Cg {c : Cd} (hf : FitsC c) : V 22 [eCd c] = some (.bool (yG c),[]) := by
 have hp := yc hf.pool hf.plen
 have h := EW hf c.list.length 0 (Nat.zero_add _)
 rw [Int.natCast_zero,lnM] at h
 rw [KO]
 unfold yG
 cases e1 : xJ c.pool with
 | false => rw [e1] at hp; simp (disch := first | omega | (simp only [lnA,lnC,lnN,lnM,xH,vC]; omega)) only [↓vE,vT,↓xd,↓xh,↓wx,Bool.false_and,Bool.not_false,hp]
 | true =>
  rw [e1] at hp
  by_cases e2 : c.list.length <= 400
  ·by_cases e3 : c.defs.length <= 20
   ·simp (disch := first | omega | (simp only [lnA,lnC,lnN,lnM,xH,vC]; omega)) only [↓vE,vT,↓wy,↓xh,↓wx,xC,xB,Bool.true_and,Bool.not_true,lnM,vC,hp,h]
   ·simp (disch := first | omega | (simp only [lnA,lnC,lnN,lnM,xH,vC]; omega)) only [↓vE,vT,↓xd,↓wy,↓xh,↓wx,xC,xB,Bool.false_and,Bool.and_false,Bool.not_true,lnM,vC,hp]
  ·simp (disch := first | omega | (simp only [lnA,lnC,lnN,lnM,xH,vC]; omega)) only [↓vE,vT,↓xd,↓wy,↓xh,↓wx,xC,xB,Bool.false_and,Bool.and_false,Bool.not_true,lnM,vC,hp]
structure Mc where
 pool : List Nd
 at' : Int
 s : Int
 e : Int
 d : Int
 state : Int
 ask : Int
 arg : Int
abbrev eMc (m : Mc) : D := .agg [.rs (5,0) (m.pool.map eN),iN m.at',iN m.s,iN m.e,iN m.d,iN m.state,iN m.ask,iN m.arg]
abbrev oMc (m : Mc) : D := .agg [.os (5,0) (m.pool.map eN),iN m.at',iN m.s,iN m.e,iN m.d,iN m.state,iN m.ask,iN m.arg]
def BU (p : List Nd) (v : Int) : Bool := wi v 0 ((p.length : Int) - 1)
def Gj (c : Cd) (m : Mc) : Bool :=
 if m.state = 0 then wi m.at' 0 ((c.list.length : Int) - 1) && (m.ask == 0 && m.arg == 0)
 else if m.state = 1 then wi m.at' 0 ((c.list.length : Int) - 1) && (wi m.ask 13 19 && ((m.ask != 18) && BU m.pool m.arg))
 else if m.state = 2 then m.at' == 0 && (m.ask == 0 && BU m.pool m.arg)
 else if m.state = 3 then m.at' == 0 && (wi m.ask 1 7 && m.arg == 0)
 else false
def z4 (c : Cd) (m : Mc) : Bool := yG c && (xJ m.pool && (BU m.pool m.s && (BU m.pool m.e && (BU m.pool m.d && Gj c m))))
theorem KE {c : Cd} (hl : c.list.length < 4611686018427387904) (n : Int) : V 48 [eCd c,iN n] = some (.bool (wi n 0 ((c.list.length : Int) - 1)),[]) := by
 rw [JT]
 simp (disch := first | omega | (simp only [lnA,lnC,lnN,lnM,xH,vC]; omega)) only [↓vE,vT,↓xh,↓wx,lnM,wS,vC,xW]
theorem CM {c : Cd} (hf : FitsC c) {m : Mc} (hm : AX m.pool) (hl : m.pool.length < 4611686018427387904) : V 24 [eCd c,eMc m] = some (.bool (z4 c m),[]) := by
 have hc := Cg hf
 have hp := yc hm hl
 have h1 := y6 hl m.s
 have h2 := y6 hl m.e
 have h3 := y6 hl m.d
 have h4 := y6 hl m.arg
 have h5 := KE hf.llen m.at'
 rw [GZ]
 unfold z4 BU
 cases e1 : yG c with
 | false => rw [e1] at hc; simp (disch := first | omega | (simp only [lnA,lnC,lnN,lnM,xH,vC]; omega)) only [↓vE,vT,↓xd,↓xh,↓wx,Bool.false_and,Bool.not_false,hc]
 | true =>
 rw [e1] at hc
 cases e2 : xJ m.pool with
 | false => rw [e2] at hp; simp (disch := first | omega | (simp only [lnA,lnC,lnN,lnM,xH,vC]; omega)) only [↓vE,vT,↓xd,↓wy,↓xh,↓wx,Bool.false_and,Bool.and_false,Bool.not_true,Bool.not_false,hc,hp]
 | true =>
 rw [e2] at hp
 cases e3 : wi m.s 0 ((m.pool.length : Int) - 1) with
 | false => rw [e3] at h1; simp (disch := first | omega | (simp only [lnA,lnC,lnN,lnM,xH,vC]; omega)) only [↓vE,vT,↓xd,↓wy,↓xh,↓wx,Bool.false_and,Bool.and_false,Bool.not_true,Bool.not_false,hc,hp,h1]
 | true =>
 rw [e3] at h1
 cases e4 : wi m.e 0 ((m.pool.length : Int) - 1) with
 | false => rw [e4] at h2; simp (disch := first | omega | (simp only [lnA,lnC,lnN,lnM,xH,vC]; omega)) only [↓vE,vT,↓xd,↓wy,↓xh,↓wx,Bool.false_and,Bool.and_false,Bool.not_true,Bool.not_false,hc,hp,h1,h2]
 | true =>
 rw [e4] at h2
 cases e5 : wi m.d 0 ((m.pool.length : Int) - 1) with
 | false => rw [e5] at h3; simp (disch := first | omega | (simp only [lnA,lnC,lnN,lnM,xH,vC]; omega)) only [↓vE,vT,↓xd,↓wy,↓xh,↓wx,Bool.false_and,Bool.and_false,Bool.not_true,Bool.not_false,hc,hp,h1,h2,h3]
 | true =>
 rw [e5] at h3
 unfold Gj BU
 by_cases s0 : m.state = 0
 ·rw [if_pos s0]; simp (disch := first | omega | (simp only [lnA,lnC,lnN,lnM,xH,vC]; omega)) only [↓vE,vT,↓xd,↓wy,↓xh,↓wx,xx,Bool.true_and,Bool.not_true,hc,hp,h1,h2,h3,h5]; simp only [yH]
 rw [if_neg s0]
 by_cases s1 : m.state = 1
 ·rw [if_pos s1]; simp (disch := first | omega | (simp only [lnA,lnC,lnN,lnM,xH,vC]; omega)) only [↓vE,vT,↓xd,↓wy,↓xh,↓wx,xx,xw,Bool.true_and,Bool.not_true,hc,hp,h1,h2,h3,h4,h5,xW]; simp only [yH]
 rw [if_neg s1]
 by_cases s2 : m.state = 2
 ·rw [if_pos s2]; simp (disch := first | omega | (simp only [lnA,lnC,lnN,lnM,xH,vC]; omega)) only [↓vE,vT,↓xd,↓wy,↓xh,↓wx,xx,xw,Bool.true_and,Bool.not_true,hc,hp,h1,h2,h3,h4]; simp only [yH]
 rw [if_neg s2]
 by_cases s3 : m.state = 3
 ·rw [if_pos s3]; simp (disch := first | omega | (simp only [lnA,lnC,lnN,lnM,xH,vC]; omega)) only [↓vE,vT,↓xd,↓wy,↓xh,↓wx,xx,xw,Bool.true_and,Bool.not_true,hc,hp,h1,h2,h3,xW]; simp only [yH]
 rw [if_neg s3]
 simp (disch := first | omega | (simp only [lnA,lnC,lnN,lnM,xH,vC]; omega)) only [↓vE,vT,↓wy,↓xh,↓wx,xw,Bool.and_false,Bool.not_true,hc,hp,h1,h2,h3]
end
end Go.Eng
/-! numbers and texts as bytes,on both sides -/
namespace Go.Eng
open Go.Proofs Go.Proofs.Try

end Go.Eng
/-! how great a value is,the program's side -/
namespace Go.Eng
open Go.Proofs Go.Proofs.Try

end Go.Eng
/-! what is moved is as it was: the plain side -/
namespace Go.Eng

noncomputable def xQ (p : List Nd) : Prop := ∀ (j : Nat) (x : Nd),p[j]? = some x -> okN x j = true
theorem Kw {p : List Nd} (h : xQ p) : ∀ (k i : Nat),DV p i k = true
 | 0,i => rfl
 | k + 1,i => by
  simp only [DV,Kw h k (i + 1),Bool.and_true]
  split
  ·exact h _ _ ‹_›
  ·rfl
theorem okPool_iff {p : List Nd} : xJ p = true ↔ xQ p /\ p.length <= 3000 := by
 constructor
 ·intro h; exact ⟨fun j x hx => yq h hx,ye h⟩
 ·rintro ⟨h,hl⟩
  simp only [xJ,Kw h,Bool.true_and,decide_eq_true_eq]; omega
noncomputable def PM (q q' : List Nd) (m : List Bool) (to : List Int) : Prop := ∀ (i : Nat) (x : Nd),q[i]? = some x -> m[i]? = some true -> ∃ j : Nat,to[i]? = some (j : Int) /\ q'[j]? = some (ya to x)
theorem Ja {pre r : List Int} {x : Nd} {i : Nat} (ho : okN x i = true) (hp : i <= pre.length) : ya (pre ++ r) x = ya pre x := by
 have g : ∀ n : Int,0 <= n -> n < i -> (pre ++ r).getD n.toNat 0 = pre.getD n.toNat 0 := by
  intro n h0 h1
  simp only [List.getD_eq_getElem?_getD]
  rw [List.getElem?_append_left (by omega)]
 unfold ya
 split
 ·rename_i h5
  have := yE ho h5
  rw [g _ (by omega) (by omega),g _ (by omega) (by omega)]
 ·split
  ·rename_i h6
   have := zI ho h6
   rw [g _ (by omega) (by omega)]
  ·rfl
theorem Pe {pre : List Int} {x : Nd} {i h : Nat} (ho : okN x i = true) (h5 : x.kind = 5 -> ∃ a b : Nat,pre[x.a.toNat]? = some (a : Int) /\ pre[x.b.toNat]? = some (b : Int) /\ a < h /\ b < h)
  (h6 : x.kind = 6 \/ x.kind = 7 -> ∃ a : Nat,pre[x.a.toNat]? = some (a : Int) /\ a < h) : okN (ya pre x) h = true := by
 by_cases k5 : x.kind = 5
 ·obtain ⟨a,b,ha,hb,h1,h2⟩ := h5 k5
  simp only [ya,k5,if_true,List.getD_eq_getElem?_getD,ha,hb,Option.getD_some]
  simp [okN,k5] at ho ⊢
  exact ⟨ho.1,ho.2.1,wi_iff.2 ⟨by omega,by omega⟩,wi_iff.2 ⟨by omega,by omega⟩⟩
 ·by_cases k6 : x.kind = 6 \/ x.kind = 7
  ·obtain ⟨a,ha,h1⟩ := h6 k6
   simp only [ya,k5,k6,if_true,if_false,List.getD_eq_getElem?_getD,ha,Option.getD_some]
   rcases k6 with k6 | k6
   ·simp [okN,k6] at ho ⊢; exact ⟨ho.1,ho.2.1,wi_iff.2 ⟨by omega,by omega⟩,ho.2.2.2⟩
   ·simp [okN,k6] at ho ⊢; exact ⟨ho.1,ho.2.1,wi_iff.2 ⟨by omega,by omega⟩,ho.2.2.2⟩
  ·have k6' : ¬ x.kind = 6 := fun h => k6 (.inl h)
   have k7' : ¬ x.kind = 7 := fun h => k6 (.inr h)
   simp only [ya,k5,k6,if_false]
   simp only [okN,k5,k6',k7',if_false] at ho ⊢
   exact ho
theorem I8 {q : List Nd} (hq : xQ q) {m : List Bool} (hm : m.length = q.length) (hc : PK q m) (d : Int) : ∀ (k : Nat) (pre : List Int) (acc : List Nd),pre.length + k = q.length -> xQ acc ->
  (∀ (i : Nat) (x : Nd),i < pre.length -> q[i]? = some x -> m[i]? = some true -> ∃ j : Nat,pre[i]? = some (j : Int) /\ acc[j]? = some (ya pre x)) ->
  xQ (zZ d q m k pre acc).2 /\ PM q (zZ d q m k pre acc).2 m (zZ d q m k pre acc).1
 | 0,pre,acc,hk,ha,hi => by
  simp only [zZ]
  exact ⟨ha,fun i x hx hmi => hi i x (by have := aQ hx; omega) hx hmi⟩
 | k + 1,pre,acc,hk,ha,hi => by
  obtain ⟨x,hx⟩ := wj (l := q) (i := pre.length) (by omega)
  obtain ⟨b,hb⟩ := wj (l := m) (i := pre.length) (by omega)
  simp only [zZ,hx,hb]
  have hox := hq _ _ hx
  have old : ∀ (u : Int) (acc' : List Nd),(∀ (j : Nat) (y : Nd),acc[j]? = some y -> acc'[j]? = some y) -> ∀ (i : Nat) (y : Nd),i < pre.length -> q[i]? = some y -> m[i]? = some true -> ∃ j : Nat,(pre ++ [u])[i]? = some (j : Int) /\ acc'[j]? = some (ya (pre ++ [u]) y) := by
   intro u acc' hacc i y hil hy hmi
   obtain ⟨j,h1,h2⟩ := hi i y hil hy hmi
   refine ⟨j,by rw [List.getElem?_append_left hil]; exact h1,?_⟩
   rw [Ja (hq _ _ hy) (by omega)]
   exact hacc _ _ h2
  cases b with
  | false =>
   refine I8 hq hm hc d k (pre ++ [d]) acc (by simp; omega) ha ?_
   intro i y hil hy hmi
   by_cases e : i = pre.length
   ·subst e; rw [hb] at hmi; cases hmi
   ·exact old d acc (fun _ _ h => h) i y (by simp at hil; omega) hy hmi
  | true =>
   have hcx := hc _ _ hx hb
   have kid : ∀ n : Int,On m n -> 0 <= n -> n < pre.length -> ∃ a : Nat,pre[n.toNat]? = some (a : Int) /\ a < acc.length := by
    intro n hn h0 h1
    obtain ⟨y,hy⟩ := wj (l := q) (i := n.toNat) (by omega)
    obtain ⟨j,h2,h3⟩ := hi n.toNat y (by omega) hy hn
    exact ⟨j,h2,aQ h3⟩
   have hok : okN (ya pre x) acc.length = true := Pe hox
    (fun h5 => by
     have h := yE hox h5
     obtain ⟨a,ha1,ha2⟩ := kid x.a (hcx.1 h5).1 h.1 h.2.1
     obtain ⟨b,hb1,hb2⟩ := kid x.b (hcx.1 h5).2 h.2.2.1 h.2.2.2
     exact ⟨a,b,ha1,hb1,ha2,hb2⟩)
    (fun h6 => by
     have h := zI hox h6
     exact kid x.a (hcx.2 h6) h.1 h.2)
   have ha' : xQ (acc ++ [ya pre x]) := by
    intro j y hy
    by_cases e : j < acc.length
    ·rw [List.getElem?_append_left e] at hy; exact ha j y hy
    ·have hl := aQ hy
     have : j = acc.length := by simp at hl; omega
     subst this
     simp at hy; subst hy; exact hok
   refine I8 hq hm hc d k (pre ++ [(acc.length : Int)]) (acc ++ [ya pre x]) (by simp; omega) ha' ?_
   intro i y hil hy hmi
   by_cases e : i = pre.length
   ·subst e; rw [hx] at hy; cases hy
    refine ⟨acc.length,by simp,?_⟩
    rw [Ja hox (Nat.le_refl _)]; simp
   ·exact old _ _ (fun j z h => by rw [List.getElem?_append_left (aQ h)]; exact h) i y (by simp at hil; omega) hy hmi
theorem I9 (d : Int) (q : List Nd) (m : List Bool) : ∀ (k : Nat) (pre : List Int) (acc : List Nd),∃ r,(zZ d q m k pre acc).2 = acc ++ r
 | 0,pre,acc => ⟨[],by simp [zZ]⟩
 | k + 1,pre,acc => by
  simp only [zZ]
  split
  ·obtain ⟨r,h⟩ := I9 d q m k (pre ++ [(acc.length : Int)]) (acc ++ [ya pre ‹Nd›])
   exact ⟨_,by rw [h,List.append_assoc]⟩
  ·exact I9 d q m k _ acc
theorem I6 {q acc : List Nd} (hq : xJ q = true) (ha : xQ acc) (rs : List Int) (d : Int) : xQ (zz d q rs acc).2 /\ PM q (zz d q rs acc).2 (zM q rs) (zz d q rs acc).1 :=
 I8 (okPool_iff.1 hq).1 (B7 q rs) (BZ hq rs) d q.length [] acc (Nat.zero_add _) ha (fun i x h => absurd h (by simp))

theorem Og (to : List Int) (x : Nd) : (ya to x).kind = x.kind /\ (ya to x).n = x.n /\ (ya to x).s = x.s := by
 unfold ya
 split
 ·exact ⟨rfl,rfl,rfl⟩
 ·split <;> exact ⟨rfl,rfl,rfl⟩
end Go.Eng
/-! what is kept is all reached,and as great as it was: the plain side -/
namespace Go.Eng

inductive Rch (q : List Nd) (rs : List Int) : Nat -> Prop
 | root {r : Int} : r ∈ rs -> Rch q rs r.toNat
 | a {i : Nat} {x : Nd} : Rch q rs i -> q[i]? = some x -> (x.kind = 5 \/ x.kind = 6 \/ x.kind = 7) -> Rch q rs x.a.toNat
 | b {i : Nat} {x : Nd} : Rch q rs i -> q[i]? = some x -> x.kind = 5 -> Rch q rs x.b.toNat
theorem Gp {m : List Bool} {i j : Nat} (h : (m.set i true)[j]? = some true) : j = i \/ m[j]? = some true := by
 by_cases e : i = j
 ·exact .inl e.symm
 ·rw [List.getElem?_set_ne e] at h; exact .inr h
theorem Fe {q : List Nd} {rs : List Int} : ∀ (k : Nat) {m : List Bool},(∀ j : Nat,m[j]? = some true -> Rch q rs j) -> ∀ j : Nat,(yj q k m)[j]? = some true -> Rch q rs j
 | 0,m,h,j,hj => h j hj
 | k + 1,m,h,j,hj => by
  simp only [yj] at hj
  refine Fe k ?_ j hj
  intro i hi
  split at hi
  ·rename_i x hx hm
   have hk := h k hm
   unfold yC at hi
   split at hi
   ·rename_i h5
    rcases Gp hi with e | hi
    ·rw [e]; exact .b hk hx h5
    ·rcases Gp hi with e | hi
     ·rw [e]; exact .a hk hx (.inl h5)
     ·exact h i hi
   ·split at hi
    ·rename_i h6
     rcases Gp hi with e | hi
     ·rw [e]; exact .a hk hx (.inr h6)
     ·exact h i hi
    ·exact h i hi
  ·exact h i hi
theorem Gl : ∀ {rs : List Int} {m : List Bool} {j : Nat},(D7 rs m)[j]? = some true -> m[j]? = some true \/ ∃ r ∈ rs,r.toNat = j
 | [],m,j,h => .inl h
 | r :: rs,m,j,h => by
  have h' : (D7 rs (m.set r.toNat true))[j]? = some true := h
  rcases Gl h' with h | ⟨s,hs,e⟩
  ·rcases Gp h with e | h
   ·exact .inr ⟨r,by simp,e.symm⟩
   ·exact .inl h
  ·exact .inr ⟨s,by simp [hs],e⟩
theorem Mt {q : List Nd} {rs : List Int} {j : Nat} (h : (zM q rs)[j]? = some true) : Rch q rs j := by
 refine Fe _ ?_ j h
 intro i hi
 rcases Gl hi with h | ⟨r,hr,e⟩
 ·rw [List.getElem?_replicate] at h
  split at h <;> cases h
 ·rw [<- e]; exact .root hr
theorem D6 {q : List Nd} (hq : xJ q = true) {rs : List Int} (hr : xZ q rs = true) {j : Nat} (h : Rch q rs j) : (zM q rs)[j]? = some true := by
 induction h with
 | root hm => exact D5 hr _ hm
 | a h hx hk ih =>
  have hc := BZ hq rs _ _ hx ih
  rcases hk with hk | hk
  ·exact (hc.1 hk).1
  ·exact hc.2 hk
 | b h hx hk ih => exact ((BZ hq rs _ _ hx ih).1 hk).2

theorem GC (d : Int) {q : List Nd} {m : List Bool} (hm : m.length = q.length) : ∀ (k : Nat) (pre : List Int) (acc : List Nd),pre.length + k = q.length ->
  (∀ j : Nat,j < acc.length -> ∃ i : Nat,m[i]? = some true /\ pre[i]? = some (j : Int)) -> ∀ j : Nat,j < (zZ d q m k pre acc).2.length -> ∃ i : Nat,m[i]? = some true /\ (zZ d q m k pre acc).1[i]? = some (j : Int)
 | 0,pre,acc,hk,h,j,hj => h j hj
 | k + 1,pre,acc,hk,h,j,hj => by
  obtain ⟨x,hx⟩ := wj (l := q) (i := pre.length) (by omega)
  obtain ⟨b,hb⟩ := wj (l := m) (i := pre.length) (by omega)
  simp only [zZ,hx,hb] at hj ⊢
  have old : ∀ (u : Int) (j : Nat),j < acc.length -> ∃ i : Nat,m[i]? = some true /\ (pre ++ [u])[i]? = some (j : Int) := by
   intro u j hj
   obtain ⟨i,h1,h2⟩ := h j hj
   exact ⟨i,h1,by rw [List.getElem?_append_left (aQ h2)]; exact h2⟩
  cases b with
  | false => exact GC d hm k (pre ++ [d]) acc (by simp; omega) (old d) j hj
  | true =>
   refine GC d hm k (pre ++ [(acc.length : Int)]) (acc ++ [ya pre x]) (by simp; omega) ?_ j hj
   intro i hi
   by_cases e : i < acc.length
   ·exact old _ i e
   ·have : i = acc.length := by simp at hi; omega
    subst this
    exact ⟨pre.length,hb,by simp⟩
theorem Po {q q' : List Nd} (hq : xJ q = true) {rs : List Int} (hr : xZ q rs = true) {to now : List Int} (hmv : PM q q' (zM q rs) to) (hn : ∀ r ∈ rs,to.getD r.toNat 0 ∈ now) {i : Nat} (h : Rch q rs i) : ∀ j : Nat,to[i]? = some (j : Int) -> Rch q' now j := by
 have one : ∀ {i : Nat} {x : Nd},Rch q rs i -> q[i]? = some x -> ∃ j : Nat,to[i]? = some (j : Int) /\ q'[j]? = some (ya to x) := fun h hx => hmv _ _ hx (D6 hq hr h)
 induction h with
 | root hm =>
  rename_i r
  intro j hj
  have e : to.getD r.toNat 0 = (j : Int) := by rw [List.getD_eq_getElem?_getD,hj]; rfl
  have := Rch.root (q := q') (hn r hm)
  rw [e] at this
  exact this
 | a h hx hk ih =>
  rename_i i x
  intro j hj
  obtain ⟨ji,e1,e2⟩ := one h hx
  have h' := ih ji e1
  have ea : (ya to x).a.toNat = j := by
   rcases hk with hk | hk
   ·simp only [ya,hk,if_true,List.getD_eq_getElem?_getD,hj,Option.getD_some,Int.toNat_natCast]
   ·have h5 : ¬ x.kind = 5 := by omega
    simp only [ya,h5,hk,if_true,if_false,List.getD_eq_getElem?_getD,hj,Option.getD_some,Int.toNat_natCast]
  rw [<- ea]
  exact .a h' e2 (by rw [(Og to x).1]; exact hk)
 | b h hx hk ih =>
  rename_i i x
  intro j hj
  obtain ⟨ji,e1,e2⟩ := one h hx
  have h' := ih ji e1
  have ea : (ya to x).b.toNat = j := by
   simp only [ya,hk,if_true,List.getD_eq_getElem?_getD,hj,Option.getD_some,Int.toNat_natCast]
  rw [<- ea]
  exact .b h' e2 (by rw [(Og to x).1]; exact hk)
noncomputable def ids (n : Nat) : List Int := (List.range n).map fun k : Nat => (k : Int)
theorem Kz {n i : Nat} (h : i < n) : (ids (n))[i]? = some (i : Int) := by
 rw [ids,List.getElem?_map,List.getElem?_range h]; rfl
theorem Pd {x : Nd} {i : Nat} (ho : okN x i = true) : ya (ids (i)) x = x := by
 have g : ∀ n : Int,0 <= n -> n < i -> (ids (i)).getD n.toNat 0 = n := by
  intro n h0 h1
  rw [List.getD_eq_getElem?_getD,Kz (by omega)]
  simp; omega
 unfold ya
 split
 ·rename_i h5
  have := yE ho h5
  rw [g _ (by omega) (by omega),g _ (by omega) (by omega)]
 ·split
  ·rename_i h6
   have := zI ho h6
   rw [g _ (by omega) (by omega)]
  ·rfl
theorem LX (d : Int) {q : List Nd} (hq : xQ q) {m : List Bool} (hm : ∀ j : Nat,j < q.length -> m[j]? = some true) : ∀ (k i : Nat),i + k = q.length ->
  zZ d q m k (ids (i)) (q.take i) = (ids (q.length),q)
 | 0,i,h => by
  have : i = q.length := by omega
  subst this
  simp [zZ]
 | k + 1,i,h => by
  obtain ⟨x,hx⟩ := wj (l := q) (i := i) (by omega)
  have hl : (ids (i)).length = i := by simp [ids]
  have ht : (q.take i).length = i := by simp; omega
  have ih := LX d hq hm k (i + 1) (by omega)
  have es : ids (i + 1) = ids i ++ [(i : Int)] := by simp [ids,List.range_succ]
  rw [es,xg hx] at ih
  simp only [zZ,hl,hx,hm i (by omega),ht,Pd (hq _ _ hx)]
  exact ih
theorem Nq {q : List Nd} (hq : xJ q = true) {rs : List Int} (hr : xZ q rs = true) (d d' : Int) : xJ (yv d q rs).1 = true /\ xZ (yv d q rs).1 (yv d q rs).2 = true /\ yv d' (yv d q rs).1 (yv d q rs).2 = yv d q rs := by
 obtain ⟨h1,h2⟩ := I6 hq (acc := []) (fun j x h => by simp at h) rs d
 have hlen := Ge d q (zM q rs) q.length [] []
 have hok : xJ (zz d q rs []).2 = true := okPool_iff.2 ⟨h1,by have := ye hq; have := hlen; simp [zz] at this ⊢; omega⟩
 have hto : ∀ r ∈ rs,∃ j : Nat,(zz d q rs []).1[r.toNat]? = some (j : Int) /\ j < (zz d q rs []).2.length := by
  intro r hm
  have hl := C9 hr r hm
  obtain ⟨x,hx⟩ := wj (l := q) (i := r.toNat) (by omega)
  obtain ⟨j,e1,e2⟩ := h2 _ x hx (D5 hr r hm)
  exact ⟨j,e1,aQ e2⟩
 have hgd : ∀ r ∈ rs,0 <= (zz d q rs []).1.getD r.toNat 0 /\ (zz d q rs []).1.getD r.toNat 0 < ((zz d q rs []).2.length : Int) := by
  intro r hm
  obtain ⟨j,e1,e2⟩ := hto r hm
  rw [List.getD_eq_getElem?_getD,e1]; simp; omega
 have hri : xZ (yv d q rs).1 (yv d q rs).2 = true := by
  unfold xZ yv
  rw [List.all_map,List.all_eq_true]
  intro r hm
  have := hgd r hm
  exact wi_iff.2 ⟨this.1,by simp only; omega⟩
 refine ⟨hok,hri,?_⟩
 have hall : ∀ j : Nat,j < (yv d q rs).1.length -> (zM (yv d q rs).1 (yv d q rs).2)[j]? = some true := by
  intro j hj
  obtain ⟨i,hi,ht⟩ := GC d (B7 q rs) q.length [] [] (Nat.zero_add _) (fun j h => by simp at h) j hj
  exact D6 hok hri (Po hq hr h2 (fun r hm => List.mem_map.2 ⟨r,hm,rfl⟩) (Mt hi) j ht)
 have hm := LX d' (okPool_iff.1 hok).1 hall (yv d q rs).1.length 0 (Nat.zero_add _)
 have e : zz d' (yv d q rs).1 (yv d q rs).2 [] = (ids ((yv d q rs).1.length),(yv d q rs).1) := hm
 have e2 : yv d' (yv d q rs).1 (yv d q rs).2 = ((yv d q rs).1,(yv d q rs).2.map fun r => (ids ((yv d q rs).1.length)).getD r.toNat 0) := by
  show (_,_) = _
  rw [e]
 rw [e2]
 refine Prod.ext rfl ?_
 show List.map _ (yv d q rs).2 = (yv d q rs).2
 have : ∀ r ∈ (yv d q rs).2,(ids ((yv d q rs).1.length)).getD r.toNat 0 = r := by
  intro r hm
  have := C9 hri r hm
  rw [List.getD_eq_getElem?_getD,Kz (by omega)]
  simp; omega
 rw [List.map_congr_left this,List.map_id']
end Go.Eng
/-! nodes as bytes,on both sides -/
namespace Go.Eng
open Go.Proofs Go.Proofs.Try
set_option maxHeartbeats 4000000

structure NdOk (x : Nd) (i : Nat) : Prop where
 k1 : 1 <= x.kind
 k9 : x.kind <= 9
 n3 : -1000000000 <= x.n
 n9 : x.n <= 1000000000
 n0 : x.kind ≠ 3 -> 0 <= x.n
 a0 : 0 <= x.a
 a1 : x.a <= i
 b0 : 0 <= x.b
 b1 : x.b <= i
 s4 : x.s.size <= 12
end Go.Eng
/-! tidying,and machines as bytes,on both sides -/
namespace Go.Eng
noncomputable section
open Go.Proofs Go.Proofs.Try
set_option maxHeartbeats 4000000

theorem JE {p : List Nd} (hl : p.length <= 4294967296) : V 16 [eP p] = some (oP p,[]) := by
 have h : V 32 [.rs (5,0) (p.map eN)] = some (.os (5,0) (p.map eN),[]) := by
  rw [yK,List.nil_append,xl (decide_eq_true (by rw [oE,lnM]; simp only [ni]; omega)),xq]
  exact vP _ _
 rw [DC]
 simp (disch := first | omega | (simp only [lnA,lnC,lnN,lnM,xH,vC]; omega)) only [↓vE,vT,↓xh,↓w9,h]
theorem zD {m : Mc} (hl : m.pool.length <= 4294967296) : V 26 [eMc m] = some (oMc m,[]) := by
 rw [FT]
 simp (disch := first | omega | (simp only [lnA,lnC,lnN,lnM,xH,vC]; omega)) only [↓vE,vT,↓xh,↓wX,↓w9,↓wg,JE hl]
def holds (m : Mc) : Bool := decide (m.state = 1 \/ m.state = 2)
def yh (m : Mc) : List Int := if holds m = true then [m.s,m.e,m.d,m.arg] else [m.s,m.e,m.d]
def tf (m : Mc) (r : Int) : Int := (zz (-1) m.pool (yh m) []).1.getD r.toNat 0
def MF (m : Mc) : Mc := if xJ m.pool = true /\ xZ m.pool (yh m) = true then
  ⟨(yv (-1) m.pool (yh m)).1,m.at',tf m m.s,tf m m.e,tf m m.d,m.state,m.ask,if holds m = true then tf m m.arg else m.arg⟩ else m
theorem Jv (m : Mc) : (yh m).length <= 4 := by unfold yh; split <;> simp
theorem ML {m : Mc} (hf : AX m.pool) (hl : m.pool.length <= 4294967296) : V 49 [eMc m] = some (oMc (MF m),[]) := by
 have hr := PF hf (by omega) (l := yh m) (by have := Jv m; omega)
 have hc := zD hl
 have hk : ∀ h1 : xJ m.pool = true,∀ h2 : xZ m.pool (yh m) = true,_ := fun h1 h2 => RU h1 (rs := yh m) (by have := Jv m; omega) h2
 rw [Nb]
 unfold MF
 by_cases h : xJ m.pool = true /\ xZ m.pool (yh m) = true
 ·rw [if_pos h]
  have hk := hk h.1 h.2
  rw [h.1,h.2] at hr
  unfold yh holds at hr hk
  by_cases s1 : m.state = 1
  ·rw [if_pos (by simp [s1])] at hr hk
   have e : holds m = true := by simp [holds,s1]
   rw [if_pos e]
   have e2 : yh m = [m.s,m.e,m.d,m.arg] := by rw [yh,if_pos e]
   unfold tf
   rw [e2]
   simp only [yv,List.map_cons,List.map_nil] at hr hk ⊢
   simp (disch := first | omega | (simp only [lnA,lnC,lnN,lnM,xH,vC]; omega)) only [↓vE,vT,↓xd,↓wy,↓wH,↓xh,↓wX,↓w7,↓wx,↓w9,↓wg,↓wh,↓wk,↓wl,↓wo,↓wq,wk,wl,wo,wq,xC,xx,Bool.and_true,Bool.not_true,lnC,lnN,oE,vC,hr,hk]
  by_cases s2 : m.state = 2
  ·rw [if_pos (by simp [s2])] at hr hk
   have e : holds m = true := by simp [holds,s2]
   rw [if_pos e]
   have e2 : yh m = [m.s,m.e,m.d,m.arg] := by rw [yh,if_pos e]
   unfold tf
   rw [e2]
   simp only [yv,List.map_cons,List.map_nil] at hr hk ⊢
   simp (disch := first | omega | (simp only [lnA,lnC,lnN,lnM,xH,vC]; omega)) only [↓vE,vT,↓xd,↓wy,↓wH,↓xh,↓wX,↓w7,↓wx,↓w9,↓wg,↓wh,↓wk,↓wl,↓wo,↓wq,wk,wl,wo,wq,xC,xx,xw,Bool.and_true,Bool.not_true,lnC,lnN,oE,vC,hr,hk]
  ·rw [if_neg (by simp [s1,s2])] at hr hk
   have e : ¬ holds m = true := by simp [holds,s1,s2]
   rw [if_neg e]
   have e2 : yh m = [m.s,m.e,m.d] := by rw [yh,if_neg e]
   unfold tf
   rw [e2]
   simp only [yv,List.map_cons,List.map_nil] at hr hk ⊢
   simp (disch := first | omega | (simp only [lnA,lnC,lnN,lnM,xH,vC]; omega)) only [↓vE,vT,↓wy,↓wH,↓xh,↓wX,↓w7,↓wx,↓w9,↓wg,↓wh,↓wk,↓wl,↓wo,wk,wl,wo,xC,xw,Bool.and_true,Bool.not_true,lnC,lnN,vC,hr,hk]
 ·rw [if_neg h]
  have e : (xJ m.pool && xZ m.pool (yh m)) = false := by
   cases h1 : xJ m.pool <;> cases h2 : xZ m.pool (yh m) <;> first | rfl | exact absurd ⟨h1,h2⟩ h
  rw [e] at hr
  unfold yh holds at hr
  by_cases s1 : m.state = 1
  ·rw [if_pos (by simp [s1])] at hr
   simp only [List.map_cons,List.map_nil] at hr
   simp (disch := first | omega | (simp only [lnA,lnC,lnN,lnM,xH,vC]; omega)) only [↓vE,vT,↓xd,↓wH,↓xh,↓wX,↓w7,↓wx,↓w9,↓wg,xC,xx,Bool.not_false,oE,vC,hr,hc]
  by_cases s2 : m.state = 2
  ·rw [if_pos (by simp [s2])] at hr
   simp only [List.map_cons,List.map_nil] at hr
   simp (disch := first | omega | (simp only [lnA,lnC,lnN,lnM,xH,vC]; omega)) only [↓vE,vT,↓xd,↓wy,↓wH,↓xh,↓wX,↓w7,↓wx,↓w9,↓wg,xC,xx,xw,Bool.not_false,oE,vC,hr,hc]
  ·rw [if_neg (by simp [s1,s2])] at hr
   simp only [List.map_cons,List.map_nil] at hr
   simp (disch := first | omega | (simp only [lnA,lnC,lnN,lnM,xH,vC]; omega)) only [↓vE,vT,↓xd,↓wy,↓xh,↓wX,↓w7,↓wx,↓w9,↓wg,xw,Bool.not_false,hr,hc]
theorem Jn {c : Cd} {m : Mc} (h : z4 c m = true) : xJ m.pool = true /\ xZ m.pool (yh m) = true /\ 0 <= m.at' /\ m.at' <= 400 /\ 0 <= m.state /\ m.state <= 3 /\ 0 <= m.ask /\ m.ask <= 19 /\ 0 <= m.arg /\ m.arg <= 3000 := by
 unfold z4 yG BU at h
 simp only [Bool.and_eq_true,decide_eq_true_eq] at h
 obtain ⟨⟨_,hlist,_⟩,hp,hs,he,hd,hst⟩ := h
 have hlen := ye hp
 refine ⟨hp,?_,?_⟩
 ·unfold yh holds xZ
  unfold Gj BU at hst
  split
  ·rename_i hh
   have hh := of_decide_eq_true hh
   have ha : wi m.arg 0 ((m.pool.length : Int) - 1) = true := by
    rcases hh with h1 | h1
    ·simp [h1] at hst; exact hst.2.2.2
    ·simp [h1] at hst; exact hst.2.2
   simp [hs,he,hd,ha]
  ·simp [hs,he,hd]
 ·unfold Gj BU at hst
  repeat' split at hst
  all_goals (try simp only [Bool.and_eq_true,wi,decide_eq_true_eq,beq_iff_eq] at hst)
  all_goals (first | (cases hst; done) | omega)
theorem OG {c : Cd} {m : Mc} (h : z4 c m = true) : z4 c (MF m) = true := by
 obtain ⟨hp,hr,_⟩ := Jn h
 obtain ⟨a1,a2,_⟩ := Nq hp hr (-1) (-1)
 have hroot : ∀ r ∈ yh m,wi (tf m r) 0 (((yv (-1) m.pool (yh m)).1.length : Int) - 1) = true := by
  intro r hm
  have := List.all_eq_true.1 a2 (tf m r) (List.mem_map.2 ⟨r,hm,rfl⟩)
  exact this
 have h3 : m.s ∈ yh m /\ m.e ∈ yh m /\ m.d ∈ yh m := by unfold yh; split <;> simp
 have h4 : holds m = true -> m.arg ∈ yh m := by intro hh; unfold yh; rw [if_pos hh]; simp
 unfold MF
 rw [if_pos ⟨hp,hr⟩]
 unfold z4 Gj BU at h ⊢
 simp only [Bool.and_eq_true] at h ⊢
 refine ⟨h.1,a1,hroot _ h3.1,hroot _ h3.2.1,hroot _ h3.2.2,?_⟩
 have hst := h.2.2.2.2.2
 by_cases s0 : m.state = 0
 ·have e : ¬ holds m = true := by simp [holds,s0]
  rw [if_pos s0] at hst ⊢
  rw [if_neg e]; exact hst
 rw [if_neg s0] at hst ⊢
 by_cases s1 : m.state = 1
 ·have e : holds m = true := by simp [holds,s1]
  rw [if_pos s1] at hst ⊢
  rw [if_pos e]
  simp only [Bool.and_eq_true] at hst ⊢
  exact ⟨hst.1,hst.2.1,hst.2.2.1,hroot _ (h4 e)⟩
 rw [if_neg s1] at hst ⊢
 by_cases s2 : m.state = 2
 ·have e : holds m = true := by simp [holds,s2]
  rw [if_pos s2] at hst ⊢
  rw [if_pos e]
  simp only [Bool.and_eq_true] at hst ⊢
  exact ⟨hst.1,hst.2.1,hroot _ (h4 e)⟩
 rw [if_neg s2] at hst ⊢
 have e : ¬ holds m = true := by simp [holds,s1,s2]
 rw [if_neg e]
 exact hst
end
end Go.Eng
/-! a step of a machine,plain -/
namespace Go.Eng
noncomputable section

abbrev ndN : Nd := ⟨1,0,⟨#[]⟩,0,0⟩
abbrev ndI (n : Int) : Nd := ⟨3,n,⟨#[]⟩,0,0⟩
abbrev ndP (a b : Int) : Nd := ⟨5,0,⟨#[]⟩,a,b⟩
abbrev ndF (n a : Int) : Nd := ⟨6,n,⟨#[]⟩,a,0⟩
abbrev ndK (a : Int) : Nd := ⟨7,0,⟨#[]⟩,a,0⟩
abbrev ndR (n : Int) : Nd := ⟨8,n,⟨#[]⟩,0,0⟩
def ndB (b : Bool) : Nd := match b with | true => ⟨2,1,⟨#[]⟩,0,0⟩ | false => ⟨2,0,⟨#[]⟩,0,0⟩
def nod (p : List Nd) (v : Int) : Nd := p.getD v.toNat ndN
abbrev InP (p : List Nd) (v : Int) : Prop := 0 <= v /\ v < (p.length : Int)

def prNames : List (List UInt8) := [[43],[45],[42],[60],[61],[99,111,110,115],[99,97,114],[99,100,114],[110,117,108,108,63],[112,97,105,114,63],[101,113,63],[110,111,116],[112,114,105,110,116],[115,101,108,102],[115,101,110,100],[114,101,99,118],[115,112,97,119,110],[99,97,108,108,99,99],[103,111]]
def AF (s : ByteArray) : Int := wW (fun x => jH s (mk x)) prNames + 1
def prArgs : List Int := [2,2,2,2,2,2,1,1,1,1,2,1,1,0,2,0,1,1,1]
def xX (n : Int) : Int := if wi n 1 19 = true then prArgs.getD (n - 1).toNat 0 else -1

def A9 (out : List Int) (x : Nd) : Nd :=
 if x.kind = 5 then ⟨x.kind,x.n,x.s,out.getD x.a.toNat 0,out.getD x.b.toNat 0⟩
 else if x.kind = 6 \/ x.kind = 7 then ⟨x.kind,x.n,x.s,out.getD x.a.toNat 0,x.b⟩ else x
def Bg (x y : Nd) : Bool := (x.kind == y.kind) && ((x.n == y.n) && (jH x.s y.s && ((x.a == y.a) && (x.b == y.b))))
def MW : List Nd -> List Int -> List Nd -> List Int × List Nd
 | [],out,keys => (out,keys)
 | x :: r,out,keys => MW r (out ++ [match keys.findIdx? (fun y => Bg y (A9 out x)) with | some k => (k : Int) | none => (out.length : Int)]) (keys ++ [A9 out x])
def PO (p : List Nd) : List Int := (MW p [] []).1
def OD (p : List Nd) (a b : Int) : Bool := (PO p).getD a.toNat 0 == (PO p).getD b.toNat 0

def Jr (p : List Nd) (n : Int) (l : List Int) : Except Int (List Nd × Int) :=
 let x := nod p (l.getD 0 0); let y := nod p (l.getD 1 0)
 if n <= 5 then
  if x.kind = 3 /\ y.kind = 3 then
   let z := if n = 1 then ndI (x.n + y.n) else if n = 2 then ndI (x.n - y.n) else if n = 3 then ndI (x.n * y.n) else if n = 4 then ndB (decide (x.n < y.n)) else ndB (x.n == y.n)
   if wi z.n (-1000000000) 1000000000 = true then .ok (p ++ [z],p.length) else .error 4
  else .error 3
 else if n = 6 then .ok (p ++ [ndP (l.getD 0 0) (l.getD 1 0)],p.length)
 else if n = 7 \/ n = 8 then
  if x.kind = 5 then .ok (p,if n = 7 then x.a else x.b) else .error 3
 else if n = 9 then .ok (p ++ [ndB (x.kind == 1)],p.length)
 else if n = 10 then .ok (p ++ [ndB (x.kind == 5)],p.length)
 else if n = 11 then .ok (p ++ [ndB (OD p (l.getD 0 0) (l.getD 1 0))],p.length)
 else .ok (p ++ [ndB (x.kind == 2 && x.n == 0)],p.length)

def Js (m : Mc) (v : Int) : Mc := ⟨m.pool ++ [ndP v m.s],m.at',m.pool.length,m.e,m.d,m.state,m.ask,m.arg⟩
def CJ (m : Mc) : Option (Int × Mc) := if (nod m.pool m.s).kind = 5 then some ((nod m.pool m.s).a,⟨m.pool,m.at',(nod m.pool m.s).b,m.e,m.d,m.state,m.ask,m.arg⟩) else none
def Da : Nat -> Mc -> Option (List Int × Mc)
 | 0,m => some ([],m)
 | k + 1,m => match CJ m with
  | none => none
  | some (v,m') => match Da k m' with
   | none => none
   | some (l,m'') => some (v :: l,m'')
def Ig (p : List Nd) : Nat -> Int -> Option Int
 | 0,v => if (nod p v).kind = 5 then some (nod p v).a else none
 | k + 1,v => if (nod p v).kind = 5 then Ig p k (nod p v).b else none
def EF (p : List Nd) : Nat -> Int -> List Int × Bool
 | 0,_ => ([],false)
 | k + 1,v => if (nod p v).kind = 5 then ((nod p v).a :: (EF p k (nod p v).b).1,(EF p k (nod p v).b).2) else ([],(nod p v).kind == 1)
def BX (p : List Nd) (v : Int) : List Int × Bool := EF p (v.toNat + 1) v
def zy (c : Cd) (n : Int) : Bool := wi n 0 ((c.list.length : Int) - 1)
def DG (c : Cd) (p : List Nd) (v : Int) (many : Nat) : Option (Int × List Int) := match BX p v with
 | (a :: r,true) => if r.length + 1 = many /\ (nod p a).kind = 3 /\ zy c (nod p a).n = true then some ((nod p a).n,r) else none
 | _ => none

def NT (m : Mc) (o i : Int) : Except Int Mc := match Ig m.pool o.toNat m.e with
 | none => .error 7
 | some fr => match Ig m.pool i.toNat fr with
  | none => .error 7
  | some v => .ok (Js m v)
def IV (c : Cd) (m : Mc) (s : ByteArray) : Except Int Mc :=
 if 0 <= Bc c s then
  let d := c.defs.getD (Bc c s).toNat ⟨⟨#[]⟩,0,0⟩
  .ok (Js ⟨m.pool ++ [ndN] ++ [ndF (8 * d.at' + d.args) m.pool.length],m.at',m.s,m.e,m.d,m.state,m.ask,m.arg⟩ (m.pool.length + 1))
 else if AF s = 0 then .error 1
 else .ok (Js ⟨m.pool ++ [ndR (AF s)],m.at',m.s,m.e,m.d,m.state,m.ask,m.arg⟩ m.pool.length)
def DF (c : Cd) (m : Mc) (f : Nd) (l : List Int) : Except Int Mc :=
 if f.n % 8 ≠ (l.length : Int) then .error 2
 else if zy c (f.n / 8) = false then .error 7
 else
  let b := xK (m.pool ++ [ndI (m.at' + 1)]) [(m.pool.length : Int),m.s,m.e]
  let v := xK (b.1 ++ [ndP b.2 m.d]) l
  .ok ⟨v.1 ++ [ndP v.2 f.a] ++ [ndN],f.n / 8,((v.1.length : Int) + 1),v.1.length,b.1.length,m.state,m.ask,m.arg⟩
def Mw (c : Cd) (m : Mc) (st : Int) (l : List Int) : Except Int Mc :=
 if l.length ≠ 1 then .error 2
 else match DG c m.pool st 4 with
  | some (n,[s,e,d]) => .ok (Js ⟨m.pool,n,s,e,d,m.state,m.ask,m.arg⟩ (l.getD 0 0))
  | _ => .error 7
def A8 (c : Cd) : Nat -> Mc -> Int -> List Int -> Except Int Mc
 | 0,_,_,_ => .error 0
 | k + 1,m,f,l =>
  let x := nod m.pool f
  if x.kind = 6 then DF c m x l
  else if x.kind = 8 then
   if xX x.n ≠ (l.length : Int) then .error 2
   else if x.n = 18 then
    let st := xK (m.pool ++ [ndI (m.at' + 1)]) [(m.pool.length : Int),m.s,m.e,m.d]
    A8 c k ⟨st.1 ++ [ndK st.2],m.at',m.s,m.e,m.d,m.state,m.ask,m.arg⟩ (l.getD 0 0) [(st.1.length : Int)]
   else if x.n > 12 then
    let r := xK m.pool l
    .ok ⟨r.1,m.at',m.s,m.e,m.d,1,x.n,r.2⟩
   else match Jr m.pool x.n l with
    | .error h => .error (h + 1)
    | .ok (p,v) => .ok ⟨p ++ [ndP v m.s],m.at' + 1,p.length,m.e,m.d,m.state,m.ask,m.arg⟩
  else if x.kind = 7 then Mw c m x.a l
  else .error 3
def Am (c : Cd) (m : Mc) (many : Nat) : Except Int Mc :=
 if zy c (m.at' + 1) = false then .error 7
 else match Da (many + 1) m with
  | none => .error 7
  | some (l,m') => A8 c 3 m' (l.reverse.getD 0 0) (l.reverse.drop 1)
def GL (c : Cd) (m : Mc) : Except Int Mc := match CJ m with
 | none => .error 7
 | some (v,m1) =>
  let d := nod m1.pool m1.d
  if d.kind = 1 then .ok ⟨m1.pool,0,m1.s,m1.e,m1.d,2,m1.ask,v⟩
  else if d.kind ≠ 5 then .error 7
  else match DG c m1.pool d.a 3 with
   | some (n,[s,e]) => .ok (Js ⟨m1.pool,n,s,e,d.b,m1.state,m1.ask,m1.arg⟩ v)
   | _ => .error 7
def Ba (d : Int) (q : List Nd) (v : Int) (acc : List Nd) : List Nd × Int := ((zz d q [v] acc).2,(zz d q [v] acc).1.getD v.toNat 0)
def Sr (c : Cd) (m : Mc) (v : Int) : Mc := Js ⟨(Ba (-1) c.pool v m.pool).1,m.at',m.s,m.e,m.d,m.state,m.ask,m.arg⟩ (Ba (-1) c.pool v m.pool).2
def goM (c : Cd) (r : Except Int Mc) (next : Int) : Except Int Mc := match r with
 | .error h => .error h
 | .ok m => if zy c next = true then .ok ⟨m.pool,next,m.s,m.e,m.d,m.state,m.ask,m.arg⟩ else .error 7
def DZ (c : Cd) (m : Mc) (x : In) : Except Int Mc :=
 if x.op = 1 then goM c (.ok (Sr c m x.n)) (m.at' + 1)
 else if x.op = 2 then goM c (NT m x.n x.i) (m.at' + 1)
 else if x.op = 3 then goM c (IV c m x.s) (m.at' + 1)
 else if x.op = 5 then goM c (.ok m) x.n
 else if x.op = 6 then goM c (.ok (Js ⟨m.pool ++ [ndF (8 * x.n + x.i) m.e],m.at',m.s,m.e,m.d,m.state,m.ask,m.arg⟩ m.pool.length)) (m.at' + 1)
 else match CJ m with
  | none => .error 7
  | some (v,m1) => goM c (.ok m1) (if x.op = 4 /\ (nod m1.pool v).kind = 2 /\ (nod m1.pool v).n = 0 then x.n else m.at' + 1)
def LJ (m : Mc) (h : Int) : Mc := ⟨m.pool,0,m.s,m.e,m.d,3,h,0⟩
def doM (c : Cd) (m : Mc) : Except Int Mc :=
 let x := c.list.getD m.at'.toNat ⟨0,0,0,⟨#[]⟩⟩
 if x.op = 7 then Am c m x.i.toNat else if x.op = 8 then GL c m else DZ c m x
def D8 (c : Cd) (m : Mc) : Mc := match doM c m with
 | .error h => LJ m h
 | .ok m' => if m'.pool.length <= 3000 then m' else LJ m 6
def RA : Mc := ⟨[],0,0,0,0,3,7,0⟩
def Qv (c : Cd) (m : Mc) : Mc := if z4 c m = true then (if m.state = 0 then D8 c m else m) else RA
def Ai (m : Mc) : Mc := if m.pool.length <= 2000 then m else MF m
def yF (c : Cd) : Nat -> Mc -> Mc × Nat
 | 0,m => (m,0)
 | k + 1,m => if m.state = 0 then ((yF c k (Ai (D8 c m))).1,(yF c k (Ai (D8 c m))).2 + 1) else (m,0)
def Qu (c : Cd) (m : Mc) (steps : Int) : Mc × Nat := if z4 c m = true then yF c (mnI steps 2000).toNat m else (RA,0)
end
end Go.Eng
/-! compiling,plain (the reference's way) -/
namespace Go.Eng
noncomputable section

structure Ms where
 list : List In
 defs : List Df
 how : Int
abbrev inO (op : Int) : In := ⟨op,0,0,⟨#[]⟩⟩
def wrds : List (List UInt8) := [[113,117,111,116,101],[105,102],[102,110],[100,111],[108,101,116],[100,101,102,105,110,101]]
def Pu (s : ByteArray) : Bool := wrds.any fun x => jH s (mk x)
def toC (m : Ms) (k : Int) : Ms := if m.how = 0 then ⟨m.list.set k.toNat ⟨(m.list.getD k.toNat (inO 0)).op,m.list.length,(m.list.getD k.toNat (inO 0)).i,(m.list.getD k.toNat (inO 0)).s⟩,m.defs,0⟩ else m
def nmC (p : List Nd) (v : Int) : Bool := (nod p v).kind == 4 && !Pu (nod p v).s
section
variable (E : List (List ByteArray) -> Int -> Ms -> Ms)
end
def LV : ByteArray := mk [109,97,105,110]
end
end Go.Eng
/-! a step of a machine: the program's side: the stack,the frames,lists -/
namespace Go.Eng
noncomputable section
open Go.Proofs Go.Proofs.Try
set_option maxHeartbeats 4000000

abbrev eSt (c : Cd) (m : Mc) : D := .op [.os (5,0) (m.pool.map eN),iN m.at',iN m.s,iN m.e,iN m.d,iN m.state,iN m.ask,iN m.arg,.rs (5,0) (c.pool.map eN),.rs (4,0) (c.list.map eIn),.rs (3,0) (c.defs.map eDf)]
def Fh (c : Cd) (X : Option Ret) (r : Except Int Mc) : Prop := match r with
 | .ok m => X = some (iN 0,[eSt c m])
 | .error h => h ≠ 0 /\ ∃ m',X = some (iN h,[eSt c m'])
theorem D9 {p : List Nd} {v : Int} (h : InP p v) : p[v.toNat]? = some (nod p v) := by
 have : v.toNat < p.length := by omega
 simp [nod,List.getD_eq_getElem?_getD,List.getElem?_eq_getElem this]
theorem DQ {p : List Nd} (hp : xQ p) {v : Int} (h : InP p v) : okN (nod p v) v = true := by
 have := hp _ _ (D9 h)
 rwa [Int.toNat_of_nonneg h.1] at this
theorem Gf {p : List Nd} (hp : xQ p) {v : Int} (h : InP p v) (hk : (nod p v).kind = 5 \/ (nod p v).kind = 6 \/ (nod p v).kind = 7) : InP p (nod p v).a := by
 rcases hk with hk | hk
 ·have := yE (DQ hp h) hk; exact ⟨by omega,by omega⟩
 ·have := zI (DQ hp h) hk; exact ⟨by omega,by omega⟩
theorem GU {p : List Nd} (hp : xQ p) {v : Int} (h : InP p v) (hk : (nod p v).kind = 5) : InP p (nod p v).b := by
 have := yE (DQ hp h) hk; exact ⟨by omega,by omega⟩
theorem Q6 {p q : List Nd} {v : Int} (h : InP p v) : nod (p ++ q) v = nod p v := by
 have : v.toNat < p.length := by omega
 simp [nod,List.getD_eq_getElem?_getD,List.getElem?_append_left this]
theorem xO {p : List Nd} (q : List Nd) {v : Int} (h : InP p v) : InP (p ++ q) v := ⟨h.1,by simp only [lnA]; omega⟩
section
variable {R : Type} {p : List Nd} {v : Int}
theorem LP (h : InP p v) : (decide (0 <= v) && decide (v < ni (p.map eN).length)) = true := by
 rw [lnM]; simp only [ni,Bool.and_eq_true,decide_eq_true_eq]; exact ⟨h.1,h.2⟩
theorem Dz (h : InP p v) (K : Int -> Int -> ByteArray -> Int -> Int -> Option R) : grd (decide (0 <= v) && decide (v < ni (p.map eN).length)) (cy (p.map eN) v.toNat fun x => tk1 x fun n4 n7 s10 n13 n16 => (K n4 n7 s10 n13 n16)) = K (nod p v).kind (nod p v).n (nod p v).s (nod p v).a (nod p v).b := by
 rw [xl (LP h),wT (D9 h),Jb]
theorem KI (h : InP p v) (K : Int -> Option R) : grd (decide (0 <= v) && decide (v < ni (p.map eN).length)) (cy (p.map eN) v.toNat fun x => asAgg x fun l => cy l 0 fun y => asI .i64 y fun n => K n) = K (nod p v).kind := by
 rw [xl (LP h),wT (D9 h),Su]
theorem PN (h : InP p v) (K : Int -> Option R) : grd (decide (0 <= v) && decide (v < ni (p.map eN).length)) (cy (p.map eN) v.toNat fun x => asAgg x fun l => cy l 1 fun y => asI .i64 y fun n => K n) = K (nod p v).n := by
 rw [xl (LP h),wT (D9 h),Sw]
theorem RB (h : InP p v) (K : Int -> Option R) : grd (decide (0 <= v) && decide (v < ni (p.map eN).length)) (cy (p.map eN) v.toNat fun x => asAgg x fun l => cy l 3 fun y => asI .i64 y fun n => K n) = K (nod p v).a := by
 rw [xl (LP h),wT (D9 h),SA]
theorem RC (h : InP p v) (K : Int -> Option R) : grd (decide (0 <= v) && decide (v < ni (p.map eN).length)) (cy (p.map eN) v.toNat fun x => asAgg x fun l => cy l 4 fun y => asI .i64 y fun n => K n) = K (nod p v).b := by
 rw [xl (LP h),wT (D9 h),SB]
end

theorem AA {c : Cd} {m : Mc} (hl : m.pool.length < 4294967296) (v : Int) : V 71 [eSt c m,iN v] = some (.tup [],[eSt c (Js m v)]) := by
 have h := Lr hl v m.s
 rw [FW,AP h]
 rfl
theorem GI {c : Cd} {m : Mc} (hs : InP m.pool m.s) {v : Int} {m' : Mc} (h : CJ m = some (v,m')) : V 68 [eSt c m] = some (.tup [iN v,.bool true],[eSt c m']) := by
 unfold CJ at h
 rw [Bd,Dz hs]
 split at h
 ·rename_i h5
  cases h
  rw [vJ (xz h5)]
 ·cases h
theorem Dc {c : Cd} {m : Mc} (hs : InP m.pool m.s) (h : CJ m = none) : V 68 [eSt c m] = some (.tup [iN 0,.bool false],[eSt c m]) := by
 unfold CJ at h
 rw [Bd,Dz hs]
 split at h
 ·cases h
 ·rename_i h5
  rw [wz (xA h5)]
theorem ME {m : Mc} (hp : xQ m.pool) (hs : InP m.pool m.s) {v : Int} {m' : Mc} (h : CJ m = some (v,m')) : InP m.pool v /\ m'.pool = m.pool /\ InP m.pool m'.s /\ m'.e = m.e /\ m'.d = m.d /\ m'.at' = m.at' /\ m'.state = m.state /\ m'.ask = m.ask /\ m'.arg = m.arg := by
 unfold CJ at h
 split at h
 ·rename_i h5
  cases h
  exact ⟨Gf hp hs (.inl h5),rfl,GU hp hs h5,rfl,rfl,rfl,rfl,rfl,rfl⟩
 ·cases h
def alD (r : Option Int) : D := match r with | some v => .tup [iN v,.bool true] | none => .tup [iN 0,.bool false]
theorem Ff {c : Cd} {m : Mc} (hp : xQ m.pool) : ∀ (k : Nat) (v : Int),InP m.pool v -> k < 4611686018427387904 ->
  yJ v (k : Int) m.at' m.s m.e m.d m.state m.ask m.arg (c.pool.map eN) (c.list.map eIn) (c.defs.map eDf) (m.pool.map eN) = some (alD (Ig m.pool k v),[eSt c m])
 | 0,v,hv,hk => by
  rw [zx,vJ (decide_eq_false (by omega)),KI hv]
  unfold Ig
  by_cases h5 : (nod m.pool v).kind = 5
  ·rw [if_pos h5,vJ (xz h5),RB hv]; rfl
  ·rw [if_neg h5,wz (xA h5)]; rfl
 | k + 1,v,hv,hk => by
  have hw : w6 (((k + 1 : Nat) : Int) - 1) = (k : Int) := by rw [w64 (by omega) (by omega)]; omega
  rw [zx,wz (decide_eq_true (by omega)),KI hv]
  unfold Ig
  by_cases h5 : (nod m.pool v).kind = 5
  ·have ih := Ff (c := c) hp k (nod m.pool v).b (GU hp hv h5) (by omega)
   rw [if_pos h5,vJ (xz h5),RC hv,hw,ih]
  ·rw [if_neg h5,wz (xA h5)]; rfl
theorem JK {c : Cd} {m : Mc} (hp : xQ m.pool) {v : Int} (hv : InP m.pool v) {n : Int} (h0 : 0 <= n) (h1 : n < 4611686018427387904) : V 84 [eSt c m,iN v,iN n] = some (alD (Ig m.pool n.toNat v),[eSt c m]) := by
 have := Ff (c := c) hp n.toNat v hv (by omega)
 rw [Int.toNat_of_nonneg h0] at this
 rw [Ew]
 exact this
theorem Ir {p : List Nd} (hp : xQ p) : ∀ (k : Nat) (v a : Int),InP p v -> Ig p k v = some a -> InP p a
 | 0,v,a,hv,h => by
  unfold Ig at h
  split at h
  ·cases h; exact Gf hp hv (.inl ‹_›)
  ·cases h
 | k + 1,v,a,hv,h => by
  unfold Ig at h
  split at h
  ·exact Ir hp k _ a (GU hp hv ‹_›) h
  ·cases h
theorem J7 {c : Cd} {m : Mc} (hp : xQ m.pool) (hl : m.pool.length < 4294967296) (he : InP m.pool m.e) {o i : Int} (o0 : 0 <= o) (o1 : o < 4611686018427387904) (i0 : 0 <= i) (i1 : i < 4611686018427387904) :
  Fh c (V 73 [eSt c m,iN o,iN i]) (NT m o i) := by
 have h1 := JK (c := c) hp he o0 o1
 rw [CU]
 unfold NT
 cases e1 : Ig m.pool o.toNat m.e with
 | none =>
  rw [e1] at h1; simp only [alD] at h1
  exact ⟨by decide,m,by rw [zo h1]; rfl⟩
 | some fr =>
  rw [e1] at h1; simp only [alD] at h1
  have h2 := JK (c := c) hp (Ir hp _ _ _ he e1) i0 i1
  rw [zo h1,Bool.not_true,wy]
  cases e2 : Ig m.pool i.toNat fr with
  | none =>
   rw [e2] at h2; simp only [alD] at h2
   simp only [e2]
   exact ⟨by decide,m,by rw [zo h2]; rfl⟩
  | some v =>
   rw [e2] at h2; simp only [alD] at h2
   simp only [e2]
   have h3 := AA (c := c) hl v
   show _ = _
   rw [zo h2,Bool.not_true,wy,yx h3]

theorem Od {p : List Nd} (hp : xQ p) : ∀ (k : Nat) (v : Int),InP p v -> ∀ x ∈ (EF p k v).1,InP p x
 | 0,v,hv,x,hx => by simp [EF] at hx
 | k + 1,v,hv,x,hx => by
  unfold EF at hx
  split at hx
  ·rename_i h5
   rcases List.mem_cons.1 hx with rfl | hx
   ·exact Gf hp hv (.inl h5)
   ·exact Od hp k _ (GU hp hv h5) x hx
  ·simp at hx
theorem LT {p : List Nd} : ∀ (k : Nat) (v : Int),(EF p k v).1.length <= k
 | 0,v => by simp [EF]
 | k + 1,v => by
  unfold EF
  split
  ·have := LT (p := p) k (nod p v).b; simp only [lnC]; omega
  ·simp
theorem GT {p : List Nd} (hp : xQ p) (hl : p.length < 4294967290) : ∀ (k : Nat) (v : Int) (acc : List Int),InP p v -> v < k -> acc.length + k < 4294967296 ->
  yZ v (acc.map eI) (p.map eN) = some (.tup [.os (1,0) ((acc ++ (EF p k v).1).map eI),.bool (EF p k v).2],[rP p])
 | 0,v,acc,hv,hk,ha => by omega
 | k + 1,v,acc,hv,hk,ha => by
  rw [CR,KI hv]
  unfold EF
  by_cases h5 : (nod p v).kind = 5
  ·have hb := yE (DQ hp hv) h5
   have ih := GT hp hl k (nod p v).b (acc ++ [(nod p v).a]) (GU hp hv h5) (by omega) (by simp only [lnA,lnC,lnN]; omega)
   have ea : acc.map eI ++ [iN (nod p v).a] = (acc ++ [(nod p v).a]).map eI := by simp
   have hlim : decide (ni ((acc ++ [(nod p v).a]).map eI).length <= LIM) = true := decide_eq_true (by rw [oE]; simp only [ni,lnM,lnA,lnC,lnN]; omega)
   rw [if_pos h5,wz (xx h5),RB hv,ea,xl hlim,xq,RC hv,ih]
   simp
  ·rw [if_neg h5,vJ (xw h5),KI hv]
   simp
theorem CN {p : List Nd} (hp : xQ p) (hl : p.length < 2147483648) {v : Int} (hv : InP p v) : V 40 [rP p,iN v] = some (.tup [.os (1,0) ((BX p v).1.map eI),.bool (BX p v).2],[rP p]) := by
 have := GT hp (by omega) (v.toNat + 1) v [] hv (by omega) (by simp only [lnN]; omega)
 rw [FP]
 exact this
end
end Go.Eng
/-! which nodes are alike: both sides -/
namespace Go.Eng
noncomputable section
open Go.Proofs Go.Proofs.Try
set_option maxHeartbeats 4000000

theorem ndEq_iff {x y : Nd} : Bg x y = true ↔ x = y := by
 unfold Bg
 rw [Az]
 constructor
 ·intro h
  simp only [Bool.and_eq_true,beq_iff_eq,decide_eq_true_eq] at h
  obtain ⟨h1,h2,h3,h4,h5⟩ := h
  cases x; cases y
  simp only at h1 h2 h3 h4 h5
  subst h1; subst h2; subst h3; subst h4; subst h5
  rfl
 ·rintro rfl
  simp
abbrev kC (y : Nd) : List D := [iN y.kind,iN y.n,.str y.s,iN y.a,iN y.b]
theorem Qb (x y : Nd) : jr (kC x) (kC y) = Bg y x := by
 have e : ∀ a b : Int,(a == b) = (b == a) := fun a b => by
  by_cases h : a = b
  ·subst h; rfl
  ·rw [xw h,xw (fun e => h e.symm)]
 have e2 : jH x.s y.s = jH y.s x.s := by
  rw [Az,Az]
  exact decide_eq_decide.2 ⟨Eq.symm,Eq.symm⟩
 simp only [jr,o5,Bg,Bool.and_true]
 rw [e x.kind,e x.n,e x.a,e x.b,e2]
def Ki (x : D) (q : List D) : Option Int := match x with
 | .tup [.agg ks,.int _ v] => if jr q ks = true then some v else none
 | _ => none
theorem DP (x : D) (r q : List D) : cq (x :: r) q = match Ki x q with | some v => some v | none => cq r q := by
 by_cases hx : ∃ ks k v,x = .tup [.agg ks,.int k v]
 ·obtain ⟨ks,k,v,rfl⟩ := hx
  simp only [cq,Ki]
  cases jr q ks <;> rfl
 ·have e1 : Ki x q = none := by
   unfold Ki
   split
   ·exact absurd ⟨_,_,_,rfl⟩ hx
   ·rfl
  rw [e1,cq]
  intro ks k v h
  exact hx ⟨ks,k,v,h⟩
theorem I7 (key q : List D) (v : Int) : ∀ xs : List D,cq (uB xs key v) q = match cq xs q with | some u => some u | none => if jr q key = true then some v else none
 | [] => by
  show cq [_] q = _
  rw [DP]
  simp only [Ki,cq]
  cases jr q key <;> rfl
 | x :: xs => by
  have ih := I7 key q v xs
  show cq (x :: uB xs key v) q = _
  rw [DP,DP,ih]
  cases Ki x q <;> rfl
def CQ (ents : List D) (keys : List Nd) : Prop := ∀ x : Nd,cq ents (kC x) = (keys.findIdx? (fun y => Bg y x)).map (fun k => (k : Int))
theorem Nj : CQ [] [] := fun x => by simp [cq]
theorem Kj (keys : List Nd) (y x : Nd) : (keys ++ [y]).findIdx? (fun z => Bg z x) = match keys.findIdx? (fun z => Bg z x) with | some k => some k | none => if Bg y x = true then some keys.length else none := by
 rw [List.findIdx?_append]
 cases h : keys.findIdx? (fun z => Bg z x) with
 | some k => simp
 | none =>
  simp only [Option.none_or,List.findIdx?_cons,List.findIdx?_nil]
  cases Bg y x <;> simp
theorem Nk {ents : List D} {keys : List Nd} (h : CQ ents keys) {y : Nd} {k : Nat} (hk : keys.findIdx? (fun z => Bg z y) = some k) : CQ ents (keys ++ [y]) := by
 intro x
 rw [h x,Kj]
 cases hx : keys.findIdx? (fun z => Bg z x) with
 | some j => rfl
 | none =>
  simp only
  cases hyx : Bg y x with
  | false => simp
  | true =>
   rw [ndEq_iff.1 hyx,hx] at hk
   cases hk
theorem Nh {ents : List D} {keys : List Nd} (h : CQ ents keys) {y : Nd} (_ : keys.findIdx? (fun z => Bg z y) = none) : CQ (uB ents (kC y) keys.length) (keys ++ [y]) := by
 intro x
 rw [I7,h x,Kj]
 cases hx : keys.findIdx? (fun z => Bg z x) with
 | some j => rfl
 | none =>
  simp only [Qb]
  cases hyx : Bg y x <;> simp
def clV (keys : List Nd) (y : Nd) (i : Nat) : Int := match keys.findIdx? (fun z => Bg z y) with | some k => (k : Int) | none => (i : Int)
theorem Qc {l : List Int} (h : l.length < 4294967290) (x : Int) : decide (ni (l.map eI ++ [iN x]).length <= LIM) = true :=
 decide_eq_true (by rw [oE]; simp only [ni,lnA,lnM,lnC,lnN]; omega)
theorem FJ {ents : List D} {keys : List Nd} {out : List Int} {i : Nat} (h : CQ ents keys) (ho : out.length = i) (hk : keys.length = i) (hl : i < 4294967290) (a b : Int) (s : ByteArray) (c d : Int) (F : List D -> List D -> Option Ret) :
  ∃ ents',CQ ents' (keys ++ [⟨a,b,s,c,d⟩]) /\ br (!iv ents [iN a,iN b,.str s,iN c,iN d])
   (grd (!iv ents [iN a,iN b,.str s,iN c,iN d]) (nam (uB ents [iN a,iN b,.str s,iN c,iN d] (i : Int)) fun l21 => grd (decide (ni (out.map eI ++ [iN (i : Int)]).length <= LIM)) (nam (out.map eI ++ [iN (i : Int)]) fun l22 => F l21 l22)))
   (grd (decide (ni (out.map eI ++ [iN (lX ents [iN a,iN b,.str s,iN c,iN d])]).length <= LIM)) (nam (out.map eI ++ [iN (lX ents [iN a,iN b,.str s,iN c,iN d])]) fun l23 => F ents l23)) =
   F ents' ((out ++ [clV keys ⟨a,b,s,c,d⟩ i]).map eI) := by
 have hx := h ⟨a,b,s,c,d⟩
 have el : ∀ v : Int,out.map eI ++ [iN v] = (out ++ [v]).map eI := fun v => by simp
 unfold clV
 cases hf : keys.findIdx? (fun z => Bg z ⟨a,b,s,c,d⟩) with
 | some k =>
  rw [hf] at hx
  obtain ⟨e1,e2⟩ := uA (xs := ents) (ks := [iN a,iN b,.str s,iN c,iN d]) hx
  refine ⟨ents,Nk h hf,?_⟩
  rw [e2,e1,Bool.not_true,wy,xl (Qc (by omega) _),xq,el]
 | none =>
  rw [hf] at hx
  obtain ⟨e1,e2⟩ := uz (xs := ents) (ks := [iN a,iN b,.str s,iN c,iN d]) hx
  refine ⟨_,Nh h hf,?_⟩
  rw [e2,Bool.not_false,xd,wH,xq,xl (Qc (by omega) _),xq,el,hk]
theorem BD {R : Type} {l : List Int} {v : Int} (h0 : 0 <= v) (h1 : v < (l.length : Int)) (K : Int -> Option R) : grd (decide (0 <= v) && decide (v < ni (l.map eI).length)) (cy (l.map eI) v.toNat fun x => asI .i64 x fun n => K n) = K (l.getD v.toNat 0) := by
 obtain ⟨x,hx⟩ := wj (l := l) (i := v.toNat) (by omega)
 rw [xl (by rw [lnM]; simp only [ni,Bool.and_eq_true,decide_eq_true_eq]; exact ⟨h0,h1⟩),wT hx,w7,List.getD_eq_getElem?_getD,hx]; rfl
theorem Kc (x : Nd) (r : List Nd) (out : List Int) (keys : List Nd) : MW (x :: r) out keys = MW r (out ++ [clV keys (A9 out x) out.length]) (keys ++ [A9 out x]) := rfl
theorem EU {p : List Nd} (hp : xQ p) (hl : p.length < 4294967290) : ∀ (k i : Nat) (ents : List D) (keys : List Nd) (out : List Int),i + k = p.length -> out.length = i -> keys.length = i -> CQ ents keys ->
  xL (p.map eN) (ni (p.map eN).length) (i : Int) ents (out.map eI) = some (.os (1,0) ((MW (p.drop i) out keys).1.map eI),[])
 | 0,i,ents,keys,out,hi,ho,hk,h => by
  rw [AZ,vJ (by rw [lnM]; exact xk (by omega)),List.drop_of_length_le (by omega)]
  rfl
 | k + 1,i,ents,keys,out,hi,ho,hk,h => by
  obtain ⟨x,hx⟩ := wj (l := p) (i := i) (by omega)
  have hxo := hp i x hx
  have ih := fun ents keys out ho hk h => EU hp hl k (i + 1) ents keys out (by omega) ho hk h
  rw [AZ,wz (by rw [lnM]; exact xp (by omega)),xl (by rw [lnM]; exact xo (by omega)),Int.toNat_natCast,wT hx,Jb,sn hx,Kc,xF (by omega),ho]
  have fin : ∀ (y : Nd) (X : Option Ret),y = A9 out x -> (∃ ents',CQ ents' (keys ++ [y]) /\ X = xL (p.map eN) (ni (p.map eN).length) ((i + 1 : Nat) : Int) ents' ((out ++ [clV keys y i]).map eI)) ->
    X = some (.os (1,0) ((MW (p.drop (i + 1)) (out ++ [clV keys (A9 out x) i]) (keys ++ [A9 out x])).1.map eI),[]) := by
   rintro y X rfl ⟨ents',h1,rfl⟩
   exact ih ents' _ _ (by simp [ho]) (by simp [hk]) h1
  by_cases h5 : x.kind = 5
  ·have hb := yE hxo h5
   rw [wz (xx h5),BD hb.1 (by omega),BD hb.2.2.1 (by omega)]
   exact fin ⟨x.kind,x.n,x.s,out.getD x.a.toNat 0,out.getD x.b.toNat 0⟩ _ (by simp only [A9,h5,if_true]) (FJ h ho hk (by omega) x.kind x.n x.s _ _ fun e o => xL (p.map eN) (ni (p.map eN).length) ((i + 1 : Nat) : Int) e o)
  ·rw [vJ (xw h5)]
   by_cases h6 : x.kind = 6
   ·have hb := zI hxo (.inl h6)
    rw [wz (xx h6),wz (xx h6),BD hb.1 (by omega)]
    exact fin ⟨x.kind,x.n,x.s,out.getD x.a.toNat 0,x.b⟩ _ (by simp only [A9,h6,true_or,if_true]; simp) (FJ h ho hk (by omega) x.kind x.n x.s _ x.b fun e o => xL (p.map eN) (ni (p.map eN).length) ((i + 1 : Nat) : Int) e o)
   ·rw [vJ (xw h6)]
    by_cases h7 : x.kind = 7
    ·have hb := zI hxo (.inr h7)
     rw [wz (xx h7),BD hb.1 (by omega)]
     exact fin ⟨x.kind,x.n,x.s,out.getD x.a.toNat 0,x.b⟩ _ (by simp only [A9,h7]; simp) (FJ h ho hk (by omega) x.kind x.n x.s _ x.b fun e o => xL (p.map eN) (ni (p.map eN).length) ((i + 1 : Nat) : Int) e o)
    ·rw [vJ (xw h7)]
     exact fin x _ (by simp only [A9,h5,h6,h7,if_false,or_self]) (FJ h ho hk (by omega) x.kind x.n x.s x.a x.b fun e o => xL (p.map eN) (ni (p.map eN).length) ((i + 1 : Nat) : Int) e o)
theorem PB {p : List Nd} (hp : xQ p) (hl : p.length < 4294967290) : V 102 [eP p] = some (.os (1,0) ((PO p).map eI),[]) := by
 rw [JQ]
 exact EU hp hl p.length 0 [] [] [] (Nat.zero_add _) rfl rfl Nj
theorem Ly : ∀ (r : List Nd) (out : List Int) (keys : List Nd),(MW r out keys).1.length = out.length + r.length
 | [],out,keys => rfl
 | x :: r,out,keys => by
  rw [Kc,Ly r]; simp only [lnA,lnC,lnN]; omega
theorem Lz (p : List Nd) : (PO p).length = p.length := by
 unfold PO; rw [Ly]; simp
def OC (p : List Nd) (a b : Int) : Bool := xJ p && (BU p a && (BU p b && OD p a b))
theorem MI {p : List Nd} (hf : AX p) (hl : p.length < 4611686018427387904) (a b : Int) : V 100 [eP p,iN a,iN b] = some (.bool (OC p a b),[]) := by
 have h1 := yc hf hl
 have h2 := y6 hl a
 have h3 := y6 hl b
 rw [M9,Aw h1]
 unfold OC BU
 cases e1 : xJ p with
 | false => rfl
 | true =>
  have hlen := ye e1
  have h4 := PB (okPool_iff.1 e1).1 (by omega)
  rw [Bool.not_true,wy,BH h2]
  cases e2 : wi a 0 ((p.length : Int) - 1) with
  | false => rfl
  | true =>
   rw [Bool.not_true,wy,BH h3]
   cases e3 : wi b 0 ((p.length : Int) - 1) with
   | false => rfl
   | true =>
    have b2 := wi_iff.1 e2
    have b3 := wi_iff.1 e3
    rw [Bool.not_true,wy,Lj h4,BD b2.1 (by rw [Lz]; omega),BD b3.1 (by rw [Lz]; omega)]
    rfl

end
end Go.Eng
/-! what is built in: both sides -/
namespace Go.Eng
noncomputable section
open Go.Proofs Go.Proofs.Try
set_option maxHeartbeats 4000000

theorem Ar {R : Type} {l : List Int} {v x : Int} (h0 : 0 <= v) (h : l[v.toNat]? = some x) (K : Int -> Option R) : grd (decide (0 <= v) && decide (v < ni (l.map eI).length)) (cy (l.map eI) v.toNat fun x => asI .i64 x fun n => K n) = K x := by
 have := aQ h
 rw [BD h0 (by omega),List.getD_eq_getElem?_getD,h]; rfl
theorem zk {R : Type} {a : Int} {r : List Int} (K : Int -> Option R) : grd (decide ((0 : Nat) <= 0) && decide ((0 : Int) < ni ((a :: r).map eI).length)) (cy ((a :: r).map eI) 0 fun x => asI .i64 x fun n => K n) = K a := Ar (l := a :: r) (v := 0) (by omega) rfl K
theorem CX {R : Type} {a b : Int} {r : List Int} (K : Int -> Option R) : grd (decide ((0 : Nat) <= 1) && decide ((1 : Int) < ni ((a :: b :: r).map eI).length)) (cy ((a :: b :: r).map eI) 1 fun x => asI .i64 x fun n => K n) = K b := Ar (l := a :: b :: r) (v := 1) (by omega) rfl K
theorem Lf {R : Type} {a b c : Int} {r : List Int} (K : Int -> Option R) : grd (decide ((0 : Nat) <= 2) && decide ((2 : Int) < ni ((a :: b :: c :: r).map eI).length)) (cy ((a :: b :: c :: r).map eI) 2 fun x => asI .i64 x fun n => K n) = K c := Ar (l := a :: b :: c :: r) (v := 2) (by omega) rfl K
theorem PZ {R : Type} {a b c d : Int} {r : List Int} (K : Int -> Option R) : grd (decide ((0 : Nat) <= 3) && decide ((3 : Int) < ni ((a :: b :: c :: d :: r).map eI).length)) (cy ((a :: b :: c :: d :: r).map eI) 3 fun x => asI .i64 x fun n => K n) = K d := Ar (l := a :: b :: c :: d :: r) (v := 3) (by omega) rfl K
theorem CZ : nz ⟨#[]⟩ = true := by unfold nz; rw [Az]; simp
theorem Il {n : Int} : V 91 [iN n] = some (iN (xX n),[]) := by
 rw [IL,xU (xW _ _ _)]
 unfold xX
 cases h : wi n 1 19 with
 | false => rfl
 | true =>
  have hb := wi_iff.1 h
  rw [Bool.not_true,wy,w64 (n := n - 1) (by omega) (by omega)]
  exact BD (l := prArgs) (by omega) (by show n - 1 < 19; omega) _
theorem Qw {R : Type} {l : List (List UInt8)} {i : Nat} {x : List UInt8} (h : l[i]? = some x) (K : ByteArray -> Option R) : grd (decide (0 <= (i : Int)) && decide ((i : Int) < ni (l.map fun x => D.str (mk x)).length)) (cy (l.map fun x => D.str (mk x)) (i : Int).toNat fun x => asS x fun n => K n) = K (mk x) := by
 have := aQ h
 rw [xl (by rw [lnM]; exact xo this),Int.toNat_natCast,wT h,xb]
theorem FA {l : List (List UInt8)} (hl : l.length < 4611686018427387904) (s : ByteArray) : ∀ (k i : Nat),i + k = l.length -> yf (l.map fun x => D.str (mk x)) s (ni l.length) (i : Int) = some (iN (dv (fun x => jH s (mk x)) l i),[])
 | 0,i,hi => by
  rw [yQ,vJ (xk (by omega)),vG (by omega)]
 | k + 1,i,hi => by
  obtain ⟨x,hx⟩ := wj (l := l) (i := i) (by omega)
  have ih := FA hl s k (i + 1) (by omega)
  rw [yQ,wz (xp (by omega)),Qw hx]
  cases h : jH s (mk x) with
  | true => rw [xd,vH hx h]
  | false => rw [wy,xF (by omega),ih,vp hx h]
theorem FE (s : ByteArray) : 0 <= AF s /\ AF s <= 19 := by
 unfold AF wW
 cases h : prNames.findIdx? fun x => jH s (mk x) with
 | none => simp
 | some k =>
  rw [List.findIdx?_eq_some_iff_getElem] at h
  obtain ⟨hk,_⟩ := h
  have : prNames.length = 19 := rfl
  simp only; omega
theorem J0 (s : ByteArray) : V 85 [.str s] = some (iN (AF s),[]) := by
 have h1 : V 87 [.rs (1,0) (prNames.map fun x => D.str (mk x)),.str s] = some (iN (wW (fun x => jH s (mk x)) prNames),[]) := by
  have h := FA (l := prNames) (by decide) s prNames.length 0 (Nat.zero_add _)
  rw [vq,Int.natCast_zero] at h
  rw [zd]
  exact h
 have hb := FE s
 have h2 : V 93 [] = some (.os (1,0) (prNames.map fun x => D.str (mk x)),[]) := Ic
 unfold AF at hb ⊢
 rw [KT,Jk h2,yw h1,w64 (by omega) (by omega)]
theorem zN (b : Bool) : V 99 [.bool b] = some (eN (ndB b),[]) := by
 rw [IP]; cases b <;> rfl
def Qn (n a b : Int) : Nd := if n = 1 then ndI (a + b) else if n = 2 then ndI (a - b) else if n = 3 then ndI (a * b) else if n = 4 then ndB (decide (a < b)) else ndB (a == b)
theorem Pc {a b : Int} (ha : -1000000000 <= a /\ a <= 1000000000) (hb : -1000000000 <= b /\ b <= 1000000000) : -1000000000000000000 <= a * b /\ a * b <= 1000000000000000000 := by
 have h1 : a.natAbs <= 1000000000 := by omega
 have h2 : b.natAbs <= 1000000000 := by omega
 have h3 : (a * b).natAbs <= 1000000000 * 1000000000 := by rw [Int.natAbs_mul]; exact Nat.mul_le_mul h1 h2
 omega
theorem PD {n a b : Int} (ha : -1000000000 <= a /\ a <= 1000000000) (hb : -1000000000 <= b /\ b <= 1000000000) : V 101 [iN n,iN a,iN b] = some (eN (Qn n a b),[]) := by
 have hm := Pc ha hb
 rw [JV]
 unfold Qn
 by_cases h1 : n = 1
 ·rw [wz (xx h1),if_pos h1,w64 (by omega) (by omega)]
 rw [vJ (xw h1),if_neg h1]
 by_cases h2 : n = 2
 ·rw [wz (xx h2),if_pos h2,w64 (by omega) (by omega)]
 rw [vJ (xw h2),if_neg h2]
 by_cases h3 : n = 3
 ·rw [wz (xx h3),if_pos h3,w64 (by omega) (by omega)]
 rw [vJ (xw h3),if_neg h3]
 by_cases h4 : n = 4
 ·rw [wz (xx h4),if_pos h4,yX (zN _)]
 rw [vJ (xw h4),if_neg h4,yX (zN _)]
theorem Rb {x : Nd} {h : Int} (ho : okN x h = true) : x.s.size <= 12 := by
 have nz0 : nz x.s = true -> x.s.size <= 12 := by
  intro e
  unfold nz at e
  rw [Az] at e
  rw [of_decide_eq_true e]; decide
 have nm : Dv x.s = true -> x.s.size <= 12 := by
  intro e
  unfold Dv at e
  simp only [Bool.and_eq_true] at e
  have := wi_iff.1 e.1
  omega
 unfold okN at ho
 repeat' split at ho
 all_goals first | cases ho | skip
 all_goals (simp only [Bool.and_eq_true] at ho; first | exact nz0 ho.2.1 | exact nm ho.2.1)
theorem zL {p : List Nd} (hp : xQ p) : AX p := fun x hx => by
 obtain ⟨j,hj⟩ := List.getElem?_of_mem hx
 have := Rb (hp j x hj)
 omega
theorem Oj {x : Nd} {h : Int} (ho : okN x h = true) (hk : x.kind = 3) : -1000000000 <= x.n /\ x.n <= 1000000000 := by
 simp [okN,hk] at ho
 exact wi_iff.1 ho.1
def BQ (p : List Nd) (n : Int) (v : Int) : Bool := if n <= 5 then (nod p v).kind == 3 else if n = 7 \/ n = 8 then (nod p v).kind == 5 else true
theorem Ky {p : List Nd} {n : Int} {l : List Int} (hl : l.length < 4294967290) (hv : ∀ v ∈ l,InP p v) : ∀ (k i : Nat),i + k = l.length ->
  xR n (l.map eI) (l.map eI) (ni l.length) (i : Int) (p.map eN) = if (l.drop i).all (BQ p n) = true then xR n (l.map eI) (l.map eI) (ni l.length) (l.length : Int) (p.map eN) else some (.tup [iN (-1),iN 3],[rP p])
 | 0,i,hi => by
  have : i = l.length := by omega
  subst this
  simp
 | k + 1,i,hi => by
  obtain ⟨v,hx⟩ := wj (l := l) (i := i) (by omega)
  have hvi := hv v (List.mem_of_getElem? hx)
  have ih := Ky (n := n) hl hv k (i + 1) (by omega)
  rw [Al n (l.map eI) (l.map eI) (ni l.length) (i : Int),wz (xp (by omega)),Ar (x := v) (by omega) (by rw [Int.toNat_natCast]; exact hx),xF (by omega),ih,sn hx,List.all_cons]
  by_cases h5 : n <= 5
  ·have ec : BQ p n v = ((nod p v).kind == 3) := by unfold BQ; rw [if_pos h5]
   rw [wz (decide_eq_true h5),KI hvi,ec]
   by_cases hk : (nod p v).kind = 3
   ·rw [vJ (xz hk),vJ (xw (by omega)),vJ (xw (by omega)),xx hk,Bool.true_and]
   ·rw [wz (xA hk),xw hk,Bool.false_and]; rfl
  ·rw [vJ (decide_eq_false h5)]
   by_cases h7 : n = 7
   ·have ec : BQ p n v = ((nod p v).kind == 5) := by unfold BQ; rw [if_neg h5,if_pos (.inl h7)]
    rw [wz (xx h7),KI hvi,ec]
    by_cases hk : (nod p v).kind = 5
    ·rw [vJ (xz hk),xx hk,Bool.true_and]
    ·rw [wz (xA hk),xw hk,Bool.false_and]; rfl
   ·rw [vJ (xw h7)]
    by_cases h8 : n = 8
    ·have ec : BQ p n v = ((nod p v).kind == 5) := by unfold BQ; rw [if_neg h5,if_pos (.inr h8)]
     rw [wz (xx h8),KI hvi,ec]
     by_cases hk : (nod p v).kind = 5
     ·rw [vJ (xz hk),xx hk,Bool.true_and]
     ·rw [wz (xA hk),xw hk,Bool.false_and]; rfl
    ·have ec : BQ p n v = true := by unfold BQ; rw [if_neg h5,if_neg (by omega)]
     rw [vJ (xw h8),ec,Bool.true_and]
def SE (p : List Nd) (r : Except Int (List Nd × Int)) : Option Ret := match r with
 | .ok (q,v) => some (.tup [iN v,iN 0],[rP q])
 | .error h => some (.tup [iN (-1),iN h],[rP p])
def Ac (p : List Nd) (n : Int) (l : List Int) : Nd :=
 let x := nod p (l.getD 0 0); let y := nod p (l.getD 1 0)
 if n = 6 then ndP (l.getD 0 0) (l.getD 1 0)
 else if n = 9 then ndB (x.kind == 1)
 else if n = 10 then ndB (x.kind == 5)
 else if n = 11 then ndB (OD p (l.getD 0 0) (l.getD 1 0))
 else if n = 12 then ndB (x.kind == 2 && x.n == 0)
 else Qn n x.n y.n
theorem NJ {p : List Nd} (hp : xQ p) (hl : p.length < 4294967290) {n : Int} {l : List Int} (hv : ∀ v ∈ l,InP p v) (h12 : 1 <= n /\ n <= 12) (h78 : n ≠ 7 /\ n ≠ 8) (hlen : (l.length : Int) = xX n) (h11 : n = 11 -> xJ p = true)
  (hk : n <= 5 -> ∀ v ∈ l,(nod p v).kind = 3) : V 96 [eP p,iN n,.rs (1,0) (l.map eI)] = some (eN (Ac p n l),[]) := by
 have hpos : l ≠ [] := by
  rintro rfl
  simp only [xX,lnN] at hlen
  have : n = 1 \/ n = 2 \/ n = 3 \/ n = 4 \/ n = 5 \/ n = 6 \/ n = 7 \/ n = 8 \/ n = 9 \/ n = 10 \/ n = 11 \/ n = 12 := by omega
  rcases this with rfl | rfl | rfl | rfl | rfl | rfl | rfl | rfl | rfl | rfl | rfl | rfl <;> cases hlen
 obtain ⟨a,r,rfl⟩ : ∃ a r,l = a :: r := by cases l with | nil => exact absurd rfl hpos | cons a r => exact ⟨a,r,rfl⟩
 have ha := hv a (by simp)
 have two : (n <= 6 \/ n = 11) -> ∃ b,r = [b] := by
  intro h
  have h2 : xX n = 2 := by
   have : n = 1 \/ n = 2 \/ n = 3 \/ n = 4 \/ n = 5 \/ n = 6 \/ n = 11 := by omega
   rcases this with rfl | rfl | rfl | rfl | rfl | rfl | rfl <;> rfl
  rw [h2] at hlen
  simp only [lnC] at hlen
  match r,hlen with
  | [b],_ => exact ⟨b,rfl⟩
  | [],h => simp at h
  | _ :: _ :: _,h => simp at h; omega
 rw [IQ,zk,Dz ha]
 unfold Ac
 simp only [List.getD_cons_zero]
 by_cases h6 : n = 6
 ·obtain ⟨b,rfl⟩ := two (by omega)
  rw [wz (xx h6),if_pos h6,zk,CX]
  rfl
 rw [vJ (xw h6),if_neg h6]
 by_cases h9 : n = 9
 ·rw [wz (xx h9),if_pos h9,yX (zN _)]
 rw [vJ (xw h9),if_neg h9]
 by_cases h10 : n = 10
 ·rw [wz (xx h10),if_pos h10,yX (zN _)]
 rw [vJ (xw h10),if_neg h10]
 by_cases hn11 : n = 11
 ·obtain ⟨b,rfl⟩ := two (by omega)
  have hok := h11 hn11
  have hb := hv b (by simp)
  have hs := MI (p := p) (zL hp) (by omega) a b
  have hsf : OC p a b = OD p a b := by
   have h1 : BU p a = true := wi_iff.2 ⟨ha.1,by omega⟩
   have h2 : BU p b = true := wi_iff.2 ⟨hb.1,by omega⟩
   simp [OC,hok,h1,h2]
  rw [hsf] at hs
  rw [wz (xx hn11),if_pos hn11,zk,CX,Pi hs,yX (zN _)]
  rfl
 rw [vJ (xw hn11),if_neg hn11]
 by_cases hn12 : n = 12
 ·rw [wz (xx hn12),if_pos hn12]
  cases hk2 : (nod p a).kind == 2 with
  | true => rw [xd,yX (zN _),Bool.true_and]
  | false => rw [wy,yX (zN _),Bool.false_and]
 rw [vJ (xw hn12),if_neg hn12]
 obtain ⟨b,rfl⟩ := two (by omega)
 have hb := hv b (by simp)
 have k1 := hk (by omega) a (by simp)
 have k2 := hk (by omega) b (by simp)
 have hn := PD (n := n) (Oj (DQ hp ha) k1) (Oj (DQ hp hb) k2)
 rw [CX,PN hb,Lk hn]
 rfl
theorem Iy {n : Int} {l : List Int} (hlen : (l.length : Int) = xX n) (h : 1 <= n /\ n <= 6 \/ n = 11) : ∃ a b,l = [a,b] := by
 have h2 : xX n = 2 := by
  have : n = 1 \/ n = 2 \/ n = 3 \/ n = 4 \/ n = 5 \/ n = 6 \/ n = 11 := by omega
  rcases this with rfl | rfl | rfl | rfl | rfl | rfl | rfl <;> rfl
 rw [h2] at hlen
 match l,hlen with
 | [a,b],_ => exact ⟨a,b,rfl⟩
 | [],h => simp at h
 | [_],h => simp at h
 | _ :: _ :: _ :: _,h => simp at h; omega
theorem Dw {n : Int} {l : List Int} (hlen : (l.length : Int) = xX n) (h : 7 <= n /\ n <= 10 \/ n = 12) : ∃ a,l = [a] := by
 have h2 : xX n = 1 := by
  have : n = 7 \/ n = 8 \/ n = 9 \/ n = 10 \/ n = 12 := by omega
  rcases this with rfl | rfl | rfl | rfl | rfl <;> rfl
 rw [h2] at hlen
 match l,hlen with
 | [a],_ => exact ⟨a,rfl⟩
 | [],h => simp at h
 | _ :: _ :: _,h => simp at h; omega
theorem Ny {p : List Nd} (_ : xQ p) {n : Int} {l : List Int} (hv : ∀ v ∈ l,InP p v) (hlen : (l.length : Int) = xX n) (_ : 1 <= n /\ n <= 12) (_ : n ≠ 7 /\ n ≠ 8) (hw : wi (Ac p n l).n (-1000000000) 1000000000 = true) : okN (Ac p n l) p.length = true := by
 have hB : ∀ b,okN (ndB b) p.length = true := by intro b; cases b <;> simp [ndB,okN,wi,CZ]
 unfold Ac at hw ⊢
 simp only at hw ⊢
 by_cases h6 : n = 6
 ·rw [if_pos h6]
  obtain ⟨a,b,rfl⟩ := Iy hlen (by omega)
  have ha := hv a (by simp)
  have hb := hv b (by simp)
  show (wi 0 0 0 && (nz ⟨#[]⟩ && (wi a 0 _ && wi b 0 _))) = true
  rw [wi_iff.2 ⟨ha.1,by omega⟩,wi_iff.2 ⟨hb.1,by omega⟩,CZ]
  rfl
 rw [if_neg h6] at hw ⊢
 by_cases h9 : n = 9
 ·rw [if_pos h9]; exact hB _
 rw [if_neg h9] at hw ⊢
 by_cases h10 : n = 10
 ·rw [if_pos h10]; exact hB _
 rw [if_neg h10] at hw ⊢
 by_cases h11 : n = 11
 ·rw [if_pos h11]; exact hB _
 rw [if_neg h11] at hw ⊢
 by_cases hn12 : n = 12
 ·rw [if_pos hn12]; exact hB _
 rw [if_neg hn12] at hw ⊢
 unfold Qn at hw ⊢
 have hI : ∀ x,wi x (-1000000000) 1000000000 = true -> okN (ndI x) p.length = true := fun x hx => by
  show (wi x (-1000000000) 1000000000 && (nz ⟨#[]⟩ && _)) = true
  rw [hx,CZ]; rfl
 split at hw
 ·rw [if_pos ‹_›]; exact hI _ hw
 rw [if_neg ‹_›]
 split at hw
 ·rw [if_pos ‹_›]; exact hI _ hw
 rw [if_neg ‹_›]
 split at hw
 ·rw [if_pos ‹_›]; exact hI _ hw
 rw [if_neg ‹_›]
 split <;> exact hB _
theorem D0 {p : List Nd} {n : Int} {l : List Int} (h12 : 1 <= n /\ n <= 12) (hlen : (l.length : Int) = xX n) : Jr p n l =
  if l.all (BQ p n) = true then (if n = 7 then .ok (p,(nod p (l.getD 0 0)).a) else if n = 8 then .ok (p,(nod p (l.getD 0 0)).b) else if wi (Ac p n l).n (-1000000000) 1000000000 = true then .ok (p ++ [Ac p n l],p.length) else .error 4) else .error 3 := by
 unfold Jr
 simp only
 have hBw : ∀ b,wi (ndB b).n (-1000000000) 1000000000 = true := by intro b; cases b <;> rfl
 by_cases h5 : n <= 5
 ·obtain ⟨a,b,rfl⟩ := Iy hlen (by omega)
  have hc : [a,b].all (BQ p n) = true ↔ (nod p a).kind = 3 /\ (nod p b).kind = 3 := by
   simp [BQ,h5]
  rw [if_pos h5]
  simp only [List.getD_cons_zero,List.getD_cons_succ]
  by_cases hk : (nod p a).kind = 3 /\ (nod p b).kind = 3
  ·have n7 : ¬ n = 7 := by omega
   have n8 : ¬ n = 8 := by omega
   rw [if_pos hk,if_pos (hc.2 hk),if_neg n7,if_neg n8]
   have e : Ac p n [a,b] = Qn n (nod p a).n (nod p b).n := by
    unfold Ac
    simp only [List.getD_cons_zero,List.getD_cons_succ]
    rw [if_neg (by omega),if_neg (by omega),if_neg (by omega),if_neg (by omega),if_neg (by omega)]
   rw [e]
   rfl
  ·rw [if_neg hk,if_neg (fun h => hk (hc.1 h))]
 rw [if_neg h5]
 by_cases h6 : n = 6
 ·subst h6
  have hc : l.all (BQ p 6) = true := by simp [BQ]
  rw [hc]
  simp only [if_true,Ac]
  rfl
 rw [if_neg h6]
 by_cases h78 : n = 7 \/ n = 8
 ·obtain ⟨a,rfl⟩ := Dw hlen (by omega)
  have hc : [a].all (BQ p n) = true ↔ (nod p a).kind = 5 := by simp [BQ,h5,h78]
  rw [if_pos h78]
  simp only [List.getD_cons_zero]
  by_cases hk : (nod p a).kind = 5
  ·rw [if_pos hk,if_pos (hc.2 hk)]
   rcases h78 with rfl | rfl <;> rfl
  ·rw [if_neg hk,if_neg (fun h => hk (hc.1 h))]
 have hc : l.all (BQ p n) = true := by simp [BQ,h5,h78]
 rw [if_neg h78,if_pos hc,if_neg (fun h => h78 (.inl h)),if_neg (fun h => h78 (.inr h))]
 unfold Ac
 simp only
 rw [if_neg h6]
 by_cases h9 : n = 9
 ·simp only [h9,if_true]; rw [if_pos (hBw _)]
 rw [if_neg h9,if_neg h9]
 by_cases h10 : n = 10
 ·simp only [h10,if_true]; rw [if_pos (hBw _)]
 rw [if_neg h10,if_neg h10]
 by_cases h11 : n = 11
 ·simp only [h11,if_true]; rw [if_pos (hBw _)]
 have hn12 : n = 12 := by omega
 rw [if_neg h11,if_neg h11,if_pos hn12,if_pos (hBw _)]
theorem MO {p : List Nd} (hp : xQ p) (hl : p.length < 4294967290) {n : Int} {l : List Int} (hv : ∀ v ∈ l,InP p v) (h12 : 1 <= n /\ n <= 12) (hlen : (l.length : Int) = xX n) (h11 : n = 11 -> xJ p = true) :
  V 92 [rP p,iN n,.rs (1,0) (l.map eI)] = SE p (Jr p n l) := by
 have hll : l.length <= 2 := by
  by_cases h : n <= 6 \/ n = 11
  ·obtain ⟨a,b,rfl⟩ := Iy hlen (by omega); simp
  ·obtain ⟨a,rfl⟩ := Dw hlen (by omega); simp
 have h := Ky (n := n) (l := l) (by omega) hv l.length 0 (Nat.zero_add _)
 rw [Int.natCast_zero,List.drop_zero] at h
 rw [Ib,lnM,h,D0 h12 hlen]
 by_cases hc : l.all (BQ p n) = true
 ·rw [if_pos hc,if_pos hc,Al,vJ (xk (Nat.le_refl _))]
  by_cases h7 : n = 7
  ·obtain ⟨a,rfl⟩ := Dw hlen (by omega)
   rw [wz (xx h7),if_pos h7,zk,RB (hv a (by simp))]
   rfl
  rw [vJ (xw h7),if_neg h7]
  by_cases h8 : n = 8
  ·obtain ⟨a,rfl⟩ := Dw hlen (by omega)
   rw [wz (xx h8),if_pos h8,zk,RC (hv a (by simp))]
   rfl
  rw [vJ (xw h8),if_neg h8]
  have hn := NJ hp hl hv h12 ⟨h7,h8⟩ hlen h11 (fun h5 v hv' => by
   have := List.all_eq_true.1 hc v hv'
   simpa [BQ,h5] using this)
  rw [JZ hn,xU (xW _ _ _)]
  cases hw : wi (Ac p n l).n (-1000000000) 1000000000 with
  | false => rw [if_neg (by simp)]; rfl
  | true =>
   rw [if_pos rfl,Bool.not_true,wy,xT (AJ (by omega) (Ac p n l))]
   rfl
 ·rw [if_neg hc,if_neg hc]; rfl
end
end Go.Eng
/-! a step of a machine keeps it right: plain -/
namespace Go.Eng

theorem yb {p : List Nd} (hp : xQ p) {x : Nd} (hx : okN x p.length = true) : xQ (p ++ [x]) := by
 intro j y hy
 rcases Nat.lt_or_ge j p.length with h | h
 ·rw [List.getElem?_append_left h] at hy; exact hp j y hy
 ·rw [List.getElem?_append_right h] at hy
  have : j = p.length := by have := aQ hy; simp at this; omega
  subst this
  simp at hy; subst hy; exact hx
theorem Ln (h : Int) : okN ndN h = true := by
 show (wi 0 0 0 && (nz ⟨#[]⟩ && _)) = true
 rw [CZ]; rfl
theorem Gi {a b : Int} {n : Nat} (ha : 0 <= a /\ a < (n : Int)) (hb : 0 <= b /\ b < (n : Int)) : okN (ndP a b) n = true := by
 show (wi 0 0 0 && (nz ⟨#[]⟩ && (wi a 0 _ && wi b 0 _))) = true
 rw [wi_iff.2 ⟨ha.1,by omega⟩,wi_iff.2 ⟨hb.1,by omega⟩,CZ]; rfl
theorem Lm {n h : Int} (hn : -1000000000 <= n /\ n <= 1000000000) : okN (ndI n) h = true := by
 show (wi n (-1000000000) 1000000000 && (nz ⟨#[]⟩ && _)) = true
 rw [wi_iff.2 hn,CZ]; rfl
theorem Ol {k a : Int} {n : Nat} (hk : 0 <= k /\ k <= 1000000000) (ha : 0 <= a /\ a < (n : Int)) : okN (ndF k a) n = true := by
 show (wi k 0 1000000000 && (nz ⟨#[]⟩ && (wi a 0 _ && _))) = true
 rw [wi_iff.2 hk,wi_iff.2 ⟨ha.1,by omega⟩,CZ]; rfl
theorem Oq {a : Int} {n : Nat} (ha : 0 <= a /\ a < (n : Int)) : okN (ndK a) n = true := by
 show (wi 0 0 0 && (nz ⟨#[]⟩ && (wi a 0 _ && _))) = true
 rw [wi_iff.2 ⟨ha.1,by omega⟩,CZ]; rfl
theorem Ra {k h : Int} (hk : 0 <= k /\ k <= 99) : okN (ndR k) h = true := by
 show (wi k 0 99 && (nz ⟨#[]⟩ && _)) = true
 rw [wi_iff.2 hk,CZ]; rfl
theorem yR (p : List Nd) (x : Nd) : InP (p ++ [x]) (p.length : Int) := ⟨by omega,by simp only [lnA,lnC,lnN]; omega⟩
theorem Gd : ∀ (r : List Int) (q : List Nd) (c : Nat),xQ q -> c < q.length -> (∀ v ∈ r,InP q v) -> xQ (zl r q c).1 /\ (∃ t,(zl r q c).1 = q ++ t /\ t.length = r.length) /\ (zl r q c).2 < (zl r q c).1.length
 | [],q,c,hq,hc,hr => ⟨hq,⟨[],by simp [zl],rfl⟩,hc⟩
 | x :: r,q,c,hq,hc,hr => by
  have hx := hr x (by simp)
  obtain ⟨h1,⟨t,h2,h3⟩,h4⟩ := Gd r (q ++ [ndP x c]) q.length (yb hq (Gi hx ⟨by omega,by omega⟩)) (by simp) (fun v hv => xO _ (hr v (by simp [hv])))
  exact ⟨h1,⟨ndP x c :: t,by rw [zl,h2]; simp,by simp [h3]⟩,h4⟩
theorem Au {q : List Nd} {row : List Int} (hq : xQ q) (hr : ∀ v ∈ row,InP q v) : xQ (xK q row).1 /\ (∃ t,(xK q row).1 = q ++ t /\ t.length = row.length + 1) /\ InP (xK q row).1 ((xK q row).2 : Int) := by
 obtain ⟨h1,⟨t,h2,h3⟩,h4⟩ := Gd row.reverse (q ++ [ndN]) q.length (yb hq (Ln _)) (by simp) (fun v hv => xO _ (hr v (by simpa using hv)))
 refine ⟨h1,⟨ndN :: t,by unfold xK; rw [h2]; simp,by simp [h3]⟩,⟨by omega,?_⟩⟩
 have : (xK q row).2 < (xK q row).1.length := h4
 omega
structure GM (m : Mc) : Prop where
 ok : xQ m.pool
 s : InP m.pool m.s
 e : InP m.pool m.e
 d : InP m.pool m.d
theorem C8 {m : Mc} (h : GM m) {v : Int} (hv : InP m.pool v) : GM (Js m v) :=
 ⟨yb h.ok (Gi hv h.s),yR _ _,xO _ h.e,xO _ h.d⟩
theorem CK {m m' : Mc} (h : GM m) {v : Int} (ht : CJ m = some (v,m')) : GM m' /\ InP m'.pool v /\ m'.pool = m.pool /\ m'.at' = m.at' /\ m'.state = m.state /\ m'.ask = m.ask /\ m'.arg = m.arg /\ m'.d = m.d := by
 obtain ⟨h1,h2,h3,h4,h5,h6,h7,h8,h9⟩ := ME h.ok h.s ht
 exact ⟨⟨by rw [h2]; exact h.ok,by rw [h2]; exact h3,by rw [h2,h4]; exact h.e,by rw [h2,h5]; exact h.d⟩,by rw [h2]; exact h1,h2,h6,h7,h8,h9,h5⟩
theorem GG : ∀ {k : Nat} {m m' : Mc} {l : List Int},GM m -> Da k m = some (l,m') -> GM m' /\ (∀ v ∈ l,InP m'.pool v) /\ l.length = k /\ m'.pool = m.pool /\ m'.at' = m.at' /\ m'.state = m.state /\ m'.ask = m.ask /\ m'.arg = m.arg /\ m'.d = m.d
 | 0,m,m',l,h,ht => by
  simp only [Da,Option.some.injEq,Prod.mk.injEq] at ht
  obtain ⟨rfl,rfl⟩ := ht
  exact ⟨h,by simp,rfl,rfl,rfl,rfl,rfl,rfl,rfl⟩
 | k + 1,m,m',l,h,ht => by
  simp only [Da] at ht
  split at ht
  ·cases ht
  ·rename_i v m1 h1
   split at ht
   ·cases ht
   ·rename_i l2 m2 h2
    cases ht
    obtain ⟨g1,g2,g3,g4,g5,g6,g7,g8⟩ := CK h h1
    obtain ⟨f1,f2,f3,f4,f5,f6,f7,f8,f9⟩ := GG g1 h2
    refine ⟨f1,fun u hu => ?_,by simp [f3],f4.trans g3,f5.trans g4,f6.trans g5,f7.trans g6,f8.trans g7,f9.trans g8⟩
    rcases List.mem_cons.1 hu with rfl | hu
    ·rw [f4]; exact g2
    ·exact f2 u hu
theorem CY {p : List Nd} (hp : xQ p) {v : Int} (hv : InP p v) : ∀ x ∈ (BX p v).1,InP p x := Od hp _ v hv
theorem Kn {c : Cd} {p : List Nd} (hp : xQ p) {v : Int} (hv : InP p v) {many : Nat} {n : Int} {r : List Int} (h : DG c p v many = some (n,r)) : zy c n = true /\ (∀ x ∈ r,InP p x) /\ r.length + 1 = many := by
 unfold DG at h
 split at h
 ·rename_i a r' he
  split at h
  ·rename_i hc
   cases h
   have := CY hp hv
   rw [he] at this
   exact ⟨hc.2.2,fun x hx => this x (by simp [hx]),hc.1⟩
  ·cases h
 ·cases h
structure GoesM (c : Cd) (m m' : Mc) (k : Nat) : Prop where
 gm : GM m'
 ext : ∃ t,m'.pool = m.pool ++ t /\ t.length <= k
 st : Gj c m' = true
theorem DW {c : Cd} {m : Mc} (h0 : m.state = 0) (h1 : m.ask = 0) (h2 : m.arg = 0) (h3 : zy c m.at' = true) : Gj c m = true := by
 unfold Gj
 rw [if_pos h0,h1,h2]
 unfold zy at h3
 rw [h3]; rfl
structure RunM (c : Cd) (m : Mc) : Prop where
 gm : GM m
 st : m.state = 0
 ask : m.ask = 0
 arg : m.arg = 0
 pl : zy c m.at' = true
theorem isPl_iff {c : Cd} {n : Int} : zy c n = true ↔ 0 <= n /\ n <= (c.list.length : Int) - 1 := wi_iff
theorem LI {c : Cd} (hc : c.list.length <= 400) {m m' : Mc} (h : RunM c m) {f : Nd} (hf : InP m.pool f.a) {l : List Int} (hl : ∀ v ∈ l,InP m.pool v) (he : DF c m f l = .ok m') : GoesM c m m' (l.length + 9) := by
 unfold DF at he
 split at he
 ·cases he
 split at he
 ·cases he
 rename_i h1 h2
 have hpl := isPl_iff.1 h.pl
 simp only [Except.ok.injEq] at he
 have o1 : xQ (m.pool ++ [ndI (m.at' + 1)]) := yb h.gm.ok (Lm (by omega))
 obtain ⟨b1,⟨t,b2,b3⟩,b4⟩ := Au (row := [(m.pool.length : Int),m.s,m.e]) o1 (fun v hv => by
  simp only [List.mem_cons,List.not_mem_nil,or_false] at hv
  rcases hv with rfl | rfl | rfl
  ·exact yR _ _
  ·exact xO _ h.gm.s
  ·exact xO _ h.gm.e)
 have e1 : (xK (m.pool ++ [ndI (m.at' + 1)]) [(m.pool.length : Int),m.s,m.e]).1 = m.pool ++ (ndI (m.at' + 1) :: t) := by rw [b2]; simp
 have up : ∀ {v : Int},InP m.pool v -> InP (xK (m.pool ++ [ndI (m.at' + 1)]) [(m.pool.length : Int),m.s,m.e]).1 v := fun hv => by rw [e1]; exact xO _ hv
 have o2 := yb b1 (Gi b4 (up h.gm.d))
 obtain ⟨v1,⟨t2,v2,v3⟩,v4⟩ := Au (row := l) o2 (fun v hv => xO _ (up (hl v hv)))
 have up2 : ∀ {v : Int},InP ((xK (m.pool ++ [ndI (m.at' + 1)]) [(m.pool.length : Int),m.s,m.e]).1 ++ [ndP ((xK (m.pool ++ [ndI (m.at' + 1)]) [(m.pool.length : Int),m.s,m.e]).2 : Int) m.d]) v -> InP (xK ((xK (m.pool ++ [ndI (m.at' + 1)]) [(m.pool.length : Int),m.s,m.e]).1 ++ [ndP ((xK (m.pool ++ [ndI (m.at' + 1)]) [(m.pool.length : Int),m.s,m.e]).2 : Int) m.d]) l).1 v := fun hv => by rw [v2]; exact xO _ hv
 have o3 := yb v1 (Gi v4 (up2 (xO _ (up hf))))
 have o4 := yb o3 (Ln _)
 subst he
 refine ⟨⟨o4,?_,?_,?_⟩,⟨ndI (m.at' + 1) :: t ++ [ndP ((xK (m.pool ++ [ndI (m.at' + 1)]) [(m.pool.length : Int),m.s,m.e]).2 : Int) m.d] ++ t2 ++ [ndP ((xK ((xK (m.pool ++ [ndI (m.at' + 1)]) [(m.pool.length : Int),m.s,m.e]).1 ++ [ndP ((xK (m.pool ++ [ndI (m.at' + 1)]) [(m.pool.length : Int),m.s,m.e]).2 : Int) m.d]) l).2 : Int) f.a] ++ [ndN],?_,?_⟩,?_⟩
 ·have := yR ((xK ((xK (m.pool ++ [ndI (m.at' + 1)]) [(m.pool.length : Int),m.s,m.e]).1 ++ [ndP ((xK (m.pool ++ [ndI (m.at' + 1)]) [(m.pool.length : Int),m.s,m.e]).2 : Int) m.d]) l).1 ++ [ndP ((xK ((xK (m.pool ++ [ndI (m.at' + 1)]) [(m.pool.length : Int),m.s,m.e]).1 ++ [ndP ((xK (m.pool ++ [ndI (m.at' + 1)]) [(m.pool.length : Int),m.s,m.e]).2 : Int) m.d]) l).2 : Int) f.a]) ndN
  simpa using this
 ·exact xO _ (yR _ _)
 ·exact xO _ (xO _ (up2 (yR _ _)))
 ·show _ ++ _ ++ _ = _
  rw [v2,b2]
  simp
 ·simp only [lnA,lnC,lnN,b3,v3]; omega
 ·exact DW h.st h.ask h.arg (by simpa using h2)
theorem Pt {c : Cd} {m m' : Mc} (h : RunM c m) {st : Int} (hs : InP m.pool st) {l : List Int} (hl : ∀ v ∈ l,InP m.pool v) (he : Mw c m st l = .ok m') : GoesM c m m' 1 := by
 unfold Mw at he
 split at he
 ·cases he
 rename_i h1
 split at he
 ·rename_i n s e d hf
  obtain ⟨f1,f2,f3⟩ := Kn h.gm.ok hs hf
  cases he
  have hv : InP m.pool (l.getD 0 0) := by
   match l,h1 with
   | [v],_ => exact hl v (by simp)
   | [],h => simp at h
   | _ :: _ :: _,h => simp at h
  have g : GM ⟨m.pool,n,s,e,d,m.state,m.ask,m.arg⟩ := ⟨h.gm.ok,f2 s (by simp),f2 e (by simp),f2 d (by simp)⟩
  exact ⟨C8 g hv,⟨[_],rfl,Nat.le_refl _⟩,DW h.st h.ask h.arg f1⟩
 ·cases he
theorem Mr {p q : List Nd} (hp : xQ p) {n v : Int} {l : List Int} (hv : ∀ v ∈ l,InP p v) (h12 : 1 <= n /\ n <= 12) (hlen : (l.length : Int) = xX n) (h : Jr p n l = .ok (q,v)) : xQ q /\ InP q v /\ ∃ t,q = p ++ t /\ t.length <= 1 := by
 rw [D0 h12 hlen] at h
 split at h
 ·rename_i hc
  have one : n = 7 \/ n = 8 -> ∃ a,l = [a] /\ (nod p a).kind = 5 := by
   intro h78
   obtain ⟨a,rfl⟩ := Dw hlen (by omega)
   have := List.all_eq_true.1 hc a (by simp)
   refine ⟨a,rfl,?_⟩
   have h5 : ¬ n <= 5 := by omega
   simpa [BQ,h5,h78] using this
  split at h
  ·rename_i h7
   cases h
   obtain ⟨a,rfl,hk⟩ := one (.inl h7)
   exact ⟨hp,Gf hp (hv a (by simp)) (.inl hk),[],by simp,by simp⟩
  ·split at h
   ·rename_i h7 h8
    cases h
    obtain ⟨a,rfl,hk⟩ := one (.inr h8)
    exact ⟨hp,GU hp (hv a (by simp)) hk,[],by simp,by simp⟩
   ·rename_i h7 h8
    split at h
    ·rename_i hw
     cases h
     exact ⟨yb hp (Ny hp hv hlen h12 ⟨h7,h8⟩ hw),yR _ _,_,rfl,Nat.le_refl _⟩
    ·cases h
 ·cases h
theorem z5 {n : Int} {k : Nat} (h : xX n = (k : Int)) : 1 <= n /\ n <= 19 /\ k <= 2 := by
 unfold xX at h
 split at h
 ·rename_i hw
  have := wi_iff.1 hw
  refine ⟨this.1,this.2,?_⟩
  have hm : prArgs.getD (n - 1).toNat 0 <= 2 := by
   rcases Nat.lt_or_ge (n - 1).toNat prArgs.length with h | h
   ·have := List.getElem_mem (l := prArgs) h
    rw [List.getD_eq_getElem?_getD,List.getElem?_eq_getElem h,Option.getD_some]
    have all : ∀ x ∈ prArgs,x <= 2 := by decide
    exact all _ this
   ·rw [List.getD_eq_getElem?_getD,List.getElem?_eq_none h]; decide
  omega
 ·omega
theorem IA {c : Cd} (hc : c.list.length <= 400) : ∀ (k : Nat) {m m' : Mc} {f : Int} {l : List Int},RunM c m -> zy c (m.at' + 1) = true -> InP m.pool f -> (∀ v ∈ l,InP m.pool v) -> l.length <= 4 -> A8 c k m f l = .ok m' -> ∃ t,GoesM c m m' t /\ t <= 13 + 7 * k
 | 0,m,m',f,l,h,hnx,hf,hl,h4,he => by cases he
 | k + 1,m,m',f,l,h,hnx,hf,hl,h4,he => by
  unfold A8 at he
  simp only at he
  split at he
  ·rename_i h6
   exact ⟨_,LI hc h (Gf h.gm.ok hf (.inr (.inl h6))) hl he,by omega⟩
  split at he
  ·rename_i h6 h8
   split at he
   ·cases he
   rename_i hargs
   have hargs : xX (nod m.pool f).n = (l.length : Int) := by omega
   obtain ⟨n1,n19,l2⟩ := z5 hargs
   split at he
   ·rename_i h18
    have hpl := isPl_iff.1 h.pl
    have o1 : xQ (m.pool ++ [ndI (m.at' + 1)]) := yb h.gm.ok (Lm (by omega))
    obtain ⟨b1,⟨t,b2,b3⟩,b4⟩ := Au (row := [(m.pool.length : Int),m.s,m.e,m.d]) o1 (fun v hv => by
     simp only [List.mem_cons,List.not_mem_nil,or_false] at hv
     rcases hv with rfl | rfl | rfl | rfl
     ·exact yR _ _
     ·exact xO _ h.gm.s
     ·exact xO _ h.gm.e
     ·exact xO _ h.gm.d)
    have e1 : (xK (m.pool ++ [ndI (m.at' + 1)]) [(m.pool.length : Int),m.s,m.e,m.d]).1 = m.pool ++ (ndI (m.at' + 1) :: t) := by rw [b2]; simp
    have up : ∀ {v : Int},InP m.pool v -> InP ((xK (m.pool ++ [ndI (m.at' + 1)]) [(m.pool.length : Int),m.s,m.e,m.d]).1 ++ [ndK ((xK (m.pool ++ [ndI (m.at' + 1)]) [(m.pool.length : Int),m.s,m.e,m.d]).2 : Int)]) v := fun hv => xO _ (by rw [e1]; exact xO _ hv)
    have hl0 : InP m.pool (l.getD 0 0) := by
     match l,hargs with
     | v :: _,_ => exact hl v (by simp)
     | [],h => rw [h18] at h; cases h
    have g2 : RunM c ⟨(xK (m.pool ++ [ndI (m.at' + 1)]) [(m.pool.length : Int),m.s,m.e,m.d]).1 ++ [ndK ((xK (m.pool ++ [ndI (m.at' + 1)]) [(m.pool.length : Int),m.s,m.e,m.d]).2 : Int)],m.at',m.s,m.e,m.d,m.state,m.ask,m.arg⟩ :=
     ⟨⟨yb b1 (Oq b4),up h.gm.s,up h.gm.e,up h.gm.d⟩,h.st,h.ask,h.arg,h.pl⟩
    obtain ⟨q,⟨g3,⟨t3,g4,g5⟩,g6⟩,g7⟩ := IA hc k g2 hnx (up hl0) (fun v hv => by
     simp only [List.mem_singleton] at hv; subst hv; exact yR _ _) (by simp) he
    refine ⟨q + 7,⟨g3,⟨ndI (m.at' + 1) :: t ++ [ndK ((xK (m.pool ++ [ndI (m.at' + 1)]) [(m.pool.length : Int),m.s,m.e,m.d]).2 : Int)] ++ t3,?_,?_⟩,g6⟩,by omega⟩
    ·rw [g4]
     show _ ++ _ ++ _ = _
     rw [b2]
     simp
    ·simp only [lnA,lnC,lnN,b3]; omega
   split at he
   ·rename_i h18 h12
    simp only [Except.ok.injEq] at he
    obtain ⟨b1,⟨t,b2,b3⟩,b4⟩ := Au (row := l) h.gm.ok hl
    subst he
    have up : ∀ {v : Int},InP m.pool v -> InP (xK m.pool l).1 v := fun hv => by rw [b2]; exact xO _ hv
    refine ⟨l.length + 1,⟨⟨b1,up h.gm.s,up h.gm.e,up h.gm.d⟩,⟨t,b2,by omega⟩,?_⟩,by omega⟩
    unfold Gj
    have hpl : wi m.at' 0 ((c.list.length : Int) - 1) = true := h.pl
    have hn : wi (nod m.pool f).n 13 19 = true := wi_iff.2 ⟨by omega,n19⟩
    have hr : BU (xK m.pool l).1 ((xK m.pool l).2 : Int) = true := wi_iff.2 ⟨b4.1,by have := b4.2; omega⟩
    simp only
    rw [if_neg (by omega),if_pos trivial,hpl,hn,hr,xA h18]
    rfl
   split at he
   ·cases he
   ·rename_i h18 h12 p v hp
    cases he
    obtain ⟨q1,q2,t,q3,q4⟩ := Mr h.gm.ok hl (by omega) hargs.symm hp
    have up : ∀ {v : Int},InP m.pool v -> InP p v := fun hv => by rw [q3]; exact xO _ hv
    refine ⟨2,⟨⟨yb q1 (Gi q2 (up h.gm.s)),yR _ _,xO _ (up h.gm.e),xO _ (up h.gm.d)⟩,⟨t ++ [ndP v m.s],by show p ++ _ = _; rw [q3]; simp,by simp; omega⟩,?_⟩,by omega⟩
    exact DW h.st h.ask h.arg hnx
  split at he
  ·rename_i h6 h8 h7
   exact ⟨1,Pt h (Gf h.gm.ok hf (.inr (.inr h7))) hl he,by omega⟩
  ·cases he
theorem JO {c : Cd} (hc : c.list.length <= 400) {m m' : Mc} (h : RunM c m) {k : Nat} (hk : k <= 4) (he : Am c m k = .ok m') : ∃ t,GoesM c m m' t /\ t <= 34 := by
 unfold Am at he
 split at he
 ·cases he
 rename_i hnx
 split at he
 ·cases he
 ·rename_i l m1 ht
  obtain ⟨f1,f2,f3,f4,f5,f6,f7,f8,f9⟩ := GG h.gm ht
  have g : RunM c m1 := ⟨f1,f6.trans h.st,f7.trans h.ask,f8.trans h.arg,by rw [f5]; exact h.pl⟩
  have hrev : ∀ v ∈ l.reverse,InP m1.pool v := fun v hv => f2 v (by simpa using hv)
  obtain ⟨a,r,hr⟩ : ∃ a r,l.reverse = a :: r := by
   cases hq : l.reverse with
   | nil => rw [<- List.length_reverse,hq] at f3; simp at f3
   | cons a r => exact ⟨a,r,rfl⟩
  rw [hr] at he hrev
  have hlen : r.length = k := by rw [<- List.length_reverse,hr] at f3; simpa using f3
  obtain ⟨t,⟨g1,⟨q,g2,g3⟩,g4⟩,g5⟩ := IA hc 3 g (by rw [f5]; simpa using hnx) (hrev a (by simp)) (fun v hv => hrev v (by simpa using .inr hv)) (by simpa using (by omega : r.length <= 4)) he
  exact ⟨t,⟨g1,⟨q,by rw [g2,f4],g3⟩,g4⟩,by omega⟩
theorem MU {c : Cd} {m m' : Mc} (h : RunM c m) (he : GL c m = .ok m') : GoesM c m m' 1 := by
 unfold GL at he
 split at he
 ·cases he
 ·rename_i v m1 ht
  obtain ⟨f1,f2,f4,f5,f6,f7,f8,f9⟩ := CK h.gm ht
  simp only at he
  split at he
  ·cases he
   refine ⟨⟨f1.ok,f1.s,f1.e,f1.d⟩,⟨[],by rw [List.append_nil]; exact f4,by simp⟩,?_⟩
   unfold Gj
   have hv : BU m1.pool v = true := wi_iff.2 ⟨f2.1,by have := f2.2; omega⟩
   show (if (2 : Int) = 0 then _ else if (2 : Int) = 1 then _ else if (2 : Int) = 2 then _ else _) = true
   rw [if_neg (by omega),if_neg (by omega),if_pos rfl,hv,f7,h.ask]
   rfl
  ·split at he
   ·cases he
   ·rename_i h1 h5
    have h5 : (nod m1.pool m1.d).kind = 5 := by simpa using h5
    split at he
    ·rename_i n s e hf
     obtain ⟨q1,q2,q3⟩ := Kn f1.ok (Gf f1.ok f1.d (.inl h5)) hf
     cases he
     have g : GM ⟨m1.pool,n,s,e,(nod m1.pool m1.d).b,m1.state,m1.ask,m1.arg⟩ := ⟨f1.ok,q2 s (by simp),q2 e (by simp),GU f1.ok f1.d h5⟩
     exact ⟨C8 g f2,⟨[_],by rw [<- f4]; rfl,Nat.le_refl _⟩,DW (f6.trans h.st) (f7.trans h.ask) (f8.trans h.arg) q1⟩
    ·cases he
theorem GP {q p : List Nd} (hq : xJ q = true) (hp : xQ p) {v : Int} (hv : InP q v) (d : Int) : xQ (Ba d q v p).1 /\ InP (Ba d q v p).1 (Ba d q v p).2 /\ ∃ t,(Ba d q v p).1 = p ++ t /\ t.length <= q.length := by
 obtain ⟨h1,h2⟩ := I6 hq hp [v] d
 have hr : xZ q [v] = true := by
  simp only [xZ,List.all_cons,List.all_nil,Bool.and_true]
  exact wi_iff.2 ⟨hv.1,by omega⟩
 have hon := D5 hr v (by simp)
 obtain ⟨x,hx⟩ := wj (l := q) (i := v.toNat) (by omega)
 obtain ⟨j,hj,hj2⟩ := h2 v.toNat x hx hon
 refine ⟨h1,?_,?_⟩
 ·unfold Ba
  simp only
  rw [List.getD_eq_getElem?_getD,hj,Option.getD_some]
  have := aQ hj2
  exact ⟨by omega,by omega⟩
 ·obtain ⟨r,hr⟩ := I9 d q (zM q [v]) q.length [] p
  have hl := Ge d q (zM q [v]) q.length [] p
  refine ⟨r,hr,?_⟩
  rw [hr] at hl
  simp only [lnA] at hl
  omega
theorem Ed {c : Cd} (hc : yG c = true) {k : Nat} {x : In} (hx : c.list[k]? = some x) : Gh c x k = true := by
 unfold yG at hc
 simp only [Bool.and_eq_true] at hc
 have key : ∀ (n i : Nat),CH c i n = true -> ∀ j,i <= j -> j < i + n -> ∀ x,c.list[j]? = some x -> Gh c x j = true := by
  intro n
  induction n with
  | zero => intro i _ j h1 h2; omega
  | succ n ih =>
   intro i h j h1 h2 x hx
   simp only [CH,Bool.and_eq_true] at h
   rcases Nat.lt_or_ge i j with hij | hij
   ·exact ih (i + 1) h.2 j hij (by omega) x hx
   ·have : j = i := by omega
    subst this
    have h3 := h.1
    rw [hx] at h3
    exact h3
 exact key c.list.length 0 hc.2.2.2.1 k (Nat.zero_le _) (by have := aQ hx; omega) x hx
theorem Kv {c : Cd} (hc : yG c = true) {k : Nat} {x : Df} (hx : c.defs[k]? = some x) : Pm c x k = true := by
 unfold yG at hc
 simp only [Bool.and_eq_true] at hc
 have key : ∀ (n i : Nat),Bj c i n = true -> ∀ j,i <= j -> j < i + n -> ∀ x,c.defs[j]? = some x -> Pm c x j = true := by
  intro n
  induction n with
  | zero => intro i _ j h1 h2; omega
  | succ n ih =>
   intro i h j h1 h2 x hx
   simp only [Bj,Bool.and_eq_true] at h
   rcases Nat.lt_or_ge i j with hij | hij
   ·exact ih (i + 1) h.2 j hij (by omega) x hx
   ·have : j = i := by omega
    subst this
    have h3 := h.1
    rw [hx] at h3
    exact h3
 exact key c.defs.length 0 hc.2.2.2.2 k (Nat.zero_le _) (by have := aQ hx; omega) x hx
theorem yV {c : Cd} (hc : yG c = true) : xJ c.pool = true /\ c.list.length <= 400 /\ c.defs.length <= 20 := by
 unfold yG at hc
 simp only [Bool.and_eq_true,decide_eq_true_eq] at hc
 exact ⟨hc.1,hc.2.1,hc.2.2.1⟩
theorem Cu {c : Cd} {m : Mc} {r : Except Int Mc} {next : Int} {m' : Mc} {k : Nat} (hr : ∀ m1,r = .ok m1 -> GM m1 /\ (∃ t,m1.pool = m.pool ++ t /\ t.length <= k) /\ m1.state = 0 /\ m1.ask = 0 /\ m1.arg = 0) (he : goM c r next = .ok m') : GoesM c m m' k := by
 unfold goM at he
 split at he
 ·cases he
 ·rename_i m1
  obtain ⟨h1,h2,h3,h4,h5⟩ := hr m1 rfl
  split at he
  ·rename_i hp
   cases he
   exact ⟨⟨h1.ok,h1.s,h1.e,h1.d⟩,h2,DW h3 h4 h5 hp⟩
  ·cases he
theorem Rl {m m1 : Mc} (h : GM m) {o i : Int} (he : NT m o i = .ok m1) : GM m1 /\ (∃ t,m1.pool = m.pool ++ t /\ t.length <= 1) /\ m1.state = m.state /\ m1.ask = m.ask /\ m1.arg = m.arg := by
 unfold NT at he
 split at he
 ·cases he
 ·rename_i fr hfr
  split at he
  ·cases he
  ·rename_i v hv
   cases he
   exact ⟨C8 h (Ir h.ok _ _ _ (Ir h.ok _ _ _ h.e hfr) hv),⟨[_],rfl,Nat.le_refl _⟩,rfl,rfl,rfl⟩
theorem Kf {c : Cd} {s : ByteArray} (h : 0 <= Bc c s) : ∃ d,c.defs[(Bc c s).toNat]? = some d := by
 have hb : Bc c s < (c.defs.length : Int) := by
  unfold Bc wW at h ⊢
  cases hq : c.defs.findIdx? (fun d : Df => jH d.name s) with
  | none => rw [hq] at h; simp at h
  | some k =>
   rw [List.findIdx?_eq_some_iff_getElem] at hq
   obtain ⟨hk,_⟩ := hq
   simp only; omega
 exact wj (by omega)
theorem PX {c : Cd} (hc : yG c = true) {m m1 : Mc} (h : GM m) {s : ByteArray} (he : IV c m s = .ok m1) : GM m1 /\ (∃ t,m1.pool = m.pool ++ t /\ t.length <= 3) /\ m1.state = m.state /\ m1.ask = m.ask /\ m1.arg = m.arg := by
 obtain ⟨_,c2,_⟩ := yV hc
 unfold IV at he
 split at he
 ·rename_i hd
  obtain ⟨d,hdg⟩ := Kf hd
  have hok := Kv hc hdg
  unfold Pm at hok
  simp only [Bool.and_eq_true] at hok
  have a1 := wi_iff.1 hok.2.2.1
  have a2 := wi_iff.1 hok.2.2.2
  simp only [List.getD_eq_getElem?_getD,hdg,Option.getD_some,Except.ok.injEq] at he
  subst he
  have o1 := yb h.ok (Ln (m.pool.length : Int))
  have o2 := yb o1 (Ol (k := 8 * d.at' + d.args) (a := (m.pool.length : Int)) (n := (m.pool ++ [ndN]).length) (by omega) ⟨by omega,by simp only [lnA,lnC,lnN]; omega⟩)
  have g : GM ⟨m.pool ++ [ndN] ++ [ndF (8 * d.at' + d.args) m.pool.length],m.at',m.s,m.e,m.d,m.state,m.ask,m.arg⟩ := ⟨o2,xO _ (xO _ h.s),xO _ (xO _ h.e),xO _ (xO _ h.d)⟩
  refine ⟨C8 g ⟨by omega,by simp only [lnA,lnC,lnN]; omega⟩,⟨_,by show _ ++ _ ++ _ ++ _ = _; rw [List.append_assoc,List.append_assoc],by simp⟩,rfl,rfl,rfl⟩
 ·split at he
  ·cases he
  ·simp only [Except.ok.injEq] at he
   subst he
   have hb := FE s
   have o1 := yb h.ok (Ra (k := AF s) (h := (m.pool.length : Int)) (by omega))
   have g : GM ⟨m.pool ++ [ndR (AF s)],m.at',m.s,m.e,m.d,m.state,m.ask,m.arg⟩ := ⟨o1,xO _ h.s,xO _ h.e,xO _ h.d⟩
   exact ⟨C8 g (yR _ _),⟨_,by show _ ++ _ ++ _ = _; rw [List.append_assoc],by simp⟩,rfl,rfl,rfl⟩
theorem Ml {c : Cd} {x : In} {k : Int} (h : Gh c x k = true) (h1 : x.op = 1) : InP c.pool x.n := by
 unfold Gh at h
 rw [if_pos h1] at h
 simp only [Bool.and_eq_true] at h
 have := wi_iff.1 h.1
 exact ⟨this.1,by omega⟩
theorem Qp {c : Cd} {x : In} {k : Int} (h : Gh c x k = true) (h1 : x.op = 2) : (0 <= x.n /\ x.n <= 20) /\ 0 <= x.i /\ x.i <= 3 := by
 unfold Gh at h
 rw [if_neg (by omega),if_pos h1] at h
 simp only [Bool.and_eq_true] at h
 exact ⟨wi_iff.1 h.1,wi_iff.1 h.2.1⟩
theorem Mj {c : Cd} {x : In} {k : Int} (h : Gh c x k = true) (h1 : x.op = 6) : (k + 1 <= x.n /\ x.n <= (c.list.length : Int) - 1) /\ 0 <= x.i /\ x.i <= 4 := by
 unfold Gh at h
 rw [if_neg (by omega),if_neg (by omega),if_neg (by omega),if_neg (by omega),if_pos h1] at h
 simp only [Bool.and_eq_true] at h
 exact ⟨wi_iff.1 h.1,wi_iff.1 h.2.1⟩
theorem Kx {c : Cd} {x : In} {k : Int} (h : Gh c x k = true) (h1 : x.op = 7) : 0 <= x.i /\ x.i <= 4 := by
 unfold Gh at h
 rw [if_neg (by omega),if_neg (by omega),if_neg (by omega),if_neg (by omega),if_neg (by omega),if_pos h1] at h
 simp only [Bool.and_eq_true] at h
 exact wi_iff.1 h.2.1
theorem Mo {c : Cd} (hc : yG c = true) {m m' : Mc} (h : RunM c m) {x : In} {k : Nat} (hx : c.list[k]? = some x) (he : DZ c m x = .ok m') : GoesM c m m' (c.pool.length + 3) := by
 have hok := Ed hc hx
 have hk := aQ hx
 obtain ⟨c1,c2,_⟩ := yV hc
 unfold DZ at he
 split at he
 ·rename_i h1
  have hlit := Ml hok h1
  obtain ⟨f1,f2,t,f3,f4⟩ := GP c1 h.gm.ok hlit (-1)
  refine Cu (fun m1 e => ?_) he
  cases e
  have up : ∀ {v : Int},InP m.pool v -> InP (Ba (-1) c.pool x.n m.pool).1 v := fun hv => by rw [f3]; exact xO _ hv
  have g : GM ⟨(Ba (-1) c.pool x.n m.pool).1,m.at',m.s,m.e,m.d,m.state,m.ask,m.arg⟩ := ⟨f1,up h.gm.s,up h.gm.e,up h.gm.d⟩
  refine ⟨C8 g f2,⟨t ++ [_],by show (Ba (-1) c.pool x.n m.pool).1 ++ _ = _; rw [f3,List.append_assoc],by simp; omega⟩,h.st,h.ask,h.arg⟩
 split at he
 ·refine Cu (fun m1 e => ?_) he
  obtain ⟨g1,⟨t,g2,g3⟩,g4,g5,g6⟩ := Rl h.gm e
  exact ⟨g1,⟨t,g2,by omega⟩,g4.trans h.st,g5.trans h.ask,g6.trans h.arg⟩
 split at he
 ·refine Cu (fun m1 e => ?_) he
  obtain ⟨g1,⟨t,g2,g3⟩,g4,g5,g6⟩ := PX hc h.gm e
  exact ⟨g1,⟨t,g2,by omega⟩,g4.trans h.st,g5.trans h.ask,g6.trans h.arg⟩
 split at he
 ·refine Cu (fun m1 e => ?_) he
  cases e
  exact ⟨h.gm,⟨[],by simp,by simp⟩,h.st,h.ask,h.arg⟩
 split at he
 ·rename_i h6
  have hf := Mj hok h6
  refine Cu (fun m1 e => ?_) he
  cases e
  have o1 := yb h.gm.ok (Ol (k := 8 * x.n + x.i) (n := m.pool.length) (by omega) h.gm.e)
  have g : GM ⟨m.pool ++ [ndF (8 * x.n + x.i) m.e],m.at',m.s,m.e,m.d,m.state,m.ask,m.arg⟩ := ⟨o1,xO _ h.gm.s,xO _ h.gm.e,xO _ h.gm.d⟩
  exact ⟨C8 g (yR _ _),⟨_,by show _ ++ _ ++ _ = _; rw [List.append_assoc],by simp⟩,h.st,h.ask,h.arg⟩
 ·split at he
  ·cases he
  ·rename_i v m1 ht
   obtain ⟨f1,f2,f4,f5,f6,f7,f8,f9⟩ := CK h.gm ht
   refine Cu (fun m2 e => ?_) he
   cases e
   exact ⟨f1,⟨[],by simp [f4],by simp⟩,f6.trans h.st,f7.trans h.ask,f8.trans h.arg⟩
theorem Jo {c : Cd} {m : Mc} (h : z4 c m = true) (h0 : m.state = 0) : RunM c m /\ yG c = true /\ m.pool.length <= 3000 := by
 unfold z4 at h
 simp only [Bool.and_eq_true] at h
 obtain ⟨h1,h2,h3,h4,h5,h6⟩ := h
 obtain ⟨p1,p2⟩ := okPool_iff.1 h2
 have a3 := wi_iff.1 h3
 have a4 := wi_iff.1 h4
 have a5 := wi_iff.1 h5
 unfold Gj at h6
 rw [if_pos h0] at h6
 simp only [Bool.and_eq_true,beq_iff_eq] at h6
 exact ⟨⟨⟨p1,⟨a3.1,by omega⟩,⟨a4.1,by omega⟩,⟨a5.1,by omega⟩⟩,h0,h6.2.1,h6.2.2,h6.1⟩,h1,p2⟩
theorem Oz {c : Cd} {m : Mc} (h : RunM c m) : ∃ x,c.list[m.at'.toNat]? = some x := by
 have := isPl_iff.1 h.pl
 exact wj (by omega)
theorem LF {c : Cd} (hc : yG c = true) {m m' : Mc} (h : RunM c m) (he : doM c m = .ok m') : GoesM c m m' (c.pool.length + 34) := by
 obtain ⟨x,hx⟩ := Oz h
 have hok := Ed hc hx
 obtain ⟨c1,c2,_⟩ := yV hc
 unfold doM at he
 simp only [List.getD_eq_getElem?_getD,hx,Option.getD_some] at he
 split at he
 ·rename_i h7
  have := Kx hok h7
  obtain ⟨t,⟨g1,⟨q,g2,g3⟩,g4⟩,g5⟩ := JO c2 h (k := x.i.toNat) (by omega) he
  exact ⟨g1,⟨q,g2,by omega⟩,g4⟩
 split at he
 ·obtain ⟨g1,⟨q,g2,g3⟩,g4⟩ := MU h he
  exact ⟨g1,⟨q,g2,by omega⟩,g4⟩
 ·obtain ⟨g1,⟨q,g2,g3⟩,g4⟩ := Mo hc h hx he
  exact ⟨g1,⟨q,g2,by omega⟩,g4⟩
theorem Oi {c : Cd} {m : Mc} (hc : yG c = true) (hp : xQ m.pool) (hl : m.pool.length <= 3000) (hs : InP m.pool m.s) (he : InP m.pool m.e) (hd : InP m.pool m.d) (ht : Gj c m = true) : z4 c m = true := by
 unfold z4
 have h1 : xJ m.pool = true := okPool_iff.2 ⟨hp,hl⟩
 have h2 : BU m.pool m.s = true := wi_iff.2 ⟨hs.1,by omega⟩
 have h3 : BU m.pool m.e = true := wi_iff.2 ⟨he.1,by omega⟩
 have h4 : BU m.pool m.d = true := wi_iff.2 ⟨hd.1,by omega⟩
 rw [hc,h1,h2,h3,h4,ht]
 rfl
theorem C7 {c : Cd} {m : Mc} (h : z4 c m = true) : yG c = true /\ xQ m.pool /\ m.pool.length <= 3000 /\ InP m.pool m.s /\ InP m.pool m.e /\ InP m.pool m.d /\ Gj c m = true := by
 unfold z4 at h
 simp only [Bool.and_eq_true] at h
 obtain ⟨h1,h2,h3,h4,h5,h6⟩ := h
 obtain ⟨p1,p2⟩ := okPool_iff.1 h2
 have a3 := wi_iff.1 h3
 have a4 := wi_iff.1 h4
 have a5 := wi_iff.1 h5
 exact ⟨h1,p1,p2,⟨a3.1,by omega⟩,⟨a4.1,by omega⟩,⟨a5.1,by omega⟩,h6⟩
theorem LK {c : Cd} {m : Mc} (h : z4 c m = true) {k : Int} (hk : 1 <= k /\ k <= 7) : z4 c (LJ m k) = true := by
 obtain ⟨h1,h2,h3,h4,h5,h6,_⟩ := C7 h
 refine Oi h1 h2 h3 h4 h5 h6 ?_
 unfold Gj LJ
 simp only
 rw [if_neg (by omega),if_neg (by omega),if_neg (by omega),wi_iff.2 hk]
 rfl
end Go.Eng
