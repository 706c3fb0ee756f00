/- the program and the reference on plain data, part 1 -/
import Derived.Test.YtkndfhaehnfnmaaGreatEngC
import Derived.Test.YtkndfhaehnfnmaaGreatProg
/-! bytes,texts,digits: plain facts -/
namespace Go.Eng

noncomputable def mk (l : List UInt8) : ByteArray := ⟨l.toArray⟩
theorem ak (l : List UInt8) : (mk l).size = l.length := by simp [mk,ByteArray.size]
theorem Ql (s : ByteArray) : mk s.data.toList = s := by
  apply ByteArray.ext
  simp [mk]
theorem vc (s : ByteArray) : ∀ (k i : Nat) (acc : List UInt8),k = s.size - i → ByteArray.toList.loop s i acc = acc.reverse ++ s.data.toList.drop i
  | 0,i,acc,h => by
    unfold ByteArray.toList.loop
    have hs : s.data.toList.length = s.size := by rw [Array.length_toList]; rfl
    rw [if_neg (by omega),List.drop_of_length_le (by omega),List.append_nil]
  | k + 1,i,acc,h => by
    unfold ByteArray.toList.loop
    have hs : s.data.toList.length = s.size := by rw [Array.length_toList]; rfl
    rw [if_pos (by omega),vc s k (i + 1) _ (by omega)]
    have hi : i < s.data.toList.length := by omega
    rw [List.drop_eq_getElem_cons hi]
    have hi' : i < s.data.size := by simpa using hi
    have hg : s.get! i = s.data.toList[i] := by
      show s.data[i]! = _
      rw [getElem!_pos s.data i hi',Array.getElem_toList]
    rw [hg]
    simp
theorem u4 (s : ByteArray) : s.toList = s.data.toList := by
  have := vc s s.size 0 [] (by omega)
  rw [List.reverse_nil,List.nil_append,List.drop_zero] at this
  exact this
theorem ep (x y : ByteArray) : aQ x y = decide (x = y) := by
  unfold aQ
  rw [u4,u4]
  by_cases h : x = y
  · subst h; simp
  · have h2 : ¬ x.data.toList = y.data.toList := by
      intro e; apply h; rw [← Ql x,← Ql y,e]
    rw [decide_eq_false h]
    exact beq_eq_false_iff_ne.2 h2
theorem Jt {R : Type} (n : Int) (K : ByteArray → Option R) : k8 [.int .u8 n] K = K (mk [UInt8.ofNat n.toNat]) := rfl
noncomputable def Qy (n : Nat) : List UInt8 := if n < 10 then [UInt8.ofNat (48 + n)] else Qy (n / 10) ++ [UInt8.ofNat (48 + n % 10)]
termination_by n
noncomputable def LK (n : Int) : List UInt8 := if n < 0 then 45 :: Qy n.natAbs else Qy n.natAbs
end Go.Eng
/-! the functions as the interpreter has them: loop heads -/
namespace Go.Eng
open Go.Proofs Go.Proofs.Tryz
set_option maxRecDepth 100000
def cf0 : Cfg := { ext := fun _ => none,own := fun f => match f with | 13 => false | 23 => false | 27 => false | 30 => false | 43 => false | 44 => false | 51 => false | 52 => false | 112 => false | _ => true,mode := fun f i => match f,i with | 40,0 => .mut | 41,0 => .mut | 49,0 => .mut | 108,0 => .mut | 109,0 => .mut | 110,0 => .mut | 169,0 => .mut | 183,0 => .mut | 73,0 => .mv | 162,0 => .mv | 101,1 => .mv | 172,2 => .mv | _,_ => .ro }
noncomputable abbrev tk1 {R : Type} (x : D) (K : Int → Int → ByteArray → Int → Int → Option R) : Option R := asAgg x fun l => unc l fun x0 l0 => asI .i64 x0 fun v0 => unc l0 fun x1 l1 => asI .i64 x1 fun v1 => unc l1 fun x2 l2 => asS x2 fun v2 => unc l2 fun x3 l3 => asI .i64 x3 fun v3 => unc l3 fun x4 l4 => asI .i64 x4 fun v4 => unn l4 (K v0 v1 v2 v3 v4)
@[congr] theorem Rz {R : Type} {x y : D} (h : x = y) (K : Int → Int → ByteArray → Int → Int → Option R) : tk1 x K = tk1 y K := by rw [h]
noncomputable abbrev tk2 {R : Type} (x : D) (K : List D → Bool → Option R) : Option R := b6 x fun l => unc l fun x0 l0 => aM (1,0) x0 fun v0 => unc l0 fun x1 l1 => asB x1 fun v1 => unn l1 (K v0 v1)
@[congr] theorem RB {R : Type} {x y : D} (h : x = y) (K : List D → Bool → Option R) : tk2 x K = tk2 y K := by rw [h]
noncomputable abbrev tk3 {R : Type} (x : D) (K : List D → Int → Int → Int → Int → Int → Int → Int → Option R) : Option R := asAgg x fun l => unc l fun x0 l0 => aM (5,0) x0 fun v0 => unc l0 fun x1 l1 => asI .i64 x1 fun v1 => unc l1 fun x2 l2 => asI .i64 x2 fun v2 => unc l2 fun x3 l3 => asI .i64 x3 fun v3 => unc l3 fun x4 l4 => asI .i64 x4 fun v4 => unc l4 fun x5 l5 => asI .i64 x5 fun v5 => unc l5 fun x6 l6 => asI .i64 x6 fun v6 => unc l6 fun x7 l7 => asI .i64 x7 fun v7 => unn l7 (K v0 v1 v2 v3 v4 v5 v6 v7)
@[congr] theorem RF {R : Type} {x y : D} (h : x = y) (K : List D → Int → Int → Int → Int → Int → Int → Int → Option R) : tk3 x K = tk3 y K := by rw [h]
noncomputable abbrev tk4 {R : Type} (x : D) (K : Int → Bool → Option R) : Option R := b6 x fun l => unc l fun x0 l0 => asI .i64 x0 fun v0 => unc l0 fun x1 l1 => asB x1 fun v1 => unn l1 (K v0 v1)
@[congr] theorem Ry {R : Type} {x y : D} (h : x = y) (K : Int → Bool → Option R) : tk4 x K = tk4 y K := by rw [h]
noncomputable abbrev tk5 {R : Type} (x : D) (K : List D → Int → Int → Int → Int → Int → Int → Int → Option R) : Option R := bz x fun l => unc l fun x0 l0 => aM (5,0) x0 fun v0 => unc l0 fun x1 l1 => asI .i64 x1 fun v1 => unc l1 fun x2 l2 => asI .i64 x2 fun v2 => unc l2 fun x3 l3 => asI .i64 x3 fun v3 => unc l3 fun x4 l4 => asI .i64 x4 fun v4 => unc l4 fun x5 l5 => asI .i64 x5 fun v5 => unc l5 fun x6 l6 => asI .i64 x6 fun v6 => unc l6 fun x7 l7 => asI .i64 x7 fun v7 => unn l7 (K v0 v1 v2 v3 v4 v5 v6 v7)
@[congr] theorem RC {R : Type} {x y : D} (h : x = y) (K : List D → Int → Int → Int → Int → Int → Int → Int → Option R) : tk5 x K = tk5 y K := by rw [h]
noncomputable abbrev tk6 {R : Type} (x : D) (K : List D → Int → Int → Int → Int → Int → Int → Int → List D → List D → List D → Option R) : Option R := bz x fun l => unc l fun x0 l0 => aM (5,0) x0 fun v0 => unc l0 fun x1 l1 => asI .i64 x1 fun v1 => unc l1 fun x2 l2 => asI .i64 x2 fun v2 => unc l2 fun x3 l3 => asI .i64 x3 fun v3 => unc l3 fun x4 l4 => asI .i64 x4 fun v4 => unc l4 fun x5 l5 => asI .i64 x5 fun v5 => unc l5 fun x6 l6 => asI .i64 x6 fun v6 => unc l6 fun x7 l7 => asI .i64 x7 fun v7 => unc l7 fun x8 l8 => sK (5,0) x8 fun v8 => unc l8 fun x9 l9 => sK (4,0) x9 fun v9 => unc l9 fun x10 l10 => sK (3,0) x10 fun v10 => unn l10 (K v0 v1 v2 v3 v4 v5 v6 v7 v8 v9 v10)
@[congr] theorem Rx {R : Type} {x y : D} (h : x = y) (K : List D → Int → Int → Int → Int → Int → Int → Int → List D → List D → List D → Option R) : tk6 x K = tk6 y K := by rw [h]
noncomputable abbrev tk7 {R : Type} (x : D) (K : List D → List D → List D → Option R) : Option R := asAgg x fun l => unc l fun x0 l0 => aM (5,0) x0 fun v0 => unc l0 fun x1 l1 => aM (4,0) x1 fun v1 => unc l1 fun x2 l2 => aM (3,0) x2 fun v2 => unn l2 (K v0 v1 v2)
@[congr] theorem RE {R : Type} {x y : D} (h : x = y) (K : List D → List D → List D → Option R) : tk7 x K = tk7 y K := by rw [h]
noncomputable abbrev tk8 {R : Type} (x : D) (K : Int → List D → Bool → Option R) : Option R := b6 x fun l => unc l fun x0 l0 => asI .i64 x0 fun v0 => unc l0 fun x1 l1 => aM (1,0) x1 fun v1 => unc l1 fun x2 l2 => asB x2 fun v2 => unn l2 (K v0 v1 v2)
@[congr] theorem RH {R : Type} {x y : D} (h : x = y) (K : Int → List D → Bool → Option R) : tk8 x K = tk8 y K := by rw [h]
noncomputable abbrev tk9 {R : Type} (x : D) (K : Int → Int → Option R) : Option R := b6 x fun l => unc l fun x0 l0 => asI .i64 x0 fun v0 => unc l0 fun x1 l1 => asI .i64 x1 fun v1 => unn l1 (K v0 v1)
@[congr] theorem RA {R : Type} {x y : D} (h : x = y) (K : Int → Int → Option R) : tk9 x K = tk9 y K := by rw [h]
noncomputable abbrev wk {R : Type} (x : D) (K : ByteArray → Int → Int → Option R) : Option R := asAgg x fun l => unc l fun x0 l0 => asS x0 fun v0 => unc l0 fun x1 l1 => asI .i64 x1 fun v1 => unc l1 fun x2 l2 => asI .i64 x2 fun v2 => unn l2 (K v0 v1 v2)
@[congr] theorem Ri {R : Type} {x y : D} (h : x = y) (K : ByteArray → Int → Int → Option R) : wk x K = wk y K := by rw [h]
noncomputable abbrev wt {R : Type} (x : D) (K : Int → Int → Int → ByteArray → Option R) : Option R := asAgg x fun l => unc l fun x0 l0 => asI .i64 x0 fun v0 => unc l0 fun x1 l1 => asI .i64 x1 fun v1 => unc l1 fun x2 l2 => asI .i64 x2 fun v2 => unc l2 fun x3 l3 => asS x3 fun v3 => unn l3 (K v0 v1 v2 v3)
@[congr] theorem Re {R : Type} {x y : D} (h : x = y) (K : Int → Int → Int → ByteArray → Option R) : wt x K = wt y K := by rw [h]
abbrev uu : A := .undef
noncomputable abbrev V := Vn Tryz.prog cf0
noncomputable abbrev R := Rn Tryz.prog cf0
noncomputable def ip (p0 p1 : Int) (p2 p3 p4 : List D) (p5 p6 p7 p8 p9 p10 p11 p12 p13 p14 p15 p16 p17 p18 : Int) (p19 : List D) : Option Ret := R 22 Tryz.f22 [] (bi Tryz.f22 5) ⟨[uu,uu,.d (.int .i64 p0),.ref 0 0 0,.ref 1 0 0,uu,.ref 2 0 0,uu,.d (.int .i64 p1),uu,uu,uu,uu,uu,uu,uu,uu,uu,uu,uu,uu,uu,uu,uu,uu,uu,uu,uu,uu,uu,uu,uu,uu,uu,uu],[(0,some (.var [.d (.rs (5,0) p2),.d (.rs (4,0) p3),.d (.rs (3,0) p4)])),(1,some (.var [.asl 3 none,.d (.int .i64 p5),.d (.int .i64 p6),.d (.int .i64 p7),.d (.int .i64 p8),.d (.int .i64 p9),.d (.int .i64 p10),.d (.int .i64 p11)])),(2,some (.var [.d .nl,.d (.int .i64 p12),.d (.int .i64 p13),.d (.int .i64 p14),.d (.int .i64 p15),.d (.int .i64 p16),.d (.int .i64 p17),.d (.int .i64 p18)])),(3,some (.arr (5,0) p19))],4,[]⟩
noncomputable def iC (p0 p1 : Int) (p2 p3 p4 : List D) : Option Ret := R 54 Tryz.f54 [] (bi Tryz.f54 4) ⟨[uu,.ref 0 0 0,uu,uu,uu,uu,uu,uu,uu,uu,uu,uu,uu,uu,uu,uu,uu,uu,uu,uu,uu,uu,uu,uu,.d (.int .i64 p0),.d (.int .i64 p1),uu,uu,uu,uu,uu,uu,uu,uu,uu,uu,uu,uu,uu,uu,uu,uu,uu,uu,uu,uu,uu,uu,uu,uu,uu,uu,uu,uu,uu,uu,uu,uu,uu,uu,uu,uu,uu,uu,uu,uu,uu,uu,uu,uu],[(0,some (.var [.d (.rs (5,0) p2),.d (.rs (4,0) p3),.d (.rs (3,0) p4)]))],1,[]⟩
noncomputable def gF (p0 : List D) (p1 p2 : Int) (p3 p4 p5 : List D) : Option Ret := R 54 Tryz.f54 [] (bi Tryz.f54 10) ⟨[uu,.ref 0 0 0,uu,uu,uu,uu,uu,uu,uu,uu,uu,uu,uu,uu,uu,uu,uu,uu,uu,uu,uu,uu,uu,uu,uu,uu,uu,uu,uu,uu,uu,uu,uu,uu,.d (.rs (3,0) p0),.d (.int .i64 p1),.d (.int .i64 p2),uu,uu,uu,uu,uu,uu,uu,uu,uu,uu,uu,uu,uu,uu,uu,uu,uu,uu,uu,uu,uu,uu,uu,uu,uu,uu,uu,uu,uu,uu,uu,uu,uu],[(0,some (.var [.d (.rs (5,0) p3),.d (.rs (4,0) p4),.d (.rs (3,0) p5)]))],1,[]⟩
noncomputable def iw (p0 : List D) (p1 p2 : Int) (p3 : List D) : Option Ret := R 55 Tryz.f55 [] (bi Tryz.f55 2) ⟨[uu,.ref 0 0 0,uu,uu,uu,uu,.d (.rs (5,0) p0),.d (.int .i64 p1),.d (.int .i64 p2),uu,uu,uu,uu,uu,uu,uu,uu,uu,uu,uu,uu,uu],[(0,some (.var [.d (.rs (5,0) p3)]))],1,[]⟩
noncomputable def iL (p0 : Int) (p1 p2 p3 : List D) : Option Ret := R 59 Tryz.f59 [] (bi Tryz.f59 4) ⟨[uu,.ref 0 0 0,uu,.d (.int .i64 p0),uu,uu,uu,uu,uu,uu,uu,uu,uu,uu,uu,uu,uu,uu,uu,uu,uu,uu,uu,uu,uu,uu,uu,uu,uu,uu,uu,uu,uu,uu,uu,uu,uu,uu,uu,uu,uu,uu,uu,uu,uu,uu,uu,uu,uu,uu,uu,uu,uu,uu,uu,uu,uu,uu,uu,uu,uu,uu,uu,uu,uu,uu,uu,uu,uu,uu,uu,uu,uu],[(0,some (.var [.d (.rs (5,0) p1),.d (.rs (4,0) p2),.d (.rs (3,0) p3)]))],1,[]⟩
noncomputable def iv (p0 : Int) (p1 p2 p3 : List D) : Option Ret := R 59 Tryz.f59 [] (bi Tryz.f59 9) ⟨[uu,.ref 0 0 0,uu,uu,.d (.int .i64 p0),uu,uu,uu,uu,uu,uu,uu,uu,uu,uu,uu,uu,uu,uu,uu,uu,uu,uu,uu,uu,uu,uu,uu,uu,uu,uu,uu,uu,uu,uu,uu,uu,uu,uu,uu,uu,uu,uu,uu,uu,uu,uu,uu,uu,uu,uu,uu,uu,uu,uu,uu,uu,uu,uu,uu,uu,uu,uu,uu,uu,uu,uu,uu,uu,uu,uu,uu,uu],[(0,some (.var [.d (.rs (5,0) p1),.d (.rs (4,0) p2),.d (.rs (3,0) p3)]))],1,[]⟩
noncomputable def iK (p0 : Int) (p1 : List D) : Option Ret := R 60 Tryz.f60 [] (bi Tryz.f60 2) ⟨[uu,.ref 0 0 0,uu,.d (.int .i64 p0),uu,uu,uu,uu,uu,uu,uu,uu,uu,uu,uu,uu,uu,uu,uu,uu,uu,uu,uu],[(0,some (.var [.d (.rs (5,0) p1)]))],1,[]⟩
noncomputable def ka (p0 : List D) (p1 p2 : Int) (p3 p4 p5 : List D) : Option Ret := R 66 Tryz.f66 [] (bi Tryz.f66 5) ⟨[uu,uu,uu,uu,.ref 0 0 0,uu,.ref 1 0 0,.asl 2 none,.asl 3 none,uu,uu,uu,uu,uu,uu,uu,.d (.rs (1,0) p0),.d (.int .i64 p1),.d (.int .i64 p2),uu,uu,uu,uu,uu,uu,uu,uu,uu,uu,uu,uu,uu],[(0,some (.var [.d .nl])),(1,some (.var [.asl 4 none])),(2,some (.arr (1,0) p3)),(3,some (.arr (1,0) p4)),(4,some (.arr (5,0) p5))],5,[]⟩
noncomputable def ff (p0 : List D) (p1 : Int) (p2 : List D) : Option Ret := R 84 Tryz.f84 [] (bi Tryz.f84 2) ⟨[uu,.d (.rs (1,0) p0),.ref 0 0 0,uu,uu,.d (.int .i64 p1),uu,uu,uu,uu,uu,uu,uu,uu,uu,uu,uu,uu,uu,uu,uu],[(0,some (.var [.d (.rs (5,0) p2)]))],1,[]⟩
noncomputable def il (p0 : List D) (p1 : Int) (p2 p3 p4 : List D) : Option Ret := R 86 Tryz.f86 [] (bi Tryz.f86 5) ⟨[uu,.d (.rs (1,0) p0),uu,uu,.ref 0 0 0,uu,.ref 1 0 0,.asl 2 none,.asl 3 none,.d (.int .i64 p1),uu,uu,uu,uu,uu,uu,uu,uu,uu,uu,uu,uu,uu,uu,uu,uu,uu,uu,uu,uu,uu,uu,uu,uu,uu],[(0,some (.var [.d .nl])),(1,some (.var [.asl 4 none])),(2,some (.arr (1,0) p2)),(3,some (.arr (1,0) p3)),(4,some (.arr (5,0) p4))],5,[]⟩
noncomputable def gj (p0 : List D) (p1 p2 : Int) : Option Ret := R 99 Tryz.f99 [] (bi Tryz.f99 5) ⟨[.d (.rs (4,0) p0),.d (.int .i64 p1),uu,uu,uu,.d (.int .i64 p2),uu,uu,uu,uu,uu,uu,uu,uu,uu,uu,uu,uu,uu,uu,uu,uu,uu,uu,uu,uu,uu],[],0,[]⟩
noncomputable def iP (p0 : List D) (p1 p2 : Int) : Option Ret := R 100 Tryz.f100 [] (bi Tryz.f100 5) ⟨[.d (.rs (3,0) p0),.d (.int .i64 p1),uu,uu,uu,.d (.int .i64 p2),uu,uu,uu,uu,uu,uu,uu,uu,uu,uu,uu,uu,uu,uu,uu,uu,uu,uu,uu,uu,uu],[],0,[]⟩
noncomputable def jr (p0 p1 : Int) (p2 p3 p4 : List D) (p5 p6 p7 p8 p9 p10 p11 p12 p13 p14 p15 p16 p17 p18 : Int) (p19 : List D) : Option Ret := R 101 Tryz.f101 [] (bi Tryz.f101 2) ⟨[uu,uu,.d (.int .i64 p0),.ref 0 0 0,.ref 1 0 0,uu,.ref 2 0 0,uu,.d (.int .i64 p1),uu,uu,uu,uu,uu,uu,uu,uu,uu,uu,uu,uu,uu,uu,uu,uu,uu],[(0,some (.var [.d (.rs (5,0) p2),.d (.rs (4,0) p3),.d (.rs (3,0) p4)])),(1,some (.var [.asl 3 none,.d (.int .i64 p5),.d (.int .i64 p6),.d (.int .i64 p7),.d (.int .i64 p8),.d (.int .i64 p9),.d (.int .i64 p10),.d (.int .i64 p11)])),(2,some (.var [.d .nl,.d (.int .i64 p12),.d (.int .i64 p13),.d (.int .i64 p14),.d (.int .i64 p15),.d (.int .i64 p16),.d (.int .i64 p17),.d (.int .i64 p18)])),(3,some (.arr (5,0) p19))],4,[]⟩
noncomputable def gk (p0 : List D) (p1 : Int) (p2 : List D) : Option Ret := R 103 Tryz.f103 [] (bi Tryz.f103 3) ⟨[.d (.rs (4,0) p0),uu,uu,.asl 0 none,.d (.int .i64 p1),uu,uu,uu,uu,uu,uu,uu,uu,uu,uu,uu,uu,uu,uu,uu,uu,uu,uu],[(0,some (.arr (4,0) p2))],1,[]⟩
noncomputable def iG (p0 : List D) (p1 : Int) (p2 : List D) : Option Ret := R 104 Tryz.f104 [] (bi Tryz.f104 3) ⟨[.d (.rs (3,0) p0),uu,uu,.asl 0 none,.d (.int .i64 p1),uu,uu,uu,uu,uu,uu,uu,uu,uu,uu,uu,uu,uu,uu,uu,uu,uu,uu],[(0,some (.arr (3,0) p2))],1,[]⟩
noncomputable def gb (p0 p1 : List D) (p2 : Int) : Option Ret := R 106 Tryz.f106 [] (bi Tryz.f106 4) ⟨[.d (.rs (4,0) p0),.d (.rs (4,0) p1),uu,uu,uu,.d (.int .i64 p2),uu,uu,uu,uu,uu,uu,uu,uu,uu,uu,uu,uu,uu,uu,uu,uu,uu,uu,uu,uu,uu],[],0,[]⟩
noncomputable def iq (p0 p1 : List D) (p2 : Int) : Option Ret := R 107 Tryz.f107 [] (bi Tryz.f107 4) ⟨[.d (.rs (3,0) p0),.d (.rs (3,0) p1),uu,uu,uu,.d (.int .i64 p2),uu,uu,uu,uu,uu,uu,uu,uu,uu,uu,uu,uu,uu,uu,uu,uu,uu,uu,uu,uu,uu],[],0,[]⟩
noncomputable def eU (p0 p1 : Int) (p2 : List D) : Option Ret := R 109 Tryz.f109 [27] (bi Tryz.f109 2) ⟨[.asl 0 none,.d (.int .i64 p0),uu,uu,uu,.d (.int .i64 p1),uu,uu,uu,uu,uu,uu,uu,uu,uu,uu,uu,uu,uu,uu,uu,uu,uu,uu,uu,uu,uu,uu,uu,uu,uu,uu,uu,uu,uu,uu,uu,uu,uu,uu,uu,uu],[(0,some (.arr (4,0) p2))],1,[.asl 0 none]⟩
noncomputable def fX (p0 p1 : Int) (p2 : List D) : Option Ret := R 110 Tryz.f110 [28] (bi Tryz.f110 2) ⟨[.asl 0 none,.d (.int .i64 p0),uu,uu,uu,.d (.int .i64 p1),uu,uu,uu,uu,uu,uu,uu,uu,uu,uu,uu,uu,uu,uu,uu,uu,uu,uu,uu,uu,uu,uu,uu,uu,uu,uu,uu,uu,uu],[(0,some (.arr (3,0) p2))],1,[.asl 0 none]⟩
noncomputable def eh (p0 : Int) (p1 p2 : List D) : Option Ret := R 119 Tryz.f119 [((Go.Func.params Tryz.f119).toList.getD 0 0)] (bi Tryz.f119 2) ⟨[.ref 0 0 0,.d (.int .i64 p0),uu,uu,uu,uu,.asl 1 none,uu,uu,uu,uu,uu,uu,uu,uu,uu,uu,uu,uu,uu,uu,uu,uu,uu,uu,uu,uu,uu,uu,uu,uu,uu,uu,uu,uu,uu,uu,uu,uu,uu,uu,uu,uu,uu,uu,uu],[(0,some (.var [.asl 2 none])),(1,some (.arr (1,0) p1)),(2,some (.arr (5,0) p2))],3,[.ref 0 0 0]⟩
noncomputable def gc (p0 : Int) (p1 : ByteArray) : Option Ret := R 121 Tryz.f121 [] (bi Tryz.f121 4) ⟨[.d (.int .i64 p0),uu,uu,.d (.str p1),uu,uu,uu,uu,uu,uu,uu,uu,uu,uu,uu,uu,uu,uu,uu,uu],[],0,[]⟩
noncomputable def fA (p0 : ByteArray) (p1 p2 : Int) : Option Ret := R 124 Tryz.f124 [] (bi Tryz.f124 4) ⟨[.d (.str p0),uu,uu,uu,uu,uu,uu,uu,uu,.d (.int .i64 p1),.d (.int .i64 p2),uu,uu,uu,uu,uu,uu,uu,uu],[],0,[]⟩
noncomputable def fT (p0 : ByteArray) (p1 : Int) : Option Ret := R 128 Tryz.f128 [] (bi Tryz.f128 2) ⟨[.d (.str p0),uu,uu,.d (.int .i64 p1),uu,uu,uu,uu,uu,uu,uu,uu,uu,uu,uu,uu,uu,uu],[],0,[]⟩
noncomputable def jt (p0 : ByteArray) (p1 : Int) (p2 p3 p4 : List D) : Option Ret := R 129 Tryz.f129 [] (bi Tryz.f129 2) ⟨[uu,.d (.str p0),.ref 0 0 0,uu,uu,.d (.int .i64 p1),uu,uu,uu,uu,uu,uu,uu,uu,uu,uu,uu,uu,uu,uu,uu,uu],[(0,some (.var [.d (.rs (5,0) p2),.d (.rs (4,0) p3),.d (.rs (3,0) p4)]))],1,[]⟩
noncomputable def dp (p0 p1 p2 p3 p4 p5 p6 p7 p8 : Int) (p9 p10 p11 p12 p13 : List D) : Option Ret := R 132 Tryz.f132 [((Go.Func.params Tryz.f132).toList.getD 0 0)] (bi Tryz.f132 5) ⟨[.ref 0 0 0,uu,uu,uu,uu,.asl 1 none,uu,uu,uu,uu,uu,uu,uu,uu,uu,uu,uu,uu,uu,uu,uu,uu,.d (.int .i64 p0),.d (.int .i64 p1),uu,uu,uu,uu,uu,uu,uu,uu,uu,uu,uu,uu,uu,uu,uu,uu,uu,uu,uu,uu,uu,uu],[(0,some (.var [.asl 2 none,.d (.int .i64 p2),.d (.int .i64 p3),.d (.int .i64 p4),.d (.int .i64 p5),.d (.int .i64 p6),.d (.int .i64 p7),.d (.int .i64 p8),.d (.rs (5,0) p9),.d (.rs (4,0) p10),.d (.rs (3,0) p11)])),(1,some (.arr (1,0) p12)),(2,some (.arr (5,0) p13))],3,[.ref 0 0 0]⟩
noncomputable def bC (p0 : List D) (p1 p2 : Int) (p3 p4 p5 : List D) : Option Ret := R 137 Tryz.f137 [((Go.Func.params Tryz.f137).toList.getD 0 0)] (bi Tryz.f137 4) ⟨[.ref 0 0 0,uu,uu,uu,uu,uu,uu,.asl 1 none,.asl 2 none,uu,uu,uu,uu,uu,uu,uu,uu,uu,uu,.d (.rs (5,0) p0),.d (.int .i64 p1),.d (.int .i64 p2),uu,uu,uu,uu,uu,uu,uu,uu,uu,uu,uu,uu,uu,uu,uu,uu,uu,uu,uu,uu,uu,uu,uu,uu,uu,uu,uu,uu,uu,uu,uu,uu,uu,uu,uu,uu,uu,uu,uu,uu,uu,uu,uu,uu,uu],[(0,some (.var [.asl 3 none])),(1,some (.arr (1,0) p3)),(2,some (.arr (1,0) p4)),(3,some (.arr (5,0) p5))],4,[.ref 0 0 0]⟩
noncomputable def cN (p0 : List D) (p1 : Int) (p2 p3 p4 : List D) : Option Ret := R 148 Tryz.f148 [((Go.Func.params Tryz.f148).toList.getD 0 0)] (bi Tryz.f148 3) ⟨[.ref 0 0 0,uu,.d (.rs (1,0) p0),uu,.ref 1 0 0,uu,uu,.asl 2 none,.d (.int .i64 p1),uu,uu,uu,uu,uu,uu,uu,uu,uu,uu,uu,uu,uu,uu,uu,uu,uu,uu,uu,uu,uu,uu,uu,uu,uu,uu,uu,uu,uu,uu,uu,uu,uu,uu,uu,uu,uu,uu,uu,uu,uu,uu,uu,uu,uu,uu,uu,uu,uu,uu,uu,uu,uu,uu],[(0,some (.var [.asl 3 none])),(1,some (.var [.d (.rs (5,0) p2)])),(2,some (.arr (1,0) p3)),(3,some (.arr (5,0) p4))],4,[.ref 0 0 0]⟩
noncomputable def fh (p0 : List D) (p1 : Int) (p2 p3 : List D) : Option Ret := R 149 Tryz.f149 [] (bi Tryz.f149 3) ⟨[uu,.d (.rs (1,0) p0),.ref 0 0 0,uu,uu,.asl 1 none,.d (.int .i64 p1),uu,uu,uu,uu,uu,uu,uu,uu,uu,uu,uu,uu,uu,uu,uu,uu,uu,uu,uu,uu,uu,uu,uu,uu,uu,uu,uu,uu,uu,uu,uu,uu,uu,uu,uu,uu,uu,uu,uu,uu,uu,uu,uu,uu,uu,uu,uu,uu,uu,uu,uu,uu,uu,uu,uu,uu],[(0,some (.var [.d (.rs (5,0) p2)])),(1,some (.arr (1,0) p3))],2,[]⟩
noncomputable def cH (p0 : Int) (p1 p2 : List D) : Option Ret := R 149 Tryz.f149 [] (bi Tryz.f149 7) ⟨[uu,uu,.ref 0 0 0,uu,uu,.asl 1 none,uu,.d (.int .i64 p0),uu,uu,uu,uu,uu,uu,uu,uu,uu,uu,uu,uu,uu,uu,uu,uu,uu,uu,uu,uu,uu,uu,uu,uu,uu,uu,uu,uu,uu,uu,uu,uu,uu,uu,uu,uu,uu,uu,uu,uu,uu,uu,uu,uu,uu,uu,uu,uu,uu,uu,uu,uu,uu,uu,uu],[(0,some (.var [.d (.rs (5,0) p1)])),(1,some (.arr (1,0) p2))],2,[]⟩
noncomputable def gE (p0 : List D) (p1 p2 : Int) : Option Ret := R 159 Tryz.f159 [] (bi Tryz.f159 5) ⟨[.d (.rs (5,0) p0),.d (.int .i64 p1),uu,uu,uu,.d (.int .i64 p2),uu,uu,uu,uu,uu,uu,uu,uu,uu,uu,uu,uu,uu,uu,uu,uu,uu,uu,uu,uu,uu],[],0,[]⟩
noncomputable def gI (p0 : List D) (p1 : Int) (p2 : List D) : Option Ret := R 163 Tryz.f163 [] (bi Tryz.f163 3) ⟨[.d (.rs (5,0) p0),uu,uu,.asl 0 none,.d (.int .i64 p1),uu,uu,uu,uu,uu,uu,uu,uu,uu,uu,uu,uu,uu,uu,uu,uu,uu,uu],[(0,some (.arr (5,0) p2))],1,[]⟩
noncomputable def gH (p0 p1 : List D) (p2 : Int) : Option Ret := R 166 Tryz.f166 [] (bi Tryz.f166 4) ⟨[.d (.rs (5,0) p0),.d (.rs (5,0) p1),uu,uu,uu,.d (.int .i64 p2),uu,uu,uu,uu,uu,uu,uu,uu,uu,uu,uu,uu,uu,uu,uu,uu,uu,uu,uu,uu,uu],[],0,[]⟩
noncomputable def fu (p0 p1 : Int) (p2 : List D) : Option Ret := R 169 Tryz.f169 [24] (bi Tryz.f169 2) ⟨[.asl 0 none,.d (.int .i64 p0),uu,uu,uu,.d (.int .i64 p1),uu,uu,uu,uu,uu,uu,uu,uu,uu,uu,uu,uu,uu,uu,uu,uu,uu,uu,uu,uu,uu,uu,uu,uu,uu,uu,uu,uu,uu,uu,uu,uu,uu,uu,uu,uu,uu,uu,uu,uu,uu,uu,uu],[(0,some (.arr (5,0) p2))],1,[.asl 0 none]⟩
noncomputable def fw (p0 : List D) (p1 p2 : Int) : Option Ret := R 170 Tryz.f170 [] (bi Tryz.f170 2) ⟨[.d (.rs (5,0) p0),.d (.int .i64 p1),uu,uu,uu,.d (.int .i64 p2),uu,uu,uu,uu,uu,uu,uu,uu,uu,uu,uu,uu,uu,uu,uu,uu,uu,uu,uu,uu,uu,uu,uu,uu,uu,uu,uu,uu,uu,uu,uu,uu,uu,uu,uu,uu,uu,uu,uu,uu,uu,uu,uu,uu,uu,uu,uu,uu,uu,uu,uu,uu,uu],[],0,[]⟩
noncomputable def eZ (p0 : List D) (p1 : ByteArray) (p2 p3 : Int) : Option Ret := R 178 Tryz.f178 [] (bi Tryz.f178 2) ⟨[.d (.rs (3,0) p0),.fn 179 [.rp (1,1) [.str p1] 0 0],uu,uu,uu,uu,uu,.d (.int .i64 p2),.d (.int .i64 p3),uu,uu,uu,uu,uu,uu,uu,uu,uu,uu],[],0,[]⟩
noncomputable def cX (p0 p1 : Int) (p2 : List D) : Option Ret := R 183 Tryz.f183 [96] (bi Tryz.f183 1) ⟨[.asl 0 none,uu,.d (.int .i64 p0),.d (.int .i64 p1),uu,uu,uu,uu,uu,uu,uu,uu,uu,uu,uu,uu,uu,uu,uu,uu,uu,uu,uu,uu,uu,uu,uu,uu],[(0,some (.arr (1,0) p2))],1,[.asl 0 none]⟩
noncomputable def d6 (p0 p1 : List D) (p2 p3 : Int) : Option Ret := R 188 Tryz.f188 [] (bi Tryz.f188 2) ⟨[.d (.rs (1,0) p0),.fn 136 [.rp (1,1) [.rs (5,0) p1] 0 0],uu,uu,uu,uu,uu,.d (.int .i64 p2),.d (.int .i64 p3),uu,uu,uu,uu,uu,uu,uu,uu,uu,uu],[],0,[]⟩
noncomputable def gv (p0 : List D) (p1 p2 : Int) (p3 p4 : List D) : Option Ret := R 189 Tryz.f189 [] (bi Tryz.f189 3) ⟨[uu,uu,.ref 0 0 0,uu,uu,.asl 1 none,uu,uu,uu,uu,uu,uu,uu,uu,.d (.rs (1,0) p0),.d (.int .i64 p1),.d (.int .i64 p2),uu,uu,uu,uu,uu,uu,uu,uu,uu,uu,uu,uu,uu,uu,uu,uu,uu,uu,uu,uu,uu,uu,uu,uu,uu,uu,uu,uu,uu,uu,uu,uu,uu,uu,uu,uu,uu,uu,uu,uu,uu,uu,uu,uu,uu],[(0,some (.var [.d (.rs (5,0) p3)])),(1,some (.arr (1,0) p4))],2,[]⟩
noncomputable def db (p0 : Int) (p1 p2 : List D) : Option Ret := R 189 Tryz.f189 [] (bi Tryz.f189 8) ⟨[uu,uu,.ref 0 0 0,uu,uu,.asl 1 none,uu,uu,.d (.int .i64 p0),uu,uu,uu,uu,uu,uu,uu,uu,uu,uu,uu,uu,uu,uu,uu,uu,uu,uu,uu,uu,uu,uu,uu,uu,uu,uu,uu,uu,uu,uu,uu,uu,uu,uu,uu,uu,uu,uu,uu,uu,uu,uu,uu,uu,uu,uu,uu,uu,uu,uu,uu,uu,uu],[(0,some (.var [.d (.rs (5,0) p1)])),(1,some (.arr (1,0) p2))],2,[]⟩
noncomputable def dQ (p0 p1 p2 p3 p4 p5 p6 p7 p8 : Int) (p9 p10 p11 p12 : List D) : Option Ret := R 207 Tryz.f207 [((Go.Func.params Tryz.f207).toList.getD 0 0)] (bi Tryz.f207 1) ⟨[.ref 0 0 0,.d (.int .i64 p0),.d (.int .i64 p1),uu,uu,uu,uu,uu,uu,uu,uu,uu,uu,uu,uu,uu,uu,uu,uu,uu,uu,uu,uu,uu,uu,uu,uu,uu,uu,uu,uu,uu,uu,uu,uu,uu,uu,uu,uu,uu,uu,uu,uu,uu,uu,uu,uu,uu,uu,uu,uu,uu,uu,uu],[(0,some (.var [.asl 1 none,.d (.int .i64 p2),.d (.int .i64 p3),.d (.int .i64 p4),.d (.int .i64 p5),.d (.int .i64 p6),.d (.int .i64 p7),.d (.int .i64 p8),.d (.rs (5,0) p9),.d (.rs (4,0) p10),.d (.rs (3,0) p11)])),(1,some (.arr (5,0) p12))],2,[.ref 0 0 0]⟩
noncomputable def i4 (p0 : List D) (p1 p2 : Int) (p3 : List D) : Option Ret := R 210 Tryz.f210 [((Go.Func.params Tryz.f210).toList.getD 0 0)] (bi Tryz.f210 3) ⟨[.ref 0 0 0,.d (.rs (1,0) p0),uu,uu,uu,.d (.int .i64 p1),.d (.int .i64 p2),uu,uu,uu,uu,uu,uu,uu,uu,uu,uu,uu,uu,uu,uu,uu,uu,uu,uu,uu],[(0,some (.var [.asl 1 none])),(1,some (.arr (5,0) p3))],2,[.ref 0 0 0]⟩
noncomputable def jv (p0 p1 : Int) (p2 : List D) : Option Ret := R 216 Tryz.f216 [] (bi Tryz.f216 1) ⟨[uu,.d (.int .i64 p0),.d (.int .i64 p1),.ref 0 0 0,uu,uu,uu,uu,uu,uu,uu,uu,uu,uu,uu,uu,uu,uu,uu,uu,uu,uu,uu,uu,uu,uu,uu,uu,uu,uu,uu,uu,uu,uu,uu,uu,uu,uu,uu,uu],[(0,some (.var [.d (.rs (5,0) p2)]))],1,[]⟩
noncomputable def iZ (p0 p1 p2 p3 p4 p5 p6 p7 p8 : Int) (p9 p10 p11 p12 p13 : List D) : Option Ret := R 219 Tryz.f219 [((Go.Func.params Tryz.f219).toList.getD 1 0)] (bi Tryz.f219 3) ⟨[uu,.ref 0 0 0,uu,.d (.int .i64 p0),.ref 1 0 0,uu,uu,uu,uu,.asl 2 none,.d (.int .i64 p1),uu,uu,uu,uu,uu,uu,uu,uu,uu,uu,uu,uu,uu,uu,uu,uu,uu,uu,uu,uu,uu,uu,uu,uu,uu,uu,uu,uu,uu,uu,uu,uu,uu,uu,uu,uu,uu,uu,uu,uu,uu,uu,uu],[(0,some (.var [.asl 3 none,.d (.int .i64 p2),.d (.int .i64 p3),.d (.int .i64 p4),.d (.int .i64 p5),.d (.int .i64 p6),.d (.int .i64 p7),.d (.int .i64 p8)])),(1,some (.var [.d (.rs (5,0) p9),.d (.rs (4,0) p10),.d (.rs (3,0) p11)])),(2,some (.arr (1,0) p12)),(3,some (.arr (5,0) p13))],4,[.ref 0 0 0]⟩
noncomputable def cY (p0 : List D) (p1 p2 p3 : Int) : Option Ret := R 221 Tryz.f221 [] (bi Tryz.f221 2) ⟨[.d (.rs (1,0) p0),.d (.int .u8 p1),uu,uu,uu,uu,uu,.d (.int .i64 p2),.d (.int .i64 p3),uu,uu,uu,uu,uu,uu,uu,uu,uu,uu],[],0,[]⟩
noncomputable def fx (p0 : List D) (p1 p2 : Int) (p3 : List D) : Option Ret := R 222 Tryz.f222 [((Go.Func.params Tryz.f222).toList.getD 0 0)] (bi Tryz.f222 3) ⟨[.ref 0 0 0,.d (.rs (1,0) p0),uu,uu,uu,.d (.int .i64 p1),.d (.int .i64 p2),uu,uu,uu,uu,uu,uu,uu,uu,uu,uu,uu,uu,uu,uu,uu,uu,uu,uu],[(0,some (.var [.asl 1 none])),(1,some (.arr (5,0) p3))],2,[.ref 0 0 0]⟩
noncomputable def bE (p0 : Int) (p1 p2 : List D) (p3 p4 : Int) (p5 : List D) : Option Ret := R 224 Tryz.f224 [((Go.Func.params Tryz.f224).toList.getD 0 0)] (bi Tryz.f224 2) ⟨[.ref 0 0 0,.d (.int .i64 p0),.d (.rs (1,0) p1),uu,uu,uu,uu,uu,uu,uu,uu,.d (.rs (1,0) p2),.d (.int .i64 p3),.d (.int .i64 p4),uu,uu,uu,uu,uu,uu,uu,uu,uu,uu,uu,uu,uu,uu,uu,uu,uu,uu,uu,uu,uu,uu,uu,uu,uu,uu,uu,uu,uu,uu,uu,uu,uu,uu,uu,uu,uu,uu,uu,uu,uu,uu,uu,uu,uu,uu,uu,uu,uu,uu,uu,uu,uu,uu,uu,uu,uu,uu,uu,uu,uu,uu,uu,uu,uu,uu,uu,uu,uu,uu,uu,uu,uu,uu],[(0,some (.var [.asl 1 none])),(1,some (.arr (5,0) p5))],2,[.ref 0 0 0]⟩
noncomputable def cx (p0 : List D) (p1 : ByteArray) (p2 p3 : Int) : Option Ret := R 225 Tryz.f225 [] (bi Tryz.f225 2) ⟨[.d (.rs (1,0) p0),.d (.str p1),uu,uu,uu,uu,uu,.d (.int .i64 p2),.d (.int .i64 p3),uu,uu,uu,uu,uu,uu,uu,uu,uu,uu],[],0,[]⟩
noncomputable def gg (p0 : Int) (p1 p2 : List D) : Option Ret := R 228 Tryz.f228 [] (bi Tryz.f228 2) ⟨[uu,.d (.int .i64 p0),.ref 0 0 0,uu,uu,uu,.asl 1 none,uu,uu,uu,uu,uu,uu,uu,uu,uu,uu,uu,uu,uu,uu,uu,uu,uu,uu,uu,uu,uu,uu,uu,uu,uu,uu,uu,uu,uu,uu,uu,uu],[(0,some (.var [.d (.rs (5,0) p1)])),(1,some (.arr (1,0) p2))],2,[]⟩
noncomputable def i6 (p0 : ByteArray) (p1 : Int) (p2 : List D) : Option Ret := R 232 Tryz.f232 [] (bi Tryz.f232 3) ⟨[.d (.str p0),uu,uu,.asl 0 none,.d (.int .i64 p1),uu,uu,uu,uu,uu,uu,uu,uu,uu,uu,uu,uu],[(0,some (.arr (1,0) p2))],1,[]⟩
noncomputable def aY (p0 : List D) (p1 p2 : Int) (p3 p4 : List D) : Option Ret := R 247 Tryz.f247 [] (bi Tryz.f247 4) ⟨[uu,uu,uu,.mp 0,.asl 1 none,uu,uu,uu,uu,uu,uu,uu,.d (.rs (5,0) p0),.d (.int .i64 p1),.d (.int .i64 p2),uu,uu,uu,uu,uu,uu,uu,uu,uu,uu,uu,uu,uu,uu,uu,uu,uu,uu,uu,uu,uu,uu,uu,uu,uu,uu,uu,uu,uu,uu,uu,uu,uu,uu,uu,uu,uu,uu,uu,uu,uu,uu,uu,uu,uu,uu,uu],[(0,some (.mp [.int .i64 0,.int .i64 0,.str ⟨#[]⟩,.int .i64 0,.int .i64 0] p3)),(1,some (.arr (1,0) p4))],2,[]⟩
noncomputable def dn (p0 : Int) (p1 p2 p3 : List D) : Option Ret := R 252 Tryz.f252 [] (bi Tryz.f252 4) ⟨[uu,.ref 0 0 0,uu,.asl 1 none,.asl 2 none,.d (.int .i64 p0),uu,uu,uu,uu,uu,uu,uu,uu,uu,uu,uu,uu,uu,uu,uu,uu,uu,uu,uu,uu,uu,uu,uu,uu,uu,uu,uu,uu,uu,uu,uu,uu,uu,uu,uu,uu,uu,uu,uu,uu,uu,uu,uu,uu,uu,uu,uu,uu,uu,uu,uu,uu,uu,uu,uu,uu,uu,uu,uu,uu,uu,uu,uu,uu],[(0,some (.var [.d (.rs (5,0) p1)])),(1,some (.arr (1,0) p2)),(2,some (.arr (5,0) p3))],3,[]⟩
noncomputable def bM (p0 p1 p2 : Int) (p3 p4 p5 : List D) (p6 p7 : Int) (p8 : ByteArray) (p9 p10 : Int) : Option Ret := R 252 Tryz.f252 [] (bi Tryz.f252 16) ⟨[uu,.ref 0 0 0,uu,.asl 1 none,.asl 2 none,.d (.int .i64 p0),.ref 3 0 0,.d (.int .i64 p1),.d (.int .i64 p2),uu,uu,uu,uu,uu,uu,uu,uu,uu,uu,uu,uu,uu,uu,uu,uu,uu,uu,uu,uu,uu,uu,uu,uu,uu,uu,uu,uu,uu,uu,uu,uu,uu,uu,uu,uu,uu,uu,uu,uu,uu,uu,uu,uu,uu,uu,uu,uu,uu,uu,uu,uu,uu,uu,uu,uu,uu,uu,uu,uu,uu],[(0,some (.var [.d (.rs (5,0) p3)])),(1,some (.arr (1,0) p4)),(2,some (.arr (5,0) p5)),(3,some (.var [.d (.int .i64 p6),.d (.int .i64 p7),.d (.str p8),.d (.int .i64 p9),.d (.int .i64 p10)]))],4,[]⟩
end Go.Eng
/-! the functions as the interpreter has them -/
namespace Go.Eng
open Go.Proofs Go.Proofs.Tryz
set_option maxRecDepth 100000
theorem BQ (a0_0 : List D) (a0_1 a0_2 a0_3 a0_4 a0_5 a0_6 a0_7 : Int) : V 73 [.agg [.os (5,0) a0_0,.int .i64 a0_1,.int .i64 a0_2,.int .i64 a0_3,.int .i64 a0_4,.int .i64 a0_5,.int .i64 a0_6,.int .i64 a0_7]] =
 br (decide (ni (List.length a0_0) > 2000))
 (ac V 18 [.agg [.rs (5,0) a0_0,.int .i64 a0_1,.int .i64 a0_2,.int .i64 a0_3,.int .i64 a0_4,.int .i64 a0_5,.int .i64 a0_6,.int .i64 a0_7]] fun x0 l1 =>
 tk3 x0 fun l5 n8 n11 n14 n17 n20 n23 n26 => (unn l1 (some ((.agg [.os (5,0) l5,.int .i64 n8,.int .i64 n11,.int .i64 n14,.int .i64 n17,.int .i64 n20,.int .i64 n23,.int .i64 n26]),[]))))
 (some ((.agg [.os (5,0) a0_0,.int .i64 a0_1,.int .i64 a0_2,.int .i64 a0_3,.int .i64 a0_4,.int .i64 a0_5,.int .i64 a0_6,.int .i64 a0_7]),[])) := by
  exact (ay Tryz.func73 rfl _).trans (by kernel_rfl)
theorem j2 (p0 p1 : List D) (p2 : Int) : gb p0 p1 p2 =
 br (decide (p2 < ni (List.length p0)))
 (grd (decide (0 ≤ p2) && decide (p2 < ni (List.length p0))) (am p0 (Int.toNat p2) fun x0 =>
 wt x0 fun n4 n7 n10 s13 => (grd (decide (0 ≤ p2) && decide (p2 < ni (List.length p1))) (am p1 (Int.toNat p2) fun x14 =>
 wt x14 fun n18 n21 n24 s27 => (ac V 167 [.agg [.int .i64 n4,.int .i64 n7,.int .i64 n10,.str s13],.agg [.int .i64 n18,.int .i64 n21,.int .i64 n24,.str s27]] fun x28 l29 =>
 asB x28 fun b30 => unn l29 (br (!b30)
 (some ((.bool false),[]))
 (gb p0 p1 (IntKind.wrap IntKind.i64 (p2 + 1)))))))))
 (some ((.bool true),[])) := by
  exact (bQ _ _ _).trans (by kernel_rfl)
theorem tV (p : List D) (m1 m2 m3 m4 m5 m6 m7 : Int)  : V 218 [.op [.os (5,0) p,.int .i64 m1,.int .i64 m2,.int .i64 m3,.int .i64 m4,.int .i64 m5,.int .i64 m6,.int .i64 m7]] =
 grd (decide (0 ≤ m2) && decide (m2 < ni (List.length p))) (am p (Int.toNat m2) fun x0 =>
 tk1 x0 fun n4 _ _ n13 n16 => (br (n4 != 5)
 (some ((.tup [.int .i64 (0),.bool false]),[.op [.os (5,0) p,.int .i64 m1,.int .i64 m2,.int .i64 m3,.int .i64 m4,.int .i64 m5,.int .i64 m6,.int .i64 m7]]))
 (some ((.tup [.int .i64 n13,.bool true]),[.op [.os (5,0) p,.int .i64 m1,.int .i64 n16,.int .i64 m3,.int .i64 m4,.int .i64 m5,.int .i64 m6,.int .i64 m7]])))) := by
  exact (ay Tryz.func218 rfl _).trans (by kernel_rfl)
theorem wl  : V 176 [] =
 some ((.os (1,0) [.str ({ data := #[43] }),.str ({ data := #[45] }),.str ({ data := #[42] }),.str ({ data := #[60] }),.str ({ data := #[61] }),.str ({ data := #[99,111,110,115] }),.str ({ data := #[99,97,114] }),.str ({ data := #[99,100,114] }),.str ({ data := #[110,117,108,108,63] }),.str ({ data := #[112,97,105,114,63] }),.str ({ data := #[101,113,63] }),.str ({ data := #[110,111,116] }),.str ({ data := #[112,114,105,110,116] }),.str ({ data := #[115,101,108,102] }),.str ({ data := #[115,101,110,100] }),.str ({ data := #[114,101,99,118] }),.str ({ data := #[115,112,97,119,110] }),.str ({ data := #[99,97,108,108,99,99] }),.str ({ data := #[103,111] })]),[]) := by
  exact (ay Tryz.func176 rfl _).trans (by kernel_rfl)
theorem ko (a0_0 a0_1 a0_2 : List D) (a1_ : Int) : V 33 [.agg [.rs (5,0) a0_0,.rs (4,0) a0_1,.rs (3,0) a0_2],.int .i64 a1_] =
 ac V 98 [.agg [.rs (5,0) a0_0],.int .i64 a1_] fun x0 l1 =>
 asI .i64 x0 fun n2 => unn l1 (br (decide (n2 < 0))
 (some ((.int .i64 (-1)),[]))
 (ac V 99 [.rs (4,0) a0_1,.int .i64 n2] fun x3 l4 =>
 asI .i64 x3 fun n5 => unn l4 (br (decide (n5 < 0))
 (some ((.int .i64 (-1)),[]))
 (ac V 100 [.rs (3,0) a0_2,.int .i64 n5] fun x6 l7 =>
 asI .i64 x6 fun n8 => unn l7 (br (decide (n8 < 0))
 (some ((.int .i64 (-1)),[]))
 (some ((.int .i64 n8),[]))))))) := by
  exact (ay Tryz.func33 rfl _).trans (by kernel_rfl)
theorem s9 (a0_0 : List D) (a0_1 a0_2 a0_3 a0_4 a0_5 a0_6 a0_7 : Int) : V 63 [.agg [.rs (5,0) a0_0,.int .i64 a0_1,.int .i64 a0_2,.int .i64 a0_3,.int .i64 a0_4,.int .i64 a0_5,.int .i64 a0_6,.int .i64 a0_7]] =
 ac V 131 [.agg [.rs (5,0) a0_0]] fun x0 l1 =>
 asAgg x0 fun l2 => unc l2 fun x3 l4 => aM (5,0) x3 fun l5 => unn l4 (unn l1 (some ((.agg [.os (5,0) l5,.int .i64 a0_1,.int .i64 a0_2,.int .i64 a0_3,.int .i64 a0_4,.int .i64 a0_5,.int .i64 a0_6,.int .i64 a0_7]),[]))) := by
  exact (ay Tryz.func63 rfl _).trans (by kernel_rfl)
theorem nD (p0 : List D) (p1 p2 : Int) (p3 p4 : List D) : gv p0 p1 p2 p3 p4 =
 br (decide (p2 < p1))
 (grd (decide (0 ≤ p2) && decide (p2 < ni (List.length p0))) (am p0 (Int.toNat p2) fun x0 =>
 asI .i64 x0 fun n1 => grd (decide (0 ≤ n1) && decide (n1 < ni (List.length p4))) (am p4 (Int.toNat n1) fun _ =>
 nam (List.set p4 (Int.toNat n1) (D.bool true)) fun l3 =>
 gv p0 p1 (IntKind.wrap IntKind.i64 (p2 + 1)) p3 l3)))
 (db (IntKind.wrap IntKind.i64 (ni (List.length p3) - 1)) p3 p4) := by
  exact (bQ _ _ _).trans (by kernel_rfl)
theorem mo (p0 : ByteArray) (p1 : Int) : fT p0 p1 =
 br (decide (p1 < ni (ByteArray.size p0)))
 (grd (decide (0 ≤ p1) && decide (p1 < ni (ByteArray.size p0))) (ac V 180 [.int .u8 (bt p0 p1)] fun x0 l1 =>
 asB x0 fun b2 => unn l1 (br (!b2)
 (some ((.bool false),[]))
 (fT p0 (IntKind.wrap IntKind.i64 (p1 + 1))))))
 (ac V 62 [(.int .i64 (ni (ByteArray.size p0))),.int .i64 (1),.int .i64 (12)] fun x3 l4 =>
 asB x3 fun b5 => unn l4 (some ((.bool b5),[]))) := by
  exact (bQ _ _ _).trans (by kernel_rfl)
theorem nk (p0 : ByteArray) (p1 : Int) (p2 p3 p4 : List D) : jt p0 p1 p2 p3 p4 =
 br (decide (p1 < ni (List.length p4)))
 (grd (decide (0 ≤ p1) && decide (p1 < ni (List.length p4))) (am p4 (Int.toNat p1) fun x0 =>
 asAgg x0 fun l1 => am l1 0 fun x2 =>
 asS x2 fun s3 => br (aQ s3 p0)
 (some ((.int .i64 p1),[]))
 (jt p0 (IntKind.wrap IntKind.i64 (p1 + 1)) p2 p3 p4)))
 (some ((.int .i64 (-1)),[])) := by
  exact (bQ _ _ _).trans (by kernel_rfl)
theorem CU (a0_0 a0_1 : Int) (a0_2 : ByteArray) (a0_3 a0_4 a1_ : Int) : V 198 [.agg [.int .i64 a0_0,.int .i64 a0_1,.str a0_2,.int .i64 a0_3,.int .i64 a0_4],.int .i64 a1_] =
 br (decide (IntKind.wrap IntKind.i64 (a1_ - ni (ByteArray.size a0_2)) < 0))
 (some ((.int .i64 (-1)),[]))
 (some ((.int .i64 (IntKind.wrap IntKind.i64 (a1_ - ni (ByteArray.size a0_2)))),[])) := by
  exact (ay Tryz.func198 rfl _).trans (by kernel_rfl)
theorem zr (a0_ : List D) : V 163 [.rs (5,0) a0_] =
 grd (decide (0 ≤ ni (List.length a0_)) && decide (ni (List.length a0_) ≤ LIM)) (gI a0_ (0) (List.replicate (Int.toNat (ni (List.length a0_))) (D.agg [D.int IntKind.i64 (0),D.int IntKind.i64 (0),D.str { data := #[] },D.int IntKind.i64 (0),D.int IntKind.i64 (0)]))) := by
  exact (ay Tryz.func163 rfl _).trans (by kernel_rfl)
theorem BZ (a0_ : Bool) : V 251 [.bool a0_] =
 br a0_
 (some ((.agg [.int .i64 (2),.int .i64 (1),.str ({ data := #[] }),.int .i64 (0),.int .i64 (0)]),[]))
 (some ((.agg [.int .i64 (2),.int .i64 (0),.str ({ data := #[] }),.int .i64 (0),.int .i64 (0)]),[])) := by
  exact (ay Tryz.func251 rfl _).trans (by kernel_rfl)
theorem tq (a0_0 : List D) (a1_ : Int) : V 98 [.agg [.rs (5,0) a0_0],.int .i64 a1_] =
 ac V 159 [.rs (5,0) a0_0,.int .i64 a1_] fun x0 l1 =>
 asI .i64 x0 fun n2 => unn l1 (br (decide (n2 < 0))
 (some ((.int .i64 (-1)),[]))
 (some ((.int .i64 n2),[]))) := by
  exact (ay Tryz.func98 rfl _).trans (by kernel_rfl)
theorem Kc (a0_ a1_ a2_ : Int) : V 62 [.int .i64 a0_,.int .i64 a1_,.int .i64 a2_] =
 br (decide (a0_ ≥ a1_))
 (some ((.bool (decide (a0_ ≤ a2_))),[]))
 (some ((.bool false),[])) := by
  exact (ay Tryz.func62 rfl _).trans (by kernel_rfl)
theorem B6 (a0_0 : List D) : V 147 [.agg [.rs (5,0) a0_0]] =
 grd (decide (ni (List.length ([] ++ a0_0)) ≤ LIM)) (nam ([] ++ a0_0) fun l0 =>
 some ((.agg [.os (5,0) l0]),[])) := by
  exact (ay Tryz.func147 rfl _).trans (by kernel_rfl)
theorem mG (a0_ : List D) (a1_ : Int) : V 221 [.rs (1,0) a0_,.int .u8 a1_] =
 cY a0_ a1_ (ni (List.length a0_)) (0) := by
  exact (ay Tryz.func221 rfl _).trans (by kernel_rfl)
theorem wg (a0_ : List D) (a1_ : Int) : V 169 [.os (5,0) a0_,.int .i64 a1_] =
 fu a1_ (0) a0_ := by
  exact (ay Tryz.func169 rfl _).trans (by kernel_rfl)

end Go.Eng
/-! the functions as the interpreter has them -/
namespace Go.Eng
open Go.Proofs Go.Proofs.Tryz
set_option maxRecDepth 100000
theorem y5 (a0_0 a0_1 a0_2 : List D) (a1_ : Int) : V 123 [.agg [.rs (5,0) a0_0,.rs (4,0) a0_1,.rs (3,0) a0_2],.int .i64 a1_] =
 grd (decide (0 ≤ a1_) && decide (a1_ < ni (List.length a0_1))) (am a0_1 (Int.toNat a1_) fun x0 =>
 wt x0 fun n4 n7 n10 s13 => (br (n4 == 1)
 (ac V 56 [.agg [.rs (5,0) a0_0],.int .i64 n7] fun x14 l15 =>
 asB x14 fun b16 => unn l15 (br b16
 (br (n10 == 0)
 (some ((.bool (aQ s13 { data := #[] })),[]))
 (some ((.bool false),[])))
 (some ((.bool false),[]))))
 (br (n4 == 2)
 (ac V 58 [.int .i64 n7,.int .i64 (0),.int .i64 (20)] fun x17 l18 =>
 asB x17 fun b19 => unn l18 (ac V 58 [.int .i64 n10,.int .i64 (0),.int .i64 (3)] fun x20 l21 =>
 asB x20 fun b22 => unn l21 (br b19
 (br b22
 (some ((.bool (aQ s13 { data := #[] })),[]))
 (some ((.bool false),[])))
 (some ((.bool false),[])))))
 (br (n4 == 3)
 (ac V 124 [.str s13] fun x23 l24 =>
 asB x23 fun b25 => unn l24 (br (n7 == 0)
 (br (n10 == 0)
 (some ((.bool b25),[]))
 (some ((.bool false),[])))
 (some ((.bool false),[]))))
 (br (n4 == 4)
 (br (n4 == 4)
 (ac V 58 [.int .i64 n7,(.int .i64 (IntKind.wrap IntKind.i64 (a1_ + 1))),(.int .i64 (ni (List.length a0_1)))] fun x26 l27 =>
 asB x26 fun b28 => unn l27 (br b28
 (br (n10 == 0)
 (some ((.bool (aQ s13 { data := #[] })),[]))
 (some ((.bool false),[])))
 (some ((.bool false),[]))))
 (br (n4 == 6)
 (ac V 58 [.int .i64 n7,(.int .i64 (IntKind.wrap IntKind.i64 (a1_ + 1))),(.int .i64 (IntKind.wrap IntKind.i64 (ni (List.length a0_1) - 1)))] fun x29 l30 =>
 asB x29 fun b31 => unn l30 (ac V 58 [.int .i64 n10,.int .i64 (0),.int .i64 (4)] fun x32 l33 =>
 asB x32 fun b34 => unn l33 (br b31
 (br b34
 (some ((.bool (aQ s13 { data := #[] })),[]))
 (some ((.bool false),[])))
 (some ((.bool false),[])))))
 (br (n4 == 7)
 (ac V 58 [.int .i64 n10,.int .i64 (0),.int .i64 (4)] fun x35 l36 =>
 asB x35 fun b37 => unn l36 (br (n7 == 0)
 (br b37
 (some ((.bool (aQ s13 { data := #[] })),[]))
 (some ((.bool false),[])))
 (some ((.bool false),[]))))
 (br (n4 == 8)
 (br (n4 == 8)
 (br (n7 == 0)
 (br (n10 == 0)
 (some ((.bool (aQ s13 { data := #[] })),[]))
 (some ((.bool false),[])))
 (some ((.bool false),[])))
 (some ((.bool false),[])))
 (br (n4 == 9)
 (br (n7 == 0)
 (br (n10 == 0)
 (some ((.bool (aQ s13 { data := #[] })),[]))
 (some ((.bool false),[])))
 (some ((.bool false),[])))
 (some ((.bool false),[])))))))
 (br (n4 == 5)
 (ac V 58 [.int .i64 n7,(.int .i64 (IntKind.wrap IntKind.i64 (a1_ + 1))),(.int .i64 (ni (List.length a0_1)))] fun x38 l39 =>
 asB x38 fun b40 => unn l39 (br b40
 (br (n10 == 0)
 (some ((.bool (aQ s13 { data := #[] })),[]))
 (some ((.bool false),[])))
 (some ((.bool false),[]))))
 (br (n4 == 6)
 (ac V 58 [.int .i64 n7,(.int .i64 (IntKind.wrap IntKind.i64 (a1_ + 1))),(.int .i64 (IntKind.wrap IntKind.i64 (ni (List.length a0_1) - 1)))] fun x41 l42 =>
 asB x41 fun b43 => unn l42 (ac V 58 [.int .i64 n10,.int .i64 (0),.int .i64 (4)] fun x44 l45 =>
 asB x44 fun b46 => unn l45 (br b43
 (br b46
 (some ((.bool (aQ s13 { data := #[] })),[]))
 (some ((.bool false),[])))
 (some ((.bool false),[])))))
 (br (n4 == 7)
 (ac V 58 [.int .i64 n10,.int .i64 (0),.int .i64 (4)] fun x47 l48 =>
 asB x47 fun b49 => unn l48 (br (n7 == 0)
 (br b49
 (some ((.bool (aQ s13 { data := #[] })),[]))
 (some ((.bool false),[])))
 (some ((.bool false),[]))))
 (br (n4 == 8)
 (br (n4 == 8)
 (br (n7 == 0)
 (br (n10 == 0)
 (some ((.bool (aQ s13 { data := #[] })),[]))
 (some ((.bool false),[])))
 (some ((.bool false),[])))
 (some ((.bool false),[])))
 (br (n4 == 9)
 (br (n7 == 0)
 (br (n10 == 0)
 (some ((.bool (aQ s13 { data := #[] })),[]))
 (some ((.bool false),[])))
 (some ((.bool false),[])))
 (some ((.bool false),[])))))))))))) := by
  exact (ay Tryz.func123 rfl _).trans (by kernel_rfl)
theorem zj (a0_0 a0_1 a0_2 : List D) (a1_ : Int) : V 127 [.agg [.rs (5,0) a0_0,.rs (4,0) a0_1,.rs (3,0) a0_2],.int .i64 a1_] =
 grd (decide (0 ≤ a1_) && decide (a1_ < ni (List.length a0_1))) (am a0_1 (Int.toNat a1_) fun x0 =>
 wt x0 fun n4 n7 n10 s13 => (br (n4 == 1)
 (br (n4 == n4 && (n7 == n7 && (n10 == 0 && (aQ s13 { data := #[] } && true))))
 (ac V 61 [.agg [.rs (5,0) a0_0],.int .i64 n7] fun x14 l15 =>
 asB x14 fun b16 => unn l15 (some ((.bool b16),[])))
 (some ((.bool false),[])))
 (br (n4 == 2)
 (br (aQ s13 { data := #[] })
 (ac V 62 [.int .i64 n7,.int .i64 (0),.int .i64 (20)] fun x17 l18 =>
 asB x17 fun b19 => unn l18 (br b19
 (ac V 62 [.int .i64 n10,.int .i64 (0),.int .i64 (3)] fun x20 l21 =>
 asB x20 fun b22 => unn l21 (some ((.bool b22),[])))
 (some ((.bool false),[]))))
 (some ((.bool false),[])))
 (br (n4 == 3)
 (br (n4 == n4 && (n7 == 0 && (n10 == 0 && (aQ s13 s13 && true))))
 (ac V 128 [.str s13] fun x23 l24 =>
 asB x23 fun b25 => unn l24 (some ((.bool b25),[])))
 (some ((.bool false),[])))
 (br (n4 == 4)
 (br (n4 == 4)
 (br (n4 == n4 && (n7 == n7 && (n10 == 0 && (aQ s13 { data := #[] } && true))))
 (br (decide (n7 > a1_))
 (some ((.bool (decide (n7 ≤ ni (List.length a0_1)))),[]))
 (some ((.bool false),[])))
 (some ((.bool false),[])))
 (br (n4 == 6)
 (br (aQ s13 { data := #[] })
 (br (decide (n7 > a1_))
 (br (decide (n7 < ni (List.length a0_1)))
 (ac V 62 [.int .i64 n10,.int .i64 (0),.int .i64 (4)] fun x26 l27 =>
 asB x26 fun b28 => unn l27 (some ((.bool b28),[])))
 (some ((.bool false),[])))
 (some ((.bool false),[])))
 (some ((.bool false),[])))
 (br (n4 == 7)
 (br (n4 == n4 && (n7 == 0 && (n10 == n10 && (aQ s13 { data := #[] } && true))))
 (ac V 62 [.int .i64 n10,.int .i64 (0),.int .i64 (4)] fun x29 l30 =>
 asB x29 fun b31 => unn l30 (some ((.bool b31),[])))
 (some ((.bool false),[])))
 (br (n4 == 8)
 (br (n4 == 8)
 (some ((.bool (n4 == n4 && (n7 == 0 && (n10 == 0 && (aQ s13 { data := #[] } && true))))),[]))
 (some ((.bool false),[])))
 (br (n4 == 9)
 (some ((.bool (n4 == n4 && (n7 == 0 && (n10 == 0 && (aQ s13 { data := #[] } && true))))),[]))
 (some ((.bool false),[])))))))
 (br (n4 == 5)
 (br (n4 == n4 && (n7 == n7 && (n10 == 0 && (aQ s13 { data := #[] } && true))))
 (br (decide (n7 > a1_))
 (some ((.bool (decide (n7 ≤ ni (List.length a0_1)))),[]))
 (some ((.bool false),[])))
 (some ((.bool false),[])))
 (br (n4 == 6)
 (br (aQ s13 { data := #[] })
 (br (decide (n7 > a1_))
 (br (decide (n7 < ni (List.length a0_1)))
 (ac V 62 [.int .i64 n10,.int .i64 (0),.int .i64 (4)] fun x32 l33 =>
 asB x32 fun b34 => unn l33 (some ((.bool b34),[])))
 (some ((.bool false),[])))
 (some ((.bool false),[])))
 (some ((.bool false),[])))
 (br (n4 == 7)
 (br (n4 == n4 && (n7 == 0 && (n10 == n10 && (aQ s13 { data := #[] } && true))))
 (ac V 62 [.int .i64 n10,.int .i64 (0),.int .i64 (4)] fun x35 l36 =>
 asB x35 fun b37 => unn l36 (some ((.bool b37),[])))
 (some ((.bool false),[])))
 (br (n4 == 8)
 (br (n4 == 8)
 (some ((.bool (n4 == n4 && (n7 == 0 && (n10 == 0 && (aQ s13 { data := #[] } && true))))),[]))
 (some ((.bool false),[])))
 (br (n4 == 9)
 (some ((.bool (n4 == n4 && (n7 == 0 && (n10 == 0 && (aQ s13 { data := #[] } && true))))),[]))
 (some ((.bool false),[])))))))))))) := by
  exact (ay Tryz.func127 rfl _).trans (by kernel_rfl)
theorem Dd (a0_0 a0_1 : Int) (a0_2 : ByteArray) (a0_3 a0_4 a1_ : Int) : V 126 [.agg [.int .i64 a0_0,.int .i64 a0_1,.str a0_2,.int .i64 a0_3,.int .i64 a0_4],.int .i64 a1_] =
 br (a0_0 == 1)
 (ac V 58 [.int .i64 a0_1,.int .i64 (0),.int .i64 (0)] fun x0 l1 =>
 asB x0 fun b2 => unn l1 (br b2
 (br (aQ a0_2 { data := #[] })
 (br (a0_3 == 0)
 (some ((.bool (a0_4 == 0)),[]))
 (some ((.bool false),[])))
 (some ((.bool false),[])))
 (some ((.bool false),[]))))
 (br (a0_0 == 2)
 (ac V 58 [.int .i64 a0_1,.int .i64 (0),.int .i64 (1)] fun x3 l4 =>
 asB x3 fun b5 => unn l4 (br b5
 (br (aQ a0_2 { data := #[] })
 (br (a0_3 == 0)
 (some ((.bool (a0_4 == 0)),[]))
 (some ((.bool false),[])))
 (some ((.bool false),[])))
 (some ((.bool false),[]))))
 (br (a0_0 == 3)
 (ac V 58 [.int .i64 a0_1,.int .i64 (-1000000000),.int .i64 (1000000000)] fun x6 l7 =>
 asB x6 fun b8 => unn l7 (br b8
 (br (aQ a0_2 { data := #[] })
 (br (a0_3 == 0)
 (some ((.bool (a0_4 == 0)),[]))
 (some ((.bool false),[])))
 (some ((.bool false),[])))
 (some ((.bool false),[]))))
 (br (a0_0 == 4)
 (ac V 124 [.str a0_2] fun x9 l10 =>
 asB x9 fun b11 => unn l10 (ac V 58 [.int .i64 a0_1,.int .i64 (0),.int .i64 (0)] fun x12 l13 =>
 asB x12 fun b14 => unn l13 (br b14
 (br b11
 (br (a0_3 == 0)
 (some ((.bool (a0_4 == 0)),[]))
 (some ((.bool false),[])))
 (some ((.bool false),[])))
 (some ((.bool false),[])))))
 (br (a0_0 == 5)
 (ac V 58 [.int .i64 a0_3,.int .i64 (0),(.int .i64 (IntKind.wrap IntKind.i64 (a1_ - 1)))] fun x15 l16 =>
 asB x15 fun b17 => unn l16 (ac V 58 [.int .i64 a0_4,.int .i64 (0),(.int .i64 (IntKind.wrap IntKind.i64 (a1_ - 1)))] fun x18 l19 =>
 asB x18 fun b20 => unn l19 (ac V 58 [.int .i64 a0_1,.int .i64 (0),.int .i64 (0)] fun x21 l22 =>
 asB x21 fun b23 => unn l22 (br b23
 (br (aQ a0_2 { data := #[] })
 (br b17
 (some ((.bool b20),[]))
 (some ((.bool false),[])))
 (some ((.bool false),[])))
 (some ((.bool false),[]))))))
 (br (a0_0 == 6)
 (ac V 58 [.int .i64 a0_3,.int .i64 (0),(.int .i64 (IntKind.wrap IntKind.i64 (a1_ - 1)))] fun x24 l25 =>
 asB x24 fun b26 => unn l25 (ac V 58 [.int .i64 a0_1,.int .i64 (0),.int .i64 (1000000000)] fun x27 l28 =>
 asB x27 fun b29 => unn l28 (br b29
 (br (aQ a0_2 { data := #[] })
 (br b26
 (some ((.bool (a0_4 == 0)),[]))
 (some ((.bool false),[])))
 (some ((.bool false),[])))
 (some ((.bool false),[])))))
 (br (a0_0 == 7)
 (ac V 58 [.int .i64 a0_3,.int .i64 (0),(.int .i64 (IntKind.wrap IntKind.i64 (a1_ - 1)))] fun x30 l31 =>
 asB x30 fun b32 => unn l31 (ac V 58 [.int .i64 a0_1,.int .i64 (0),.int .i64 (0)] fun x33 l34 =>
 asB x33 fun b35 => unn l34 (br b35
 (br (aQ a0_2 { data := #[] })
 (br b32
 (some ((.bool (a0_4 == 0)),[]))
 (some ((.bool false),[])))
 (some ((.bool false),[])))
 (some ((.bool false),[])))))
 (br (a0_0 == 8)
 (ac V 58 [.int .i64 a0_1,.int .i64 (0),.int .i64 (99)] fun x36 l37 =>
 asB x36 fun b38 => unn l37 (br b38
 (br (aQ a0_2 { data := #[] })
 (br (a0_3 == 0)
 (some ((.bool (a0_4 == 0)),[]))
 (some ((.bool false),[])))
 (some ((.bool false),[])))
 (some ((.bool false),[]))))
 (br (a0_0 == 9)
 (ac V 58 [.int .i64 a0_1,.int .i64 (0),.int .i64 (1000000000)] fun x39 l40 =>
 asB x39 fun b41 => unn l40 (br b41
 (br (aQ a0_2 { data := #[] })
 (br (a0_3 == 0)
 (some ((.bool (a0_4 == 0)),[]))
 (some ((.bool false),[])))
 (some ((.bool false),[])))
 (some ((.bool false),[]))))
 (some ((.bool false),[])))))))))) := by
  exact (ay Tryz.func126 rfl _).trans (by kernel_rfl)
theorem lG (p0 p1 p2 p3 p4 p5 p6 p7 p8 : Int) (p9 p10 p11 p12 p13 : List D) : iZ p0 p1 p2 p3 p4 p5 p6 p7 p8 p9 p10 p11 p12 p13 =
 br (decide (p1 ≥ 0))
 (ac V 218 [.op [.os (5,0) p13,.int .i64 p2,.int .i64 p3,.int .i64 p4,.int .i64 p5,.int .i64 p6,.int .i64 p7,.int .i64 p8]] fun x0 l1 =>
 tk4 x0 fun n5 b8 => (unc l1 fun x9 l10 => tk5 x9 fun l14 n17 n20 n23 n26 n29 n32 n35 => (unn l10 (br (!b8)
 (some ((.int .i64 (7)),[.op [.os (5,0) l14,.int .i64 n17,.int .i64 n20,.int .i64 n23,.int .i64 n26,.int .i64 n29,.int .i64 n32,.int .i64 n35]]))
 (grd (decide (0 ≤ p1) && decide (p1 < ni (List.length p12))) (am p12 (Int.toNat p1) fun _ =>
 nam (List.set p12 (Int.toNat p1) (D.int IntKind.i64 n5)) fun l37 =>
 iZ p0 (IntKind.wrap IntKind.i64 (p1 - 1)) n17 n20 n23 n26 n29 n32 n35 p9 p10 p11 l37 l14))))))
 (ac V 218 [.op [.os (5,0) p13,.int .i64 p2,.int .i64 p3,.int .i64 p4,.int .i64 p5,.int .i64 p6,.int .i64 p7,.int .i64 p8]] fun x38 l39 =>
 tk4 x38 fun n43 b46 => (unc l39 fun x47 l48 => tk5 x47 fun l52 n55 n58 n61 n64 n67 n70 n73 => (unn l48 (br (!b46)
 (some ((.int .i64 (7)),[.op [.os (5,0) l52,.int .i64 n55,.int .i64 n58,.int .i64 n61,.int .i64 n64,.int .i64 n67,.int .i64 n70,.int .i64 n73]]))
 (br (decide (p0 ≥ ni (List.length p10)))
 (some ((.int .i64 (7)),[.op [.os (5,0) l52,.int .i64 n55,.int .i64 n58,.int .i64 n61,.int .i64 n64,.int .i64 n67,.int .i64 n70,.int .i64 n73]]))
 (ac V 233 [.agg [.rs (5,0) p9,.rs (4,0) p10,.rs (3,0) p11],(.op [.os (5,0) l52,.int .i64 n55,.int .i64 n58,.int .i64 n61,.int .i64 n64,.int .i64 n67,.int .i64 n70,.int .i64 n73]),.int .i64 n43,.rs (1,0) p12,.int .i64 p0] fun x74 l75 =>
 asI .i64 x74 fun n76 => unc l75 fun x77 l78 => tk5 x77 fun l82 n85 n88 n91 n94 n97 n100 n103 => (unn l78 (some ((.int .i64 n76),[.op [.os (5,0) l82,.int .i64 n85,.int .i64 n88,.int .i64 n91,.int .i64 n94,.int .i64 n97,.int .i64 n100,.int .i64 n103]]))))))))) := by
  exact (bQ _ _ _).trans (by kernel_rfl)
theorem fC (p0 p1 p2 p3 p4 p5 p6 p7 p8 : Int) (p9 p10 p11 p12 p13 : List D) : dp p0 p1 p2 p3 p4 p5 p6 p7 p8 p9 p10 p11 p12 p13 =
 br (decide (p1 < p0))
 (ac V 182 [.op [.os (5,0) p13,.int .i64 p2,.int .i64 p3,.int .i64 p4,.int .i64 p5,.int .i64 p6,.int .i64 p7,.int .i64 p8,.rs (5,0) p9,.rs (4,0) p10,.rs (3,0) p11]] fun x3 l4 =>
 tk4 x3 fun n8 b11 => (unc l4 fun x12 l13 => tk6 x12 fun l17 n20 n23 n26 n29 n32 n35 n38 l41 l44 l47 => (unn l13 (br (!b11)
 (some ((.int .i64 (7)),[.op [.os (5,0) l17,.int .i64 n20,.int .i64 n23,.int .i64 n26,.int .i64 n29,.int .i64 n32,.int .i64 n35,.int .i64 n38,.rs (5,0) l41,.rs (4,0) l44,.rs (3,0) l47]]))
 (grd (decide (ni (List.length (p12 ++ [D.int IntKind.i64 n8])) ≤ LIM)) (nam (p12 ++ [D.int IntKind.i64 n8]) fun l48 =>
 dp p0 (IntKind.wrap IntKind.i64 (p1 + 1)) n20 n23 n26 n29 n32 n35 n38 l41 l44 l47 l48 l17))))))
 (ac V 183 [.os (1,0) p12] fun x49 l50 =>
 b6 x49 fun l51 => unn l51 (unc l50 fun x52 l53 => aM (1,0) x52 fun l54 => unn l53 (grd (decide (0 ≤ 0) && decide (0 < ni (List.length l54))) (am l54 0 fun x55 =>
 asI .i64 x55 fun n56 => grd (fF (List.length l54) (some (1)) none) (ac V 184 [.op [.os (5,0) p13,.int .i64 p2,.int .i64 p3,.int .i64 p4,.int .i64 p5,.int .i64 p6,.int .i64 p7,.int .i64 p8,.rs (5,0) p9,.rs (4,0) p10,.rs (3,0) p11],.int .i64 n56,(.rs (1,0) (part l54 (some (Int.toNat (1),List.length l54 - Int.toNat (1)))))] fun x57 l58 =>
 asI .i64 x57 fun n59 => unc l58 fun x60 l61 => tk6 x60 fun l65 n68 n71 n74 n77 n80 n83 n86 l89 l92 l95 => (unn l61 (some ((.int .i64 n59),[.op [.os (5,0) l65,.int .i64 n68,.int .i64 n71,.int .i64 n74,.int .i64 n77,.int .i64 n80,.int .i64 n83,.int .i64 n86,.rs (5,0) l89,.rs (4,0) l92,.rs (3,0) l95]])))))))) := by
  exact (bQ _ _ _).trans (by kernel_rfl)
theorem zp (a0_ a1_ a2_ : Int) : V 243 [.int .i64 a0_,.int .i64 a1_,.int .i64 a2_] =
 br (a0_ == 1)
 (some ((.agg [.int .i64 (3),(.int .i64 (IntKind.wrap IntKind.i64 (a1_ + a2_))),.str ({ data := #[] }),.int .i64 (0),.int .i64 (0)]),[]))
 (br (a0_ == 2)
 (some ((.agg [.int .i64 (3),(.int .i64 (IntKind.wrap IntKind.i64 (a1_ - a2_))),.str ({ data := #[] }),.int .i64 (0),.int .i64 (0)]),[]))
 (br (a0_ == 3)
 (some ((.agg [.int .i64 (3),(.int .i64 (IntKind.wrap IntKind.i64 (a1_ * a2_))),.str ({ data := #[] }),.int .i64 (0),.int .i64 (0)]),[]))
 (br (a0_ == 4)
 (ac V 241 [(.bool (decide (a1_ < a2_)))] fun x0 l1 =>
 tk1 x0 fun n5 n8 s11 n14 n17 => (unn l1 (some ((.agg [.int .i64 n5,.int .i64 n8,.str s11,.int .i64 n14,.int .i64 n17]),[]))))
 (ac V 241 [.bool (a1_ == a2_)] fun x18 l19 =>
 tk1 x18 fun n23 n26 s29 n32 n35 => (unn l19 (some ((.agg [.int .i64 n23,.int .i64 n26,.str s29,.int .i64 n32,.int .i64 n35]),[]))))))) := by
  exact (ay Tryz.func243 rfl _).trans (by kernel_rfl)
theorem Cn (a0_0 : List D) (a0_1 a0_2 a0_3 a0_4 a0_5 a0_6 a0_7 : Int) : V 162 [.agg [.os (5,0) a0_0,.int .i64 a0_1,.int .i64 a0_2,.int .i64 a0_3,.int .i64 a0_4,.int .i64 a0_5,.int .i64 a0_6,.int .i64 a0_7]] =
 br (decide (ni (List.length a0_0) > 2000))
 (ac V 28 [.agg [.rs (5,0) a0_0,.int .i64 a0_1,.int .i64 a0_2,.int .i64 a0_3,.int .i64 a0_4,.int .i64 a0_5,.int .i64 a0_6,.int .i64 a0_7]] fun x0 l1 =>
 tk3 x0 fun l5 n8 n11 n14 n17 n20 n23 n26 => (unn l1 (some ((.agg [.os (5,0) l5,.int .i64 n8,.int .i64 n11,.int .i64 n14,.int .i64 n17,.int .i64 n20,.int .i64 n23,.int .i64 n26]),[]))))
 (some ((.agg [.os (5,0) a0_0,.int .i64 a0_1,.int .i64 a0_2,.int .i64 a0_3,.int .i64 a0_4,.int .i64 a0_5,.int .i64 a0_6,.int .i64 a0_7]),[])) := by
  exact (ay Tryz.func162 rfl _).trans (by kernel_rfl)
theorem lB (p0 p1 : List D) (p2 : Int) : iq p0 p1 p2 =
 br (decide (p2 < ni (List.length p0)))
 (grd (decide (0 ≤ p2) && decide (p2 < ni (List.length p0))) (am p0 (Int.toNat p2) fun x0 =>
 wk x0 fun s4 n7 n10 => (grd (decide (0 ≤ p2) && decide (p2 < ni (List.length p1))) (am p1 (Int.toNat p2) fun x11 =>
 wk x11 fun s15 n18 n21 => (ac V 168 [.agg [.str s4,.int .i64 n7,.int .i64 n10],.agg [.str s15,.int .i64 n18,.int .i64 n21]] fun x22 l23 =>
 asB x22 fun b24 => unn l23 (br (!b24)
 (some ((.bool false),[]))
 (iq p0 p1 (IntKind.wrap IntKind.i64 (p2 + 1)))))))))
 (some ((.bool true),[])) := by
  exact (bQ _ _ _).trans (by kernel_rfl)
theorem cG (p0 p1 : Int) (p2 : List D) : cX p0 p1 p2 =
 br (decide (p0 < p1))
 (grd (decide (0 ≤ p1) && decide (p1 < ni (List.length p2))) (am p2 (Int.toNat p1) fun x0 =>
 asI .i64 x0 fun n1 => grd (decide (0 ≤ p0) && decide (p0 < ni (List.length p2))) (am p2 (Int.toNat p0) fun x2 =>
 asI .i64 x2 fun n3 => grd (decide (0 ≤ p0) && decide (p0 < ni (List.length p2))) (am p2 (Int.toNat p0) fun _ =>
 nam (List.set p2 (Int.toNat p0) (D.int IntKind.i64 n1)) fun l5 =>
 grd (decide (0 ≤ p1) && decide (p1 < ni (List.length l5))) (am l5 (Int.toNat p1) fun _ =>
 nam (List.set l5 (Int.toNat p1) (D.int IntKind.i64 n3)) fun l7 =>
 cX (IntKind.wrap IntKind.i64 (p0 + 1)) (IntKind.wrap IntKind.i64 (p1 - 1)) l7)))))
 (some ((.tup []),[.os (1,0) p2])) := by
  exact (bQ _ _ _).trans (by kernel_rfl)
theorem yn (a0_ : Int) : V 245 [.int .i64 a0_] =
 ac V 62 [.int .i64 a0_,.int .i64 (1),.int .i64 (19)] fun x0 l1 =>
 asB x0 fun b2 => unn l1 (br (!b2)
 (some ((.int .i64 (-1)),[]))
 (grd (decide (0 ≤ a0_) && decide (a0_ < ni 20)) (am ([D.int IntKind.i64 (0),D.int IntKind.i64 (2),D.int IntKind.i64 (2),D.int IntKind.i64 (2),D.int IntKind.i64 (2),D.int IntKind.i64 (2),D.int IntKind.i64 (2),D.int IntKind.i64 (1),D.int IntKind.i64 (1),D.int IntKind.i64 (1),D.int IntKind.i64 (1),D.int IntKind.i64 (2),D.int IntKind.i64 (1),D.int IntKind.i64 (1),D.int IntKind.i64 (0),D.int IntKind.i64 (2),D.int IntKind.i64 (0),D.int IntKind.i64 (1),D.int IntKind.i64 (1),D.int IntKind.i64 (1)]) (Int.toNat a0_) fun x3 =>
 asI .i64 x3 fun n4 => some ((.int .i64 n4),[])))) := by
  exact (ay Tryz.func245 rfl _).trans (by kernel_rfl)
theorem Ft (p : List D) (k n : Int) (s : ByteArray) (a b : Int) : V 158 [.op [.os (5,0) p],.agg [.int .i64 k,.int .i64 n,.str s,.int .i64 a,.int .i64 b]] =
 grd (decide (ni (List.length (p ++ [D.agg [D.int IntKind.i64 k,D.int IntKind.i64 n,D.str s,D.int IntKind.i64 a,D.int IntKind.i64 b]])) ≤ LIM)) (nam (p ++ [D.agg [D.int IntKind.i64 k,D.int IntKind.i64 n,D.str s,D.int IntKind.i64 a,D.int IntKind.i64 b]]) fun l0 =>
 some ((.int .i64 (IntKind.wrap IntKind.i64 (ni (List.length l0) - 1))),[.op [.os (5,0) l0]])) := by
  exact (ay Tryz.func158 rfl _).trans (by kernel_rfl)
theorem Dh (a0_0 a0_1 a0_2 : List D) : V 54 [.agg [.rs (5,0) a0_0,.rs (4,0) a0_1,.rs (3,0) a0_2]] =
 ac V 55 [.agg [.rs (5,0) a0_0]] fun x0 l1 =>
 asB x0 fun b2 => unn l1 (br (!b2)
 (some ((.bool false),[]))
 (br (decide (ni (List.length a0_1) > 400))
 (some ((.bool false),[]))
 (br (decide (ni (List.length a0_2) > 20))
 (some ((.bool false),[]))
 (iC (ni (List.length a0_1)) (0) a0_0 a0_1 a0_2)))) := by
  exact (ay Tryz.func54 rfl _).trans (by kernel_rfl)
theorem me (p0 p1 : Int) (p2 p3 p4 : List D) : iC p0 p1 p2 p3 p4 =
 br (decide (p1 < p0))
 (ac V 123 [.agg [.rs (5,0) p2,.rs (4,0) p3,.rs (3,0) p4],.int .i64 p1] fun x3 l4 =>
 asB x3 fun b5 => unn l4 (br (!b5)
 (some ((.bool false),[]))
 (iC p0 (IntKind.wrap IntKind.i64 (p1 + 1)) p2 p3 p4)))
 (gF p4 (ni (List.length p4)) (0) p2 p3 p4) := by
  exact (bQ _ _ _).trans (by kernel_rfl)
theorem Fw (a0_0 : ByteArray) (a0_1 a0_2 : Int) (a1_0 : ByteArray) (a1_1 a1_2 : Int) : V 168 [.agg [.str a0_0,.int .i64 a0_1,.int .i64 a0_2],.agg [.str a1_0,.int .i64 a1_1,.int .i64 a1_2]] =
 br (!aQ a0_0 a1_0)
 (some ((.bool false),[]))
 (br (a0_1 != a1_1)
 (some ((.bool false),[]))
 (br (a0_2 != a1_2)
 (some ((.bool false),[]))
 (some ((.bool true),[])))) := by
  exact (ay Tryz.func168 rfl _).trans (by kernel_rfl)
theorem GX (a0_0 : ByteArray) (a0_1 a0_2 a1_ : Int) : V 161 [.agg [.str a0_0,.int .i64 a0_1,.int .i64 a0_2],.int .i64 a1_] =
 br (decide (IntKind.wrap IntKind.i64 (a1_ - ni (ByteArray.size a0_0)) < 0))
 (some ((.int .i64 (-1)),[]))
 (some ((.int .i64 (IntKind.wrap IntKind.i64 (a1_ - ni (ByteArray.size a0_0)))),[])) := by
  exact (ay Tryz.func161 rfl _).trans (by kernel_rfl)
theorem pm (l p : List D) : V 135 [.rs (1,0) l,.fn 136 [.bp [.rs (5,0) p]]] =
 ac V 188 [.rs (1,0) l,(.fn 136 [(.bp [.rs (5,0) p])])] fun x0 l1 =>
 asI .i64 x0 fun n2 => unn l1 (some ((.bool (decide (n2 ≥ 0))),[])) := by
  exact (ay Tryz.func135 rfl _).trans (by kernel_rfl)
theorem zf (a0_0 a0_1 a0_2 : Int) (a0_3 : ByteArray) : V 164 [.agg [.int .i64 a0_0,.int .i64 a0_1,.int .i64 a0_2,.str a0_3]] =
 some ((.agg [.int .i64 a0_0,.int .i64 a0_1,.int .i64 a0_2,.str a0_3]),[]) := by
  exact (ay Tryz.func164 rfl _).trans (by kernel_rfl)
theorem nc (a0_ : List D) : V 183 [.os (1,0) a0_] =
 cX (0) (IntKind.wrap IntKind.i64 (ni (List.length a0_) - 1)) a0_ := by
  exact (ay Tryz.func183 rfl _).trans (by kernel_rfl)
theorem wu (a0_ : List D) (a1_ : Int) : V 170 [.rs (5,0) a0_,.int .i64 a1_] =
 fw a0_ a1_ (0) := by
  exact (ay Tryz.func170 rfl _).trans (by kernel_rfl)

end Go.Eng
/-! the functions as the interpreter has them -/
namespace Go.Eng
open Go.Proofs Go.Proofs.Tryz
set_option maxRecDepth 100000
theorem rc (a0_0 a0_1 a0_2 a1_0 : List D) (a1_1 a1_2 a1_3 a1_4 a1_5 a1_6 a1_7 a2_ : Int) : V 8 [.agg [.rs (5,0) a0_0,.rs (4,0) a0_1,.rs (3,0) a0_2],.agg [.rs (5,0) a1_0,.int .i64 a1_1,.int .i64 a1_2,.int .i64 a1_3,.int .i64 a1_4,.int .i64 a1_5,.int .i64 a1_6,.int .i64 a1_7],.int .i64 a2_] =
 ac V 33 [.agg [.rs (5,0) a0_0,.rs (4,0) a0_1,.rs (3,0) a0_2],.int .i64 (1048576)] fun x0 l1 =>
 asI .i64 x0 fun n2 => unn l1 (br (decide (n2 < 0))
 (some ((.bool true),[]))
 (ac V 34 [.agg [.rs (5,0) a1_0,.int .i64 a1_1,.int .i64 a1_2,.int .i64 a1_3,.int .i64 a1_4,.int .i64 a1_5,.int .i64 a1_6,.int .i64 a1_7],.int .i64 n2] fun x3 l4 =>
 asI .i64 x3 fun n5 => unn l4 (br (decide (n5 < 0))
 (some ((.bool true),[]))
 (ac V 36 [.agg [.rs (5,0) a0_0,.rs (4,0) a0_1,.rs (3,0) a0_2]] fun x6 l7 =>
 tk7 x6 fun l11 l14 l17 => (unn l7 (ac V 37 [.agg [.rs (5,0) a1_0,.int .i64 a1_1,.int .i64 a1_2,.int .i64 a1_3,.int .i64 a1_4,.int .i64 a1_5,.int .i64 a1_6,.int .i64 a1_7]] fun x18 l19 =>
 tk3 x18 fun l23 n26 n29 n32 n35 n38 n41 n44 => (unn l19 (ac V 35 [.agg [.rs (5,0) l11,.rs (4,0) l14,.rs (3,0) l17],(.agg [.rs (5,0) l23,.int .i64 n26,.int .i64 n29,.int .i64 n32,.int .i64 n35,.int .i64 n38,.int .i64 n41,.int .i64 n44]),.int .i64 a2_] fun x45 l46 =>
 b6 x45 fun l47 => unc l47 fun x48 l49 => tk3 x48 fun l53 n56 n59 n62 n65 n68 n71 n74 => (unc l49 fun x75 l76 => asI .i64 x75 fun n77 => unn l76 (unn l46 (ac V 36 [.agg [.rs (5,0) a0_0,.rs (4,0) a0_1,.rs (3,0) a0_2]] fun x78 l79 =>
 tk7 x78 fun l83 l86 l89 => (unn l79 (ac V 37 [.agg [.rs (5,0) a1_0,.int .i64 a1_1,.int .i64 a1_2,.int .i64 a1_3,.int .i64 a1_4,.int .i64 a1_5,.int .i64 a1_6,.int .i64 a1_7]] fun x90 l91 =>
 tk3 x90 fun l95 n98 n101 n104 n107 n110 n113 n116 => (unn l91 (ac V 22 [.agg [.rs (5,0) l83,.rs (4,0) l86,.rs (3,0) l89],(.agg [.rs (5,0) l95,.int .i64 n98,.int .i64 n101,.int .i64 n104,.int .i64 n107,.int .i64 n110,.int .i64 n113,.int .i64 n116]),.int .i64 a2_] fun x117 l118 =>
 b6 x117 fun l119 => unc l119 fun x120 l121 => tk3 x120 fun l125 n128 n131 n134 n137 n140 n143 n146 => (unc l121 fun x147 l148 => asI .i64 x147 fun n149 => unn l148 (unn l118 (ac V 38 [.agg [.rs (5,0) l125,.int .i64 n128,.int .i64 n131,.int .i64 n134,.int .i64 n137,.int .i64 n140,.int .i64 n143,.int .i64 n146],(.agg [.rs (5,0) l53,.int .i64 n56,.int .i64 n59,.int .i64 n62,.int .i64 n65,.int .i64 n68,.int .i64 n71,.int .i64 n74])] fun x150 l151 =>
 asB x150 fun b152 => unn l151 (br (!b152)
 (some ((.bool false),[]))
 (br (n149 != n77)
 (some ((.bool false),[]))
 (ac V 36 [.agg [.rs (5,0) a0_0,.rs (4,0) a0_1,.rs (3,0) a0_2]] fun x153 l154 =>
 tk7 x153 fun l158 l161 l164 => (unn l154 (ac V 39 [.agg [.rs (5,0) l83,.rs (4,0) l86,.rs (3,0) l89],(.agg [.rs (5,0) l158,.rs (4,0) l161,.rs (3,0) l164])] fun x165 l166 =>
 asB x165 fun b167 => unn l166 (br (!b167)
 (some ((.bool false),[]))
 (ac V 37 [.agg [.rs (5,0) a1_0,.int .i64 a1_1,.int .i64 a1_2,.int .i64 a1_3,.int .i64 a1_4,.int .i64 a1_5,.int .i64 a1_6,.int .i64 a1_7]] fun x168 l169 =>
 tk3 x168 fun l173 n176 n179 n182 n185 n188 n191 n194 => (unn l169 (ac V 38 [.agg [.rs (5,0) l95,.int .i64 n98,.int .i64 n101,.int .i64 n104,.int .i64 n107,.int .i64 n110,.int .i64 n113,.int .i64 n116],(.agg [.rs (5,0) l173,.int .i64 n176,.int .i64 n179,.int .i64 n182,.int .i64 n185,.int .i64 n188,.int .i64 n191,.int .i64 n194])] fun x195 l196 =>
 asB x195 fun b197 => unn l196 (br (!b197)
 (some ((.bool false),[]))
 (ac V 40 [.agg [.os (5,0) l83,.os (4,0) l86,.os (3,0) l89],.int .i64 (1)] fun x198 l199 =>
 asI .i64 x198 fun n200 => unc l199 fun x201 l202 => tk7 x201 fun _ _ _ => (unn l202 (ac V 41 [.agg [.os (5,0) l95,.int .i64 n98,.int .i64 n101,.int .i64 n104,.int .i64 n107,.int .i64 n110,.int .i64 n113,.int .i64 n116],.int .i64 n200] fun x213 l214 =>
 asI .i64 x213 fun n215 => unc l214 fun x216 l217 => tk3 x216 fun _ _ _ _ _ _ _ _ => (unn l217 (br (decide (n215 < 0))
 (some ((.bool false),[]))
 (ac V 38 [.agg [.rs (5,0) l125,.int .i64 n128,.int .i64 n131,.int .i64 n134,.int .i64 n137,.int .i64 n140,.int .i64 n143,.int .i64 n146],(.agg [.rs (5,0) l53,.int .i64 n56,.int .i64 n59,.int .i64 n62,.int .i64 n65,.int .i64 n68,.int .i64 n71,.int .i64 n74])] fun x243 l244 =>
 asB x243 fun b245 => unn l244 (br (!b245)
 (some ((.bool false),[]))
 (br (n149 != n77)
 (some ((.bool false),[]))
 (ac V 41 [.agg [.os (5,0) l125,.int .i64 n128,.int .i64 n131,.int .i64 n134,.int .i64 n137,.int .i64 n140,.int .i64 n143,.int .i64 n146],.int .i64 (1)] fun x246 l247 =>
 asI .i64 x246 fun n248 => unc l247 fun x249 l250 => tk3 x249 fun l254 _ _ _ _ _ _ _ => (unn l250 (ac V 42 [.agg [.rs (5,0) l254,.int .i64 n128,.int .i64 n131,.int .i64 n134,.int .i64 n137,.int .i64 n140,.int .i64 n143,.int .i64 n146],.int .i64 (1)] fun x276 l277 =>
 asI .i64 x276 fun n278 => unn l277 (br (decide (n278 < 0))
 (some ((.bool false),[]))
 (br (n278 != n248)
 (some ((.bool false),[]))
 (ac V 36 [.agg [.rs (5,0) a0_0,.rs (4,0) a0_1,.rs (3,0) a0_2]] fun x279 l280 =>
 tk7 x279 fun l284 l287 l290 => (unn l280 (ac V 37 [.agg [.rs (5,0) a1_0,.int .i64 a1_1,.int .i64 a1_2,.int .i64 a1_3,.int .i64 a1_4,.int .i64 a1_5,.int .i64 a1_6,.int .i64 a1_7]] fun x291 l292 =>
 tk3 x291 fun l296 n299 n302 n305 n308 n311 n314 n317 => (unn l292 (ac V 22 [.agg [.rs (5,0) l284,.rs (4,0) l287,.rs (3,0) l290],(.agg [.rs (5,0) l296,.int .i64 n299,.int .i64 n302,.int .i64 n305,.int .i64 n308,.int .i64 n311,.int .i64 n314,.int .i64 n317]),.int .i64 a2_] fun x318 l319 =>
 b6 x318 fun l320 => unc l320 fun x321 l322 => tk3 x321 fun l326 n329 n332 n335 n338 n341 n344 n347 => (unc l322 fun x348 l349 => asI .i64 x348 fun n350 => unn l349 (unn l319 (ac V 38 [.agg [.rs (5,0) l326,.int .i64 n329,.int .i64 n332,.int .i64 n335,.int .i64 n338,.int .i64 n341,.int .i64 n344,.int .i64 n347],(.agg [.rs (5,0) l53,.int .i64 n56,.int .i64 n59,.int .i64 n62,.int .i64 n65,.int .i64 n68,.int .i64 n71,.int .i64 n74])] fun x351 l352 =>
 asB x351 fun b353 => unn l352 (br (!b353)
 (some ((.bool false),[]))
 (br (n350 != n77)
 (some ((.bool false),[]))
 (ac V 42 [.agg [.rs (5,0) l254,.int .i64 n128,.int .i64 n131,.int .i64 n134,.int .i64 n137,.int .i64 n140,.int .i64 n143,.int .i64 n146],.int .i64 (1)] fun x354 l355 =>
 asI .i64 x354 fun n356 => unn l355 (br (decide (n356 < 0))
 (some ((.bool false),[]))
 (br (n356 != n248)
 (some ((.bool false),[]))
 (some ((.bool true),[])))))))))))))))))))))))))))))))))))))))))))))))))))))))) := by
  exact (ay Tryz.func8 rfl _).trans (by kernel_rfl)
theorem Ki (p : List D) (n : Int) (l : List D) : V 246 [.op [.os (5,0) p],.int .i64 n,.rs (1,0) l] =
 grd (decide (0 ≤ 0) && decide (0 < ni (List.length l))) (am l 0 fun x0 =>
 asI .i64 x0 fun n1 => grd (decide (0 ≤ n1) && decide (n1 < ni (List.length p))) (am p (Int.toNat n1) fun x2 =>
 tk1 x2 fun n6 n9 s12 n15 n18 => (br (decide (n ≤ 5))
 (grd (decide (0 ≤ 1) && decide (1 < ni (List.length l))) (am l 1 fun x19 =>
 asI .i64 x19 fun n20 => grd (decide (0 ≤ n20) && decide (n20 < ni (List.length p))) (am p (Int.toNat n20) fun x21 =>
 tk1 x21 fun n25 n28 s31 n34 n37 => (ac V 250 [.int .i64 n,.agg [.int .i64 n6,.int .i64 n9,.str s12,.int .i64 n15,.int .i64 n18],.agg [.int .i64 n25,.int .i64 n28,.str s31,.int .i64 n34,.int .i64 n37]] fun x38 l39 =>
 b6 x38 fun l40 => unc l40 fun x41 l42 => tk1 x41 fun n46 n49 s52 n55 n58 => (unc l42 fun x59 l60 => asI .i64 x59 fun n61 => unn l60 (unn l39 (br (n61 != 0)
 (some ((.tup [.int .i64 (-1),.int .i64 n61]),[.op [.os (5,0) p]]))
 (ac V 158 [.op [.os (5,0) p],.agg [.int .i64 n46,.int .i64 n49,.str s52,.int .i64 n55,.int .i64 n58]] fun x62 l63 =>
 asI .i64 x62 fun n64 => unc l63 fun x65 l66 => bz x65 fun l67 => unc l67 fun x68 l69 => aM (5,0) x68 fun l70 => unn l69 (unn l66 (some ((.tup [.int .i64 n64,.int .i64 n61]),[.op [.os (5,0) l70]])))))))))))
 (br (n == 6)
 (grd (decide (0 ≤ 0) && decide (0 < ni (List.length l))) (am l 0 fun x71 =>
 asI .i64 x71 fun n72 => grd (decide (0 ≤ 1) && decide (1 < ni (List.length l))) (am l 1 fun x73 =>
 asI .i64 x73 fun n74 => ac V 158 [.op [.os (5,0) p],(.agg [.int .i64 (5),.int .i64 (0),.str ({ data := #[] }),.int .i64 n72,.int .i64 n74])] fun x75 l76 =>
 asI .i64 x75 fun n77 => unc l76 fun x78 l79 => bz x78 fun l80 => unc l80 fun x81 l82 => aM (5,0) x81 fun l83 => unn l82 (unn l79 (some ((.tup [.int .i64 n77,.int .i64 (0)]),[.op [.os (5,0) l83]]))))))
 (br (decide (n ≤ 8))
 (br (n6 != 5)
 (some ((.tup [.int .i64 (-1),.int .i64 (3)]),[.op [.os (5,0) p]]))
 (br (n == 7)
 (some ((.tup [.int .i64 n15,.int .i64 (0)]),[.op [.os (5,0) p]]))
 (some ((.tup [.int .i64 n18,.int .i64 (0)]),[.op [.os (5,0) p]]))))
 (br (n == 9)
 (ac V 251 [.bool (n6 == 1)] fun x84 l85 =>
 tk1 x84 fun n89 n92 s95 n98 n101 => (unn l85 (ac V 158 [.op [.os (5,0) p],.agg [.int .i64 n89,.int .i64 n92,.str s95,.int .i64 n98,.int .i64 n101]] fun x102 l103 =>
 asI .i64 x102 fun n104 => unc l103 fun x105 l106 => bz x105 fun l107 => unc l107 fun x108 l109 => aM (5,0) x108 fun l110 => unn l109 (unn l106 (some ((.tup [.int .i64 n104,.int .i64 (0)]),[.op [.os (5,0) l110]]))))))
 (br (n == 10)
 (ac V 251 [.bool (n6 == 5)] fun x111 l112 =>
 tk1 x111 fun n116 n119 s122 n125 n128 => (unn l112 (ac V 158 [.op [.os (5,0) p],.agg [.int .i64 n116,.int .i64 n119,.str s122,.int .i64 n125,.int .i64 n128]] fun x129 l130 =>
 asI .i64 x129 fun n131 => unc l130 fun x132 l133 => bz x132 fun l134 => unc l134 fun x135 l136 => aM (5,0) x135 fun l137 => unn l136 (unn l133 (some ((.tup [.int .i64 n131,.int .i64 (0)]),[.op [.os (5,0) l137]]))))))
 (br (n == 11)
 (ac V 252 [.agg [.rs (5,0) p]] fun x138 l139 =>
 aM (1,0) x138 fun l140 => unn l139 (grd (decide (0 ≤ 0) && decide (0 < ni (List.length l))) (am l 0 fun x141 =>
 asI .i64 x141 fun n142 => grd (decide (0 ≤ n142) && decide (n142 < ni (List.length l140))) (am l140 (Int.toNat n142) fun x143 =>
 asI .i64 x143 fun n144 => grd (decide (0 ≤ 1) && decide (1 < ni (List.length l))) (am l 1 fun x145 =>
 asI .i64 x145 fun n146 => grd (decide (0 ≤ n146) && decide (n146 < ni (List.length l140))) (am l140 (Int.toNat n146) fun x147 =>
 asI .i64 x147 fun n148 => ac V 251 [.bool (n144 == n148)] fun x149 l150 =>
 tk1 x149 fun n154 n157 s160 n163 n166 => (unn l150 (ac V 158 [.op [.os (5,0) p],.agg [.int .i64 n154,.int .i64 n157,.str s160,.int .i64 n163,.int .i64 n166]] fun x167 l168 =>
 asI .i64 x167 fun n169 => unc l168 fun x170 l171 => bz x170 fun l172 => unc l172 fun x173 l174 => aM (5,0) x173 fun l175 => unn l174 (unn l171 (some ((.tup [.int .i64 n169,.int .i64 (0)]),[.op [.os (5,0) l175]])))))))))))
 (br (n6 == 2)
 (ac V 251 [.bool (n9 == 0)] fun x176 l177 =>
 tk1 x176 fun n181 n184 s187 n190 n193 => (unn l177 (ac V 158 [.op [.os (5,0) p],.agg [.int .i64 n181,.int .i64 n184,.str s187,.int .i64 n190,.int .i64 n193]] fun x194 l195 =>
 asI .i64 x194 fun n196 => unc l195 fun x197 l198 => bz x197 fun l199 => unc l199 fun x200 l201 => aM (5,0) x200 fun l202 => unn l201 (unn l198 (some ((.tup [.int .i64 n196,.int .i64 (0)]),[.op [.os (5,0) l202]]))))))
 (ac V 251 [.bool false] fun x203 l204 =>
 tk1 x203 fun n208 n211 s214 n217 n220 => (unn l204 (ac V 158 [.op [.os (5,0) p],.agg [.int .i64 n208,.int .i64 n211,.str s214,.int .i64 n217,.int .i64 n220]] fun x221 l222 =>
 asI .i64 x221 fun n223 => unc l222 fun x224 l225 => bz x224 fun l226 => unc l226 fun x227 l228 => aM (5,0) x227 fun l229 => unn l228 (unn l225 (some ((.tup [.int .i64 n223,.int .i64 (0)]),[.op [.os (5,0) l229]]))))))))))))))) := by
  exact (ay Tryz.func246 rfl _).trans (by kernel_rfl)
theorem qg (p : List D) (m1 m2 m3 m4 m5 m6 m7 : Int) (cp cl cd : List D) (n : Int) (l : List D) : V 206 [.op [.os (5,0) p,.int .i64 m1,.int .i64 m2,.int .i64 m3,.int .i64 m4,.int .i64 m5,.int .i64 m6,.int .i64 m7,.rs (5,0) cp,.rs (4,0) cl,.rs (3,0) cd],.int .i64 n,.rs (1,0) l] =
 br (ni (List.length l) != 1)
 (some ((.int .i64 (2)),[.op [.os (5,0) p,.int .i64 m1,.int .i64 m2,.int .i64 m3,.int .i64 m4,.int .i64 m5,.int .i64 m6,.int .i64 m7,.rs (5,0) cp,.rs (4,0) cl,.rs (3,0) cd]]))
 (ac V 119 [.op [.os (5,0) p],.int .i64 n] fun x0 l1 =>
 tk2 x0 fun l5 b8 => (unc l1 fun x9 l10 => bz x9 fun l11 => unc l11 fun x12 l13 => aM (5,0) x12 fun l14 => unn l13 (unn l10 (br (!b8)
 (some ((.int .i64 (7)),[.op [.os (5,0) l14,.int .i64 m1,.int .i64 m2,.int .i64 m3,.int .i64 m4,.int .i64 m5,.int .i64 m6,.int .i64 m7,.rs (5,0) cp,.rs (4,0) cl,.rs (3,0) cd]]))
 (br (ni (List.length l5) != 4)
 (some ((.int .i64 (7)),[.op [.os (5,0) l14,.int .i64 m1,.int .i64 m2,.int .i64 m3,.int .i64 m4,.int .i64 m5,.int .i64 m6,.int .i64 m7,.rs (5,0) cp,.rs (4,0) cl,.rs (3,0) cd]]))
 (grd (decide (0 ≤ 0) && decide (0 < ni (List.length l5))) (am l5 0 fun x15 =>
 asI .i64 x15 fun n16 => grd (decide (0 ≤ n16) && decide (n16 < ni (List.length l14))) (am l14 (Int.toNat n16) fun x17 =>
 asAgg x17 fun l18 => am l18 0 fun x19 =>
 asI .i64 x19 fun n20 => br (n20 != 3)
 (some ((.int .i64 (7)),[.op [.os (5,0) l14,.int .i64 m1,.int .i64 m2,.int .i64 m3,.int .i64 m4,.int .i64 m5,.int .i64 m6,.int .i64 m7,.rs (5,0) cp,.rs (4,0) cl,.rs (3,0) cd]]))
 (grd (decide (0 ≤ 0) && decide (0 < ni (List.length l5))) (am l5 0 fun x21 =>
 asI .i64 x21 fun n22 => grd (decide (0 ≤ n22) && decide (n22 < ni (List.length l14))) (am l14 (Int.toNat n22) fun x23 =>
 asAgg x23 fun l24 => am l24 1 fun x25 =>
 asI .i64 x25 fun n26 => ac V 57 [.agg [.rs (5,0) cp,.rs (4,0) cl,.rs (3,0) cd],.int .i64 n26] fun x27 l28 =>
 asB x27 fun b29 => unn l28 (br (!b29)
 (some ((.int .i64 (7)),[.op [.os (5,0) l14,.int .i64 m1,.int .i64 m2,.int .i64 m3,.int .i64 m4,.int .i64 m5,.int .i64 m6,.int .i64 m7,.rs (5,0) cp,.rs (4,0) cl,.rs (3,0) cd]]))
 (grd (decide (0 ≤ 0) && decide (0 < ni (List.length l5))) (am l5 0 fun x30 =>
 asI .i64 x30 fun n31 => grd (decide (0 ≤ n31) && decide (n31 < ni (List.length l14))) (am l14 (Int.toNat n31) fun x32 =>
 asAgg x32 fun l33 => am l33 1 fun x34 =>
 asI .i64 x34 fun n35 => grd (decide (0 ≤ 1) && decide (1 < ni (List.length l5))) (am l5 1 fun x36 =>
 asI .i64 x36 fun n37 => grd (decide (0 ≤ 2) && decide (2 < ni (List.length l5))) (am l5 2 fun x38 =>
 asI .i64 x38 fun n39 => grd (decide (0 ≤ 3) && decide (3 < ni (List.length l5))) (am l5 3 fun x40 =>
 asI .i64 x40 fun n41 => grd (decide (0 ≤ 0) && decide (0 < ni (List.length l))) (am l 0 fun x42 =>
 asI .i64 x42 fun n43 => ac V 185 [.op [.os (5,0) l14,.int .i64 n35,.int .i64 n37,.int .i64 n39,.int .i64 n41,.int .i64 m5,.int .i64 m6,.int .i64 m7,.rs (5,0) cp,.rs (4,0) cl,.rs (3,0) cd],.int .i64 n43] fun x44 l45 =>
 b6 x44 fun l46 => unn l46 (unc l45 fun x47 l48 => tk6 x47 fun l52 n55 n58 n61 n64 n67 n70 n73 l76 l79 l82 => (unn l48 (some ((.int .i64 (0)),[.op [.os (5,0) l52,.int .i64 n55,.int .i64 n58,.int .i64 n61,.int .i64 n64,.int .i64 n67,.int .i64 n70,.int .i64 n73,.rs (5,0) l76,.rs (4,0) l79,.rs (3,0) l82]]))))))))))))))))))))))) := by
  exact (ay Tryz.func206 rfl _).trans (by kernel_rfl)
theorem sq (p : List D) (m1 m2 m3 m4 m5 m6 m7 : Int) (cp cl cd : List D) (f : Int) (l : List D) : V 184 [.op [.os (5,0) p,.int .i64 m1,.int .i64 m2,.int .i64 m3,.int .i64 m4,.int .i64 m5,.int .i64 m6,.int .i64 m7,.rs (5,0) cp,.rs (4,0) cl,.rs (3,0) cd],.int .i64 f,.rs (1,0) l] =
 grd (decide (0 ≤ f) && decide (f < ni (List.length p))) (am p (Int.toNat f) fun x0 =>
 tk1 x0 fun n4 n7 s10 n13 n16 => (br (n4 == 6)
 (ac V 204 [.op [.os (5,0) p,.int .i64 m1,.int .i64 m2,.int .i64 m3,.int .i64 m4,.int .i64 m5,.int .i64 m6,.int .i64 m7,.rs (5,0) cp,.rs (4,0) cl,.rs (3,0) cd],.agg [.int .i64 n4,.int .i64 n7,.str s10,.int .i64 n13,.int .i64 n16],.rs (1,0) l] fun x17 l18 =>
 asI .i64 x17 fun n19 => unc l18 fun x20 l21 => tk6 x20 fun l25 n28 n31 n34 n37 n40 n43 n46 l49 l52 l55 => (unn l21 (some ((.int .i64 n19),[.op [.os (5,0) l25,.int .i64 n28,.int .i64 n31,.int .i64 n34,.int .i64 n37,.int .i64 n40,.int .i64 n43,.int .i64 n46,.rs (5,0) l49,.rs (4,0) l52,.rs (3,0) l55]]))))
 (br (n4 == 8)
 (ac V 205 [.op [.os (5,0) p,.int .i64 m1,.int .i64 m2,.int .i64 m3,.int .i64 m4,.int .i64 m5,.int .i64 m6,.int .i64 m7,.rs (5,0) cp,.rs (4,0) cl,.rs (3,0) cd],.int .i64 n7,.rs (1,0) l] fun x56 l57 =>
 asI .i64 x56 fun n58 => unc l57 fun x59 l60 => tk6 x59 fun l64 n67 n70 n73 n76 n79 n82 n85 l88 l91 l94 => (unn l60 (some ((.int .i64 n58),[.op [.os (5,0) l64,.int .i64 n67,.int .i64 n70,.int .i64 n73,.int .i64 n76,.int .i64 n79,.int .i64 n82,.int .i64 n85,.rs (5,0) l88,.rs (4,0) l91,.rs (3,0) l94]]))))
 (br (n4 == 7)
 (ac V 206 [.op [.os (5,0) p,.int .i64 m1,.int .i64 m2,.int .i64 m3,.int .i64 m4,.int .i64 m5,.int .i64 m6,.int .i64 m7,.rs (5,0) cp,.rs (4,0) cl,.rs (3,0) cd],.int .i64 n13,.rs (1,0) l] fun x95 l96 =>
 asI .i64 x95 fun n97 => unc l96 fun x98 l99 => tk6 x98 fun l103 n106 n109 n112 n115 n118 n121 n124 l127 l130 l133 => (unn l99 (some ((.int .i64 n97),[.op [.os (5,0) l103,.int .i64 n106,.int .i64 n109,.int .i64 n112,.int .i64 n115,.int .i64 n118,.int .i64 n121,.int .i64 n124,.rs (5,0) l127,.rs (4,0) l130,.rs (3,0) l133]]))))
 (some ((.int .i64 (3)),[.op [.os (5,0) p,.int .i64 m1,.int .i64 m2,.int .i64 m3,.int .i64 m4,.int .i64 m5,.int .i64 m6,.int .i64 m7,.rs (5,0) cp,.rs (4,0) cl,.rs (3,0) cd]])))))) := by
  exact (ay Tryz.func184 rfl _).trans (by kernel_rfl)
theorem yM (a0_ a1_0 a1_1 : Int) (a1_2 : ByteArray) (a1_3 a1_4 a2_0 a2_1 : Int) (a2_2 : ByteArray) (a2_3 a2_4 : Int) : V 250 [.int .i64 a0_,.agg [.int .i64 a1_0,.int .i64 a1_1,.str a1_2,.int .i64 a1_3,.int .i64 a1_4],.agg [.int .i64 a2_0,.int .i64 a2_1,.str a2_2,.int .i64 a2_3,.int .i64 a2_4]] =
 br (a1_0 != 3)
 (some ((.tup [.agg [.int .i64 (0),.int .i64 (0),.str ({ data := #[] }),.int .i64 (0),.int .i64 (0)],.int .i64 (3)]),[]))
 (br (a2_0 != 3)
 (some ((.tup [.agg [.int .i64 (0),.int .i64 (0),.str ({ data := #[] }),.int .i64 (0),.int .i64 (0)],.int .i64 (3)]),[]))
 (br (a0_ == 2)
 (ac V 62 [(.int .i64 (IntKind.wrap IntKind.i64 (a1_1 - a2_1))),.int .i64 (-1000000000),.int .i64 (1000000000)] fun x0 l1 =>
 asB x0 fun b2 => unn l1 (br (!b2)
 (some ((.tup [.agg [.int .i64 (0),.int .i64 (0),.str ({ data := #[] }),.int .i64 (0),.int .i64 (0)],.int .i64 (4)]),[]))
 (some ((.tup [(.agg [.int .i64 (3),(.int .i64 (IntKind.wrap IntKind.i64 (a1_1 - a2_1))),.str ({ data := #[] }),.int .i64 (0),.int .i64 (0)]),.int .i64 (0)]),[]))))
 (br (a0_ == 3)
 (ac V 62 [(.int .i64 (IntKind.wrap IntKind.i64 (a1_1 * a2_1))),.int .i64 (-1000000000),.int .i64 (1000000000)] fun x3 l4 =>
 asB x3 fun b5 => unn l4 (br (!b5)
 (some ((.tup [.agg [.int .i64 (0),.int .i64 (0),.str ({ data := #[] }),.int .i64 (0),.int .i64 (0)],.int .i64 (4)]),[]))
 (some ((.tup [(.agg [.int .i64 (3),(.int .i64 (IntKind.wrap IntKind.i64 (a1_1 * a2_1))),.str ({ data := #[] }),.int .i64 (0),.int .i64 (0)]),.int .i64 (0)]),[]))))
 (br (a0_ == 4)
 (ac V 251 [(.bool (decide (a1_1 < a2_1)))] fun x6 l7 =>
 tk1 x6 fun n11 n14 s17 n20 n23 => (unn l7 (some ((.tup [.agg [.int .i64 n11,.int .i64 n14,.str s17,.int .i64 n20,.int .i64 n23],.int .i64 (0)]),[]))))
 (br (a0_ == 5)
 (ac V 251 [.bool (a1_1 == a2_1)] fun x24 l25 =>
 tk1 x24 fun n29 n32 s35 n38 n41 => (unn l25 (some ((.tup [.agg [.int .i64 n29,.int .i64 n32,.str s35,.int .i64 n38,.int .i64 n41],.int .i64 (0)]),[]))))
 (ac V 62 [(.int .i64 (IntKind.wrap IntKind.i64 (a1_1 + a2_1))),.int .i64 (-1000000000),.int .i64 (1000000000)] fun x42 l43 =>
 asB x42 fun b44 => unn l43 (br (!b44)
 (some ((.tup [.agg [.int .i64 (0),.int .i64 (0),.str ({ data := #[] }),.int .i64 (0),.int .i64 (0)],.int .i64 (4)]),[]))
 (some ((.tup [(.agg [.int .i64 (3),(.int .i64 (IntKind.wrap IntKind.i64 (a1_1 + a2_1))),.str ({ data := #[] }),.int .i64 (0),.int .i64 (0)]),.int .i64 (0)]),[]))))))))) := by
  exact (ay Tryz.func250 rfl _).trans (by kernel_rfl)
theorem q9 (p : List D) (m1 m2 m3 m4 m5 m6 m7 : Int) (cp cl cd : List D) (k n : Int) (s : ByteArray) (a b : Int) (l : List D) : V 204 [.op [.os (5,0) p,.int .i64 m1,.int .i64 m2,.int .i64 m3,.int .i64 m4,.int .i64 m5,.int .i64 m6,.int .i64 m7,.rs (5,0) cp,.rs (4,0) cl,.rs (3,0) cd],.agg [.int .i64 k,.int .i64 n,.str s,.int .i64 a,.int .i64 b],.rs (1,0) l] =
 grd (!decide (8 = 0)) (br (Int.tmod n (8) != ni (List.length l))
 (some ((.int .i64 (2)),[.op [.os (5,0) p,.int .i64 m1,.int .i64 m2,.int .i64 m3,.int .i64 m4,.int .i64 m5,.int .i64 m6,.int .i64 m7,.rs (5,0) cp,.rs (4,0) cl,.rs (3,0) cd]]))
 (grd (!decide (8 = 0)) (ac V 57 [.agg [.rs (5,0) cp,.rs (4,0) cl,.rs (3,0) cd],(.int .i64 (IntKind.wrap IntKind.i64 (Int.tdiv n (8))))] fun x0 l1 =>
 asB x0 fun b2 => unn l1 (br (!b2)
 (some ((.int .i64 (7)),[.op [.os (5,0) p,.int .i64 m1,.int .i64 m2,.int .i64 m3,.int .i64 m4,.int .i64 m5,.int .i64 m6,.int .i64 m7,.rs (5,0) cp,.rs (4,0) cl,.rs (3,0) cd]]))
 (ac V 157 [.op [.os (5,0) p],(.agg [.int .i64 (3),(.int .i64 (IntKind.wrap IntKind.i64 (m1 + 1))),.str ({ data := #[] }),.int .i64 (0),.int .i64 (0)])] fun x3 l4 =>
 asI .i64 x3 fun n5 => unc l4 fun x6 l7 => bz x6 fun l8 => unc l8 fun x9 l10 => aM (5,0) x9 fun l11 => unn l10 (unn l7 (ac V 222 [.op [.os (5,0) l11],.rs (1,0) [.int .i64 n5,.int .i64 m2,.int .i64 m3]] fun x12 l13 =>
 asI .i64 x12 fun n14 => unc l13 fun x15 l16 => bz x15 fun l17 => unc l17 fun x18 l19 => aM (5,0) x18 fun l20 => unn l19 (unn l16 (ac V 94 [.op [.os (5,0) l20],.int .i64 n14,.int .i64 m4] fun x21 l22 =>
 asI .i64 x21 fun n23 => unc l22 fun x24 l25 => bz x24 fun l26 => unc l26 fun x27 l28 => aM (5,0) x27 fun l29 => unn l28 (unn l25 (ac V 222 [.op [.os (5,0) l29],.rs (1,0) l] fun x30 l31 =>
 asI .i64 x30 fun n32 => unc l31 fun x33 l34 => bz x33 fun l35 => unc l35 fun x36 l37 => aM (5,0) x36 fun l38 => unn l37 (unn l34 (ac V 94 [.op [.os (5,0) l38],.int .i64 n32,.int .i64 a] fun x39 l40 =>
 asI .i64 x39 fun n41 => unc l40 fun x42 l43 => bz x42 fun l44 => unc l44 fun x45 l46 => aM (5,0) x45 fun l47 => unn l46 (unn l43 (ac V 157 [.op [.os (5,0) l47],(.agg [.int .i64 (1),.int .i64 (0),.str ({ data := #[] }),.int .i64 (0),.int .i64 (0)])] fun x48 l49 =>
 asI .i64 x48 fun n50 => unc l49 fun x51 l52 => bz x51 fun l53 => unc l53 fun x54 l55 => aM (5,0) x54 fun l56 => unn l55 (unn l52 (grd (!decide (8 = 0)) (some ((.int .i64 (0)),[(.op [.os (5,0) l56,(.int .i64 (IntKind.wrap IntKind.i64 (Int.tdiv n (8)))),.int .i64 n50,.int .i64 n41,.int .i64 n23,.int .i64 m5,.int .i64 m6,.int .i64 m7,.rs (5,0) cp,.rs (4,0) cl,.rs (3,0) cd])]))))))))))))))))))) := by
  exact (ay Tryz.func204 rfl _).trans (by kernel_rfl)
theorem i9 (p0 p1 p2 : Int) (p3 p4 p5 : List D) (p6 p7 : Int) (p8 : ByteArray) (p9 p10 : Int) : bM p0 p1 p2 p3 p4 p5 p6 p7 p8 p9 p10 =
 br (decide (p2 < p0))
 (grd (decide (0 ≤ p2) && decide (p2 < ni (List.length p5))) (am p5 (Int.toNat p2) fun x25 =>
 tk1 x25 fun n29 n32 s35 n38 n41 => (br (n29 == p6 && (n32 == p7 && (aQ s35 p8 && (n38 == p9 && (n41 == p10 && true)))))
 (grd (decide (ni (List.length (p5 ++ [D.agg [D.int IntKind.i64 p6,D.int IntKind.i64 p7,D.str p8,D.int IntKind.i64 p9,D.int IntKind.i64 p10]])) ≤ LIM)) (nam (p5 ++ [D.agg [D.int IntKind.i64 p6,D.int IntKind.i64 p7,D.str p8,D.int IntKind.i64 p9,D.int IntKind.i64 p10]]) fun l42 =>
 grd (decide (ni (List.length (p4 ++ [D.int IntKind.i64 p2])) ≤ LIM)) (nam (p4 ++ [D.int IntKind.i64 p2]) fun l43 =>
 dn (IntKind.wrap IntKind.i64 (p0 + 1)) p3 l43 l42)))
 (bM p0 p1 (IntKind.wrap IntKind.i64 (p2 + 1)) p3 p4 p5 p6 p7 p8 p9 p10))))
 (grd (decide (ni (List.length (p5 ++ [D.agg [D.int IntKind.i64 p6,D.int IntKind.i64 p7,D.str p8,D.int IntKind.i64 p9,D.int IntKind.i64 p10]])) ≤ LIM)) (nam (p5 ++ [D.agg [D.int IntKind.i64 p6,D.int IntKind.i64 p7,D.str p8,D.int IntKind.i64 p9,D.int IntKind.i64 p10]]) fun l44 =>
 grd (decide (ni (List.length (p4 ++ [D.int IntKind.i64 p1])) ≤ LIM)) (nam (p4 ++ [D.int IntKind.i64 p1]) fun l45 =>
 dn (IntKind.wrap IntKind.i64 (p0 + 1)) p3 l45 l44))) := by
  exact (bQ _ _ _).trans (by kernel_rfl)
theorem wj (a0_0 : List D) (a0_1 a0_2 a0_3 a0_4 a0_5 a0_6 a0_7 : Int) (a1_0 : List D) (a1_1 a1_2 a1_3 a1_4 a1_5 a1_6 a1_7 : Int) : V 38 [.agg [.rs (5,0) a0_0,.int .i64 a0_1,.int .i64 a0_2,.int .i64 a0_3,.int .i64 a0_4,.int .i64 a0_5,.int .i64 a0_6,.int .i64 a0_7],.agg [.rs (5,0) a1_0,.int .i64 a1_1,.int .i64 a1_2,.int .i64 a1_3,.int .i64 a1_4,.int .i64 a1_5,.int .i64 a1_6,.int .i64 a1_7]] =
 ac V 105 [.agg [.rs (5,0) a0_0],(.agg [.rs (5,0) a1_0])] fun x0 l1 =>
 asB x0 fun b2 => unn l1 (br (!b2)
 (some ((.bool false),[]))
 (br (a0_1 != a1_1)
 (some ((.bool false),[]))
 (br (a0_2 != a1_2)
 (some ((.bool false),[]))
 (br (a0_3 != a1_3)
 (some ((.bool false),[]))
 (br (a0_4 != a1_4)
 (some ((.bool false),[]))
 (br (a0_5 != a1_5)
 (some ((.bool false),[]))
 (br (a0_6 != a1_6)
 (some ((.bool false),[]))
 (br (a0_7 != a1_7)
 (some ((.bool false),[]))
 (some ((.bool true),[])))))))))) := by
  exact (ay Tryz.func38 rfl _).trans (by kernel_rfl)
theorem j4 (p0 : List D) (p1 : Int) (p2 : List D) : gk p0 p1 p2 =
 br (decide (p1 < ni (List.length p0)))
 (grd (decide (0 ≤ p1) && decide (p1 < ni (List.length p0))) (am p0 (Int.toNat p1) fun x0 =>
 wt x0 fun n4 n7 n10 s13 => (ac V 164 [.agg [.int .i64 n4,.int .i64 n7,.int .i64 n10,.str s13]] fun x14 l15 =>
 wt x14 fun n19 n22 n25 s28 => (unn l15 (grd (decide (0 ≤ p1) && decide (p1 < ni (List.length p2))) (am p2 (Int.toNat p1) fun _ =>
 nam (List.set p2 (Int.toNat p1) (D.agg [D.int IntKind.i64 n19,D.int IntKind.i64 n22,D.int IntKind.i64 n25,D.str s28])) fun l30 =>
 gk p0 (IntKind.wrap IntKind.i64 (p1 + 1)) l30))))))
 (some ((.os (4,0) p2),[])) := by
  exact (bQ _ _ _).trans (by kernel_rfl)
theorem po (p : List D) (m1 m2 m3 m4 m5 m6 m7 : Int) (cp cl cd : List D) (k : Int) : V 132 [.op [.os (5,0) p,.int .i64 m1,.int .i64 m2,.int .i64 m3,.int .i64 m4,.int .i64 m5,.int .i64 m6,.int .i64 m7,.rs (5,0) cp,.rs (4,0) cl,.rs (3,0) cd],.int .i64 k] =
 ac V 57 [.agg [.rs (5,0) cp,.rs (4,0) cl,.rs (3,0) cd],(.int .i64 (IntKind.wrap IntKind.i64 (m1 + 1)))] fun x0 l1 =>
 asB x0 fun b2 => unn l1 (br (!b2)
 (some ((.int .i64 (7)),[.op [.os (5,0) p,.int .i64 m1,.int .i64 m2,.int .i64 m3,.int .i64 m4,.int .i64 m5,.int .i64 m6,.int .i64 m7,.rs (5,0) cp,.rs (4,0) cl,.rs (3,0) cd]]))
 (dp (IntKind.wrap IntKind.i64 (k + 1)) (0) m1 m2 m3 m4 m5 m6 m7 cp cl cd [] p)) := by
  exact (ay Tryz.func132 rfl _).trans (by kernel_rfl)
theorem ja (p0 : List D) (p1 : ByteArray) (p2 p3 : Int) : eZ p0 p1 p2 p3 =
 br (decide (p3 < p2))
 (grd (decide (0 ≤ p3) && decide (p3 < ni (List.length p0))) (am p0 (Int.toNat p3) fun x0 =>
 wk x0 fun s4 n7 n10 => (ac V 179 [.agg [.str s4,.int .i64 n7,.int .i64 n10],(.bp [.str p1])] fun x11 l12 =>
 asB x11 fun b13 => unn l12 (br b13
 (some ((.int .i64 p3),[]))
 (eZ p0 p1 p2 (IntKind.wrap IntKind.i64 (p3 + 1)))))))
 (some ((.int .i64 (-1)),[])) := by
  exact (bQ _ _ _).trans (by kernel_rfl)
theorem Dm (a0_0 a0_1 : Int) (a0_2 : ByteArray) (a0_3 a0_4 a1_0 a1_1 : Int) (a1_2 : ByteArray) (a1_3 a1_4 : Int) : V 200 [.agg [.int .i64 a0_0,.int .i64 a0_1,.str a0_2,.int .i64 a0_3,.int .i64 a0_4],.agg [.int .i64 a1_0,.int .i64 a1_1,.str a1_2,.int .i64 a1_3,.int .i64 a1_4]] =
 br (a0_0 != a1_0)
 (some ((.bool false),[]))
 (br (a0_1 != a1_1)
 (some ((.bool false),[]))
 (br (!aQ a0_2 a1_2)
 (some ((.bool false),[]))
 (br (a0_3 != a1_3)
 (some ((.bool false),[]))
 (br (a0_4 != a1_4)
 (some ((.bool false),[]))
 (some ((.bool true),[])))))) := by
  exact (ay Tryz.func200 rfl _).trans (by kernel_rfl)
theorem CX (cp cl cd p : List D) (m1 m2 m3 m4 m5 m6 m7 k nx : Int) : V 219 [.agg [.rs (5,0) cp,.rs (4,0) cl,.rs (3,0) cd],.op [.os (5,0) p,.int .i64 m1,.int .i64 m2,.int .i64 m3,.int .i64 m4,.int .i64 m5,.int .i64 m6,.int .i64 m7],.int .i64 k,.int .i64 nx] =
 grd (decide (0 ≤ k) && decide (k ≤ LIM)) (iZ nx (IntKind.wrap IntKind.i64 (k - 1)) m1 m2 m3 m4 m5 m6 m7 cp cl cd (List.replicate (Int.toNat k) (D.int IntKind.i64 (0))) p) := by
  exact (ay Tryz.func219 rfl _).trans (by kernel_rfl)
theorem pa (a0_0 : List D) (a0_1 a0_2 a0_3 a0_4 a0_5 a0_6 a0_7 a1_ : Int) : V 34 [.agg [.rs (5,0) a0_0,.int .i64 a0_1,.int .i64 a0_2,.int .i64 a0_3,.int .i64 a0_4,.int .i64 a0_5,.int .i64 a0_6,.int .i64 a0_7],.int .i64 a1_] =
 ac V 98 [.agg [.rs (5,0) a0_0],.int .i64 a1_] fun x0 l1 =>
 asI .i64 x0 fun n2 => unn l1 (br (decide (n2 < 0))
 (some ((.int .i64 (-1)),[]))
 (some ((.int .i64 n2),[]))) := by
  exact (ay Tryz.func34 rfl _).trans (by kernel_rfl)
theorem C6 (a0_0 a1_ : List D) : V 86 [.agg [.rs (5,0) a0_0],.rs (1,0) a1_] =
 ac V 149 [.agg [.rs (5,0) a0_0],.rs (1,0) a1_] fun x0 l1 =>
 aM (1,0) x0 fun l2 => unn l1 (ac V 148 [.op [.os (5,0) []],(.agg [.rs (5,0) a0_0]),.rs (1,0) l2] fun x3 l4 =>
 aM (1,0) x3 fun l5 => unc l4 fun x6 l7 => bz x6 fun l8 => unc l8 fun x9 l10 => aM (5,0) x9 fun l11 => unn l10 (unn l7 (il a1_ (0) l5 [] l11))) := by
  exact (ay Tryz.func86 rfl _).trans (by kernel_rfl)
theorem md (p0 : Int) (p1 p2 p3 : List D) : iL p0 p1 p2 p3 =
 br (decide (p0 < ni (List.length p2)))
 (ac V 127 [.agg [.rs (5,0) p1,.rs (4,0) p2,.rs (3,0) p3],.int .i64 p0] fun x3 l4 =>
 asB x3 fun b5 => unn l4 (br (!b5)
 (some ((.bool false),[]))
 (iL (IntKind.wrap IntKind.i64 (p0 + 1)) p1 p2 p3)))
 (iv (0) p1 p2 p3) := by
  exact (bQ _ _ _).trans (by kernel_rfl)
theorem BH (a0_0 a1_0 : List D) : V 105 [.agg [.rs (5,0) a0_0],.agg [.rs (5,0) a1_0]] =
 ac V 166 [.rs (5,0) a0_0,.rs (5,0) a1_0] fun x0 l1 =>
 asB x0 fun b2 => unn l1 (br (!b2)
 (some ((.bool false),[]))
 (some ((.bool true),[]))) := by
  exact (ay Tryz.func105 rfl _).trans (by kernel_rfl)
theorem lg (a0_ : List D) (a1_ : Int) : V 203 [.rs (1,0) a0_,.int .u8 a1_] =
 ac V 221 [.rs (1,0) a0_,.int .u8 a1_] fun x0 l1 =>
 asI .i64 x0 fun n2 => unn l1 (some ((.bool (decide (n2 ≥ 0))),[])) := by
  exact (ay Tryz.func203 rfl _).trans (by kernel_rfl)
theorem GU (a0_0 : ByteArray) (a0_1 a0_2 : Int) : V 165 [.agg [.str a0_0,.int .i64 a0_1,.int .i64 a0_2]] =
 some ((.agg [.str a0_0,.int .i64 a0_1,.int .i64 a0_2]),[]) := by
  exact (ay Tryz.func165 rfl _).trans (by kernel_rfl)
theorem CI (a0_ : ByteArray) : V 232 [.str a0_] =
 ac V 239 [] fun x0 l1 =>
 aM (1,0) x0 fun l2 => unn l1 (i6 a0_ (1) l2) := by
  exact (ay Tryz.func232 rfl _).trans (by kernel_rfl)
theorem BM (a0_0 : List D) : V 55 [.agg [.rs (5,0) a0_0]] =
 iw a0_0 (ni (List.length a0_0)) (0) a0_0 := by
  exact (ay Tryz.func55 rfl _).trans (by kernel_rfl)
end Go.Eng
/-! the functions as the interpreter has them -/
namespace Go.Eng
open Go.Proofs Go.Proofs.Tryz
set_option maxRecDepth 100000
theorem kJ (p0 : List D) (p1 p2 : Int) (p3 p4 : List D) : aY p0 p1 p2 p3 p4 =
 br (decide (p2 < p1))
 (grd (decide (0 ≤ p2) && decide (p2 < ni (List.length p0))) (am p0 (Int.toNat p2) fun x0 =>
 tk1 x0 fun n4 n7 s10 n13 n16 => (br (n4 == 5)
 (grd (decide (0 ≤ n13) && decide (n13 < ni (List.length p4))) (am p4 (Int.toNat n13) fun x17 =>
 asI .i64 x17 fun n18 => grd (decide (0 ≤ n16) && decide (n16 < ni (List.length p4))) (am p4 (Int.toNat n16) fun x19 =>
 asI .i64 x19 fun n20 => br (!gn p3 [D.int IntKind.i64 n4,D.int IntKind.i64 n7,D.str s10,D.int IntKind.i64 n18,D.int IntKind.i64 n20])
 (grd (!gn p3 [D.int IntKind.i64 n4,D.int IntKind.i64 n7,D.str s10,D.int IntKind.i64 n18,D.int IntKind.i64 n20]) (nam (pf p3 [D.int IntKind.i64 n4,D.int IntKind.i64 n7,D.str s10,D.int IntKind.i64 n18,D.int IntKind.i64 n20] p2) fun l21 =>
 grd (decide (ni (List.length (p4 ++ [D.int IntKind.i64 p2])) ≤ LIM)) (nam (p4 ++ [D.int IntKind.i64 p2]) fun l22 =>
 aY p0 p1 (IntKind.wrap IntKind.i64 (p2 + 1)) l21 l22)))
 (grd (decide (ni (List.length (p4 ++ [D.int IntKind.i64 (iu p3 [D.int IntKind.i64 n4,D.int IntKind.i64 n7,D.str s10,D.int IntKind.i64 n18,D.int IntKind.i64 n20])])) ≤ LIM)) (nam (p4 ++ [D.int IntKind.i64 (iu p3 [D.int IntKind.i64 n4,D.int IntKind.i64 n7,D.str s10,D.int IntKind.i64 n18,D.int IntKind.i64 n20])]) fun l23 =>
 aY p0 p1 (IntKind.wrap IntKind.i64 (p2 + 1)) p3 l23)))))
 (br (n4 == 6)
 (br (n4 == 6)
 (grd (decide (0 ≤ n13) && decide (n13 < ni (List.length p4))) (am p4 (Int.toNat n13) fun x24 =>
 asI .i64 x24 fun n25 => br (!gn p3 [D.int IntKind.i64 n4,D.int IntKind.i64 n7,D.str s10,D.int IntKind.i64 n25,D.int IntKind.i64 n16])
 (grd (!gn p3 [D.int IntKind.i64 n4,D.int IntKind.i64 n7,D.str s10,D.int IntKind.i64 n25,D.int IntKind.i64 n16]) (nam (pf p3 [D.int IntKind.i64 n4,D.int IntKind.i64 n7,D.str s10,D.int IntKind.i64 n25,D.int IntKind.i64 n16] p2) fun l26 =>
 grd (decide (ni (List.length (p4 ++ [D.int IntKind.i64 p2])) ≤ LIM)) (nam (p4 ++ [D.int IntKind.i64 p2]) fun l27 =>
 aY p0 p1 (IntKind.wrap IntKind.i64 (p2 + 1)) l26 l27)))
 (grd (decide (ni (List.length (p4 ++ [D.int IntKind.i64 (iu p3 [D.int IntKind.i64 n4,D.int IntKind.i64 n7,D.str s10,D.int IntKind.i64 n25,D.int IntKind.i64 n16])])) ≤ LIM)) (nam (p4 ++ [D.int IntKind.i64 (iu p3 [D.int IntKind.i64 n4,D.int IntKind.i64 n7,D.str s10,D.int IntKind.i64 n25,D.int IntKind.i64 n16])]) fun l28 =>
 aY p0 p1 (IntKind.wrap IntKind.i64 (p2 + 1)) p3 l28))))
 (br (!gn p3 [D.int IntKind.i64 n4,D.int IntKind.i64 n7,D.str s10,D.int IntKind.i64 n13,D.int IntKind.i64 n16])
 (grd (!gn p3 [D.int IntKind.i64 n4,D.int IntKind.i64 n7,D.str s10,D.int IntKind.i64 n13,D.int IntKind.i64 n16]) (nam (pf p3 [D.int IntKind.i64 n4,D.int IntKind.i64 n7,D.str s10,D.int IntKind.i64 n13,D.int IntKind.i64 n16] p2) fun l29 =>
 grd (decide (ni (List.length (p4 ++ [D.int IntKind.i64 p2])) ≤ LIM)) (nam (p4 ++ [D.int IntKind.i64 p2]) fun l30 =>
 aY p0 p1 (IntKind.wrap IntKind.i64 (p2 + 1)) l29 l30)))
 (grd (decide (ni (List.length (p4 ++ [D.int IntKind.i64 (iu p3 [D.int IntKind.i64 n4,D.int IntKind.i64 n7,D.str s10,D.int IntKind.i64 n13,D.int IntKind.i64 n16])])) ≤ LIM)) (nam (p4 ++ [D.int IntKind.i64 (iu p3 [D.int IntKind.i64 n4,D.int IntKind.i64 n7,D.str s10,D.int IntKind.i64 n13,D.int IntKind.i64 n16])]) fun l31 =>
 aY p0 p1 (IntKind.wrap IntKind.i64 (p2 + 1)) p3 l31))))
 (br (n4 == 7)
 (grd (decide (0 ≤ n13) && decide (n13 < ni (List.length p4))) (am p4 (Int.toNat n13) fun x32 =>
 asI .i64 x32 fun n33 => br (!gn p3 [D.int IntKind.i64 n4,D.int IntKind.i64 n7,D.str s10,D.int IntKind.i64 n33,D.int IntKind.i64 n16])
 (grd (!gn p3 [D.int IntKind.i64 n4,D.int IntKind.i64 n7,D.str s10,D.int IntKind.i64 n33,D.int IntKind.i64 n16]) (nam (pf p3 [D.int IntKind.i64 n4,D.int IntKind.i64 n7,D.str s10,D.int IntKind.i64 n33,D.int IntKind.i64 n16] p2) fun l34 =>
 grd (decide (ni (List.length (p4 ++ [D.int IntKind.i64 p2])) ≤ LIM)) (nam (p4 ++ [D.int IntKind.i64 p2]) fun l35 =>
 aY p0 p1 (IntKind.wrap IntKind.i64 (p2 + 1)) l34 l35)))
 (grd (decide (ni (List.length (p4 ++ [D.int IntKind.i64 (iu p3 [D.int IntKind.i64 n4,D.int IntKind.i64 n7,D.str s10,D.int IntKind.i64 n33,D.int IntKind.i64 n16])])) ≤ LIM)) (nam (p4 ++ [D.int IntKind.i64 (iu p3 [D.int IntKind.i64 n4,D.int IntKind.i64 n7,D.str s10,D.int IntKind.i64 n33,D.int IntKind.i64 n16])]) fun l36 =>
 aY p0 p1 (IntKind.wrap IntKind.i64 (p2 + 1)) p3 l36))))
 (br (!gn p3 [D.int IntKind.i64 n4,D.int IntKind.i64 n7,D.str s10,D.int IntKind.i64 n13,D.int IntKind.i64 n16])
 (grd (!gn p3 [D.int IntKind.i64 n4,D.int IntKind.i64 n7,D.str s10,D.int IntKind.i64 n13,D.int IntKind.i64 n16]) (nam (pf p3 [D.int IntKind.i64 n4,D.int IntKind.i64 n7,D.str s10,D.int IntKind.i64 n13,D.int IntKind.i64 n16] p2) fun l37 =>
 grd (decide (ni (List.length (p4 ++ [D.int IntKind.i64 p2])) ≤ LIM)) (nam (p4 ++ [D.int IntKind.i64 p2]) fun l38 =>
 aY p0 p1 (IntKind.wrap IntKind.i64 (p2 + 1)) l37 l38)))
 (grd (decide (ni (List.length (p4 ++ [D.int IntKind.i64 (iu p3 [D.int IntKind.i64 n4,D.int IntKind.i64 n7,D.str s10,D.int IntKind.i64 n13,D.int IntKind.i64 n16])])) ≤ LIM)) (nam (p4 ++ [D.int IntKind.i64 (iu p3 [D.int IntKind.i64 n4,D.int IntKind.i64 n7,D.str s10,D.int IntKind.i64 n13,D.int IntKind.i64 n16])]) fun l39 =>
 aY p0 p1 (IntKind.wrap IntKind.i64 (p2 + 1)) p3 l39))))))))
 (some ((.os (1,0) p4),[])) := by
  exact (bQ _ _ _).trans (by kernel_rfl)
theorem DC (a0_0 a0_1 : Int) (a0_2 : ByteArray) (a0_3 a0_4 a1_ : Int) : V 130 [.agg [.int .i64 a0_0,.int .i64 a0_1,.str a0_2,.int .i64 a0_3,.int .i64 a0_4],.int .i64 a1_] =
 ac V 62 [.int .i64 a0_3,.int .i64 (0),(.int .i64 (IntKind.wrap IntKind.i64 (a1_ - 1)))] fun x0 l1 =>
 asB x0 fun b2 => unn l1 (ac V 62 [.int .i64 a0_4,.int .i64 (0),(.int .i64 (IntKind.wrap IntKind.i64 (a1_ - 1)))] fun x3 l4 =>
 asB x3 fun b5 => unn l4 (br (a0_0 == 1)
 (some ((.bool (a0_0 == 1 && (a0_1 == 0 && (aQ a0_2 { data := #[] } && (a0_3 == 0 && (a0_4 == 0 && true)))))),[]))
 (br (a0_0 == 2)
 (ac V 62 [.int .i64 a0_1,.int .i64 (0),.int .i64 (1)] fun x6 l7 =>
 asB x6 fun b8 => unn l7 (br b8
 (some ((.bool (a0_0 == 2 && (a0_1 == a0_1 && (aQ a0_2 { data := #[] } && (a0_3 == 0 && (a0_4 == 0 && true)))))),[]))
 (some ((.bool false),[]))))
 (br (a0_0 == 3)
 (ac V 62 [.int .i64 a0_1,.int .i64 (-1000000000),.int .i64 (1000000000)] fun x9 l10 =>
 asB x9 fun b11 => unn l10 (br b11
 (some ((.bool (a0_0 == 3 && (a0_1 == a0_1 && (aQ a0_2 { data := #[] } && (a0_3 == 0 && (a0_4 == 0 && true)))))),[]))
 (some ((.bool false),[]))))
 (br (a0_0 == 4)
 (ac V 128 [.str a0_2] fun x12 l13 =>
 asB x12 fun b14 => unn l13 (br b14
 (some ((.bool (a0_0 == 4 && (a0_1 == 0 && (aQ a0_2 a0_2 && (a0_3 == 0 && (a0_4 == 0 && true)))))),[]))
 (some ((.bool false),[]))))
 (br (a0_0 == 5)
 (br b2
 (br b5
 (br (a0_1 == 0)
 (some ((.bool (aQ a0_2 { data := #[] })),[]))
 (some ((.bool false),[])))
 (some ((.bool false),[])))
 (some ((.bool false),[])))
 (br (a0_0 == 6)
 (br b2
 (ac V 62 [.int .i64 a0_1,.int .i64 (0),.int .i64 (1000000000)] fun x15 l16 =>
 asB x15 fun b17 => unn l16 (br b17
 (br (a0_4 == 0)
 (some ((.bool (aQ a0_2 { data := #[] })),[]))
 (some ((.bool false),[])))
 (some ((.bool false),[]))))
 (some ((.bool false),[])))
 (br (a0_0 == 7)
 (br b2
 (br (a0_1 == 0)
 (br (a0_4 == 0)
 (some ((.bool (aQ a0_2 { data := #[] })),[]))
 (some ((.bool false),[])))
 (some ((.bool false),[])))
 (some ((.bool false),[])))
 (br (a0_0 == 8)
 (ac V 62 [.int .i64 a0_1,.int .i64 (0),.int .i64 (99)] fun x18 l19 =>
 asB x18 fun b20 => unn l19 (br b20
 (some ((.bool (a0_0 == 8 && (a0_1 == a0_1 && (aQ a0_2 { data := #[] } && (a0_3 == 0 && (a0_4 == 0 && true)))))),[]))
 (some ((.bool false),[]))))
 (br (a0_0 == 9)
 (ac V 62 [.int .i64 a0_1,.int .i64 (0),.int .i64 (1000000000)] fun x21 l22 =>
 asB x21 fun b23 => unn l22 (br b23
 (some ((.bool (a0_0 == 9 && (a0_1 == a0_1 && (aQ a0_2 { data := #[] } && (a0_3 == 0 && (a0_4 == 0 && true)))))),[]))
 (some ((.bool false),[]))))
 (some ((.bool false),[])))))))))))) := by
  exact (ay Tryz.func130 rfl _).trans (by kernel_rfl)
theorem wv (a0_0 a0_1 a0_2 a1_0 : List D) (a1_1 a1_2 a1_3 a1_4 a1_5 a1_6 a1_7 : Int) : V 14 [.agg [.rs (5,0) a0_0,.rs (4,0) a0_1,.rs (3,0) a0_2],.agg [.rs (5,0) a1_0,.int .i64 a1_1,.int .i64 a1_2,.int .i64 a1_3,.int .i64 a1_4,.int .i64 a1_5,.int .i64 a1_6,.int .i64 a1_7]] =
 ac V 54 [.agg [.rs (5,0) a0_0,.rs (4,0) a0_1,.rs (3,0) a0_2]] fun x0 l1 =>
 asB x0 fun b2 => unn l1 (br (!b2)
 (some ((.bool false),[]))
 (ac V 55 [.agg [.rs (5,0) a1_0]] fun x3 l4 =>
 asB x3 fun b5 => unn l4 (br (!b5)
 (some ((.bool false),[]))
 (ac V 56 [.agg [.rs (5,0) a1_0],.int .i64 a1_2] fun x6 l7 =>
 asB x6 fun b8 => unn l7 (br (!b8)
 (some ((.bool false),[]))
 (ac V 56 [.agg [.rs (5,0) a1_0],.int .i64 a1_3] fun x9 l10 =>
 asB x9 fun b11 => unn l10 (br (!b11)
 (some ((.bool false),[]))
 (ac V 56 [.agg [.rs (5,0) a1_0],.int .i64 a1_4] fun x12 l13 =>
 asB x12 fun b14 => unn l13 (br (!b14)
 (some ((.bool false),[]))
 (br (a1_5 == 0)
 (ac V 57 [.agg [.rs (5,0) a0_0,.rs (4,0) a0_1,.rs (3,0) a0_2],.int .i64 a1_1] fun x15 l16 =>
 asB x15 fun b17 => unn l16 (br b17
 (br (a1_6 == 0)
 (some ((.bool (a1_7 == 0)),[]))
 (some ((.bool false),[])))
 (some ((.bool false),[]))))
 (br (a1_5 == 1)
 (ac V 57 [.agg [.rs (5,0) a0_0,.rs (4,0) a0_1,.rs (3,0) a0_2],.int .i64 a1_1] fun x18 l19 =>
 asB x18 fun b20 => unn l19 (br b20
 (ac V 58 [.int .i64 a1_6,.int .i64 (13),.int .i64 (19)] fun x21 l22 =>
 asB x21 fun b23 => unn l22 (br b23
 (br (a1_6 != 18)
 (ac V 56 [.agg [.rs (5,0) a1_0],.int .i64 a1_7] fun x24 l25 =>
 asB x24 fun b26 => unn l25 (some ((.bool b26),[])))
 (some ((.bool false),[])))
 (some ((.bool false),[]))))
 (some ((.bool false),[]))))
 (br (a1_5 == 2)
 (br (a1_1 == 0)
 (br (a1_6 == 0)
 (ac V 56 [.agg [.rs (5,0) a1_0],.int .i64 a1_7] fun x27 l28 =>
 asB x27 fun b29 => unn l28 (some ((.bool b29),[])))
 (some ((.bool false),[])))
 (some ((.bool false),[])))
 (br (a1_5 == 3)
 (br (a1_1 == 0)
 (ac V 58 [.int .i64 a1_6,.int .i64 (1),.int .i64 (7)] fun x30 l31 =>
 asB x30 fun b32 => unn l31 (br b32
 (some ((.bool (a1_7 == 0)),[]))
 (some ((.bool false),[]))))
 (some ((.bool false),[])))
 (some ((.bool false),[]))))))))))))))) := by
  exact (ay Tryz.func14 rfl _).trans (by kernel_rfl)
theorem DD (a0_0 a0_1 a0_2 a1_0 : List D) (a1_1 a1_2 a1_3 a1_4 a1_5 a1_6 a1_7 a2_ : Int) : V 22 [.agg [.rs (5,0) a0_0,.rs (4,0) a0_1,.rs (3,0) a0_2],.agg [.rs (5,0) a1_0,.int .i64 a1_1,.int .i64 a1_2,.int .i64 a1_3,.int .i64 a1_4,.int .i64 a1_5,.int .i64 a1_6,.int .i64 a1_7],.int .i64 a2_] =
 ac V 14 [.agg [.rs (5,0) a0_0,.rs (4,0) a0_1,.rs (3,0) a0_2],(.agg [.rs (5,0) a1_0,.int .i64 a1_1,.int .i64 a1_2,.int .i64 a1_3,.int .i64 a1_4,.int .i64 a1_5,.int .i64 a1_6,.int .i64 a1_7])] fun x0 l1 =>
 asB x0 fun b2 => unn l1 (br (!b2)
 (ac V 17 [.agg [.rs (5,0) a0_0,.rs (4,0) a0_1,.rs (3,0) a0_2],(.agg [.rs (5,0) a1_0,.int .i64 a1_1,.int .i64 a1_2,.int .i64 a1_3,.int .i64 a1_4,.int .i64 a1_5,.int .i64 a1_6,.int .i64 a1_7])] fun x3 l4 =>
 tk3 x3 fun l8 n11 n14 n17 n20 n23 n26 n29 => (unn l4 (some ((.tup [.agg [.os (5,0) l8,.int .i64 n11,.int .i64 n14,.int .i64 n17,.int .i64 n20,.int .i64 n23,.int .i64 n26,.int .i64 n29],.int .i64 (0)]),[]))))
 (ac V 63 [.agg [.rs (5,0) a1_0,.int .i64 a1_1,.int .i64 a1_2,.int .i64 a1_3,.int .i64 a1_4,.int .i64 a1_5,.int .i64 a1_6,.int .i64 a1_7]] fun x30 l31 =>
 tk3 x30 fun l35 n38 n41 n44 n47 n50 n53 n56 => (unn l31 (ip a2_ (0) a0_0 a0_1 a0_2 n38 n41 n44 n47 n50 n53 n56 (0) (0) (0) (0) (0) (0) (0) l35)))) := by
  exact (ay Tryz.func22 rfl _).trans (by kernel_rfl)
theorem lL (p0 p1 : Int) (p2 p3 p4 : List D) (p5 p6 p7 p8 p9 p10 p11 p12 p13 p14 p15 p16 p17 p18 : Int) (p19 : List D) : ip p0 p1 p2 p3 p4 p5 p6 p7 p8 p9 p10 p11 p12 p13 p14 p15 p16 p17 p18 p19 =
 br (p9 == 0)
 (br (decide (p1 < mnI p0 (2000)))
 (ac V 64 [.agg [.rs (5,0) p2,.rs (4,0) p3,.rs (3,0) p4],(.agg [.rs (5,0) p19,.int .i64 p5,.int .i64 p6,.int .i64 p7,.int .i64 p8,.int .i64 p9,.int .i64 p10,.int .i64 p11])] fun x57 l58 =>
 tk3 x57 fun l62 n65 n68 n71 n74 n77 n80 n83 => (unn l58 (ac V 73 [.agg [.os (5,0) l62,.int .i64 n65,.int .i64 n68,.int .i64 n71,.int .i64 n74,.int .i64 n77,.int .i64 n80,.int .i64 n83]] fun x84 l85 =>
 tk3 x84 fun l89 n92 n95 n98 n101 n104 n107 n110 => (unn l85 (ip p0 (IntKind.wrap IntKind.i64 (p1 + 1)) p2 p3 p4 n92 n95 n98 n101 n104 n107 n110 p12 p13 p14 p15 p16 p17 p18 l89)))))
 (some ((.tup [.agg [.os (5,0) p19,.int .i64 p5,.int .i64 p6,.int .i64 p7,.int .i64 p8,.int .i64 p9,.int .i64 p10,.int .i64 p11],.int .i64 p1]),[])))
 (some ((.tup [.agg [.os (5,0) p19,.int .i64 p5,.int .i64 p6,.int .i64 p7,.int .i64 p8,.int .i64 p9,.int .i64 p10,.int .i64 p11],.int .i64 p1]),[])) := by
  exact (bQ _ _ _).trans (by kernel_rfl)
theorem i8 (p0 p1 : Int) (p2 : List D) : eU p0 p1 p2 =
 br (decide (p1 < ni (List.length p2)))
 (grd (decide (0 ≤ p1) && decide (p1 < ni (List.length p2))) (am p2 (Int.toNat p1) fun x0 =>
 asAgg x0 fun l1 => nam (List.set p2 (Int.toNat p1) (D.agg (List.take 0 l1 ++ [D.int IntKind.i64 p0] ++ List.drop 1 l1))) fun l2 =>
 grd (decide (0 ≤ p1) && decide (p1 < ni (List.length l2))) (am l2 (Int.toNat p1) fun x3 =>
 asAgg x3 fun l4 => nam (List.set l2 (Int.toNat p1) (D.agg (List.take 1 l4 ++ [D.int IntKind.i64 (IntKind.wrap IntKind.i64 (p0 + 1))] ++ List.drop 2 l4))) fun l5 =>
 grd (decide (0 ≤ p1) && decide (p1 < ni (List.length l5))) (am l5 (Int.toNat p1) fun x6 =>
 asAgg x6 fun l7 => nam (List.set l5 (Int.toNat p1) (D.agg (List.take 2 l7 ++ [D.int IntKind.i64 (IntKind.wrap IntKind.i64 (IntKind.wrap IntKind.i64 (p0 + 1) + 1))] ++ List.drop 3 l7))) fun l8 =>
 ac V 121 [(.int .i64 (IntKind.wrap IntKind.i64 (IntKind.wrap IntKind.i64 (IntKind.wrap IntKind.i64 (p0 + 1) + 1) + 1)))] fun x9 l10 =>
 asS x9 fun s11 => unn l10 (grd (decide (0 ≤ p1) && decide (p1 < ni (List.length l8))) (am l8 (Int.toNat p1) fun x12 =>
 asAgg x12 fun l13 => nam (List.set l8 (Int.toNat p1) (D.agg (List.take 3 l13 ++ [D.str s11] ++ List.drop 4 l13))) fun l14 =>
 eU (IntKind.wrap IntKind.i64 (IntKind.wrap IntKind.i64 (IntKind.wrap IntKind.i64 (IntKind.wrap IntKind.i64 (p0 + 1) + 1) + 1) + 1)) (IntKind.wrap IntKind.i64 (p1 + 1)) l14))))))
 (some ((.int .i64 p0),[.os (4,0) p2])) := by
  exact (bQ _ _ _).trans (by kernel_rfl)
theorem jz (p0 : Int) (p1 p2 p3 : List D) : dn p0 p1 p2 p3 =
 br (decide (p0 < ni (List.length p1)))
 (grd (decide (0 ≤ p0) && decide (p0 < ni (List.length p1))) (am p1 (Int.toNat p0) fun x0 =>
 tk1 x0 fun n4 n7 s10 n13 n16 => (br (n4 == 5)
 (grd (decide (0 ≤ n13) && decide (n13 < ni (List.length p2))) (am p2 (Int.toNat n13) fun x17 =>
 asI .i64 x17 fun n18 => grd (decide (0 ≤ n16) && decide (n16 < ni (List.length p2))) (am p2 (Int.toNat n16) fun x19 =>
 asI .i64 x19 fun n20 => bM p0 p0 (0) p1 p2 p3 n4 n7 s10 n18 n20)))
 (br (n4 == 6)
 (br (n4 == 6)
 (grd (decide (0 ≤ n13) && decide (n13 < ni (List.length p2))) (am p2 (Int.toNat n13) fun x21 =>
 asI .i64 x21 fun n22 => bM p0 p0 (0) p1 p2 p3 n4 n7 s10 n22 n16))
 (bM p0 p0 (0) p1 p2 p3 n4 n7 s10 n13 n16))
 (br (n4 == 7)
 (grd (decide (0 ≤ n13) && decide (n13 < ni (List.length p2))) (am p2 (Int.toNat n13) fun x23 =>
 asI .i64 x23 fun n24 => bM p0 p0 (0) p1 p2 p3 n4 n7 s10 n24 n16))
 (bM p0 p0 (0) p1 p2 p3 n4 n7 s10 n13 n16))))))
 (some ((.os (1,0) p2),[])) := by
  exact (bQ _ _ _).trans (by kernel_rfl)
theorem qZ (p0 : Int) (p1 p2 : List D) : gg p0 p1 p2 =
 grd (decide (0 ≤ p0) && decide (p0 < ni (List.length p1))) (am p1 (Int.toNat p0) fun x0 =>
 asAgg x0 fun l1 => am l1 0 fun x2 =>
 asI .i64 x2 fun n3 => br (n3 == 5)
 (grd (decide (0 ≤ p0) && decide (p0 < ni (List.length p1))) (am p1 (Int.toNat p0) fun x4 =>
 asAgg x4 fun l5 => am l5 3 fun x6 =>
 asI .i64 x6 fun n7 => grd (decide (ni (List.length (p2 ++ [D.int IntKind.i64 n7])) ≤ LIM)) (nam (p2 ++ [D.int IntKind.i64 n7]) fun l8 =>
 grd (decide (0 ≤ p0) && decide (p0 < ni (List.length p1))) (am p1 (Int.toNat p0) fun x9 =>
 asAgg x9 fun l10 => am l10 4 fun x11 =>
 asI .i64 x11 fun n12 => gg n12 p1 l8))))
 (grd (decide (0 ≤ p0) && decide (p0 < ni (List.length p1))) (am p1 (Int.toNat p0) fun x13 =>
 asAgg x13 fun l14 => am l14 0 fun x15 =>
 asI .i64 x15 fun n16 => br (n16 != 1)
 (some ((.tup [.os (1,0) [],.bool false]),[]))
 (some ((.tup [.os (1,0) p2,.bool true]),[]))))) := by
  exact (bQ _ _ _).trans (by kernel_rfl)
theorem ma (p0 : List D) (p1 p2 : Int) (p3 : List D) : i4 p0 p1 p2 p3 =
 br (decide (p2 ≥ 0))
 (grd (decide (0 ≤ p2) && decide (p2 < ni (List.length p0))) (am p0 (Int.toNat p2) fun x9 =>
 asI .i64 x9 fun n10 => ac V 158 [.op [.os (5,0) p3],(.agg [.int .i64 (5),.int .i64 (0),.str ({ data := #[] }),.int .i64 n10,.int .i64 p1])] fun x11 l12 =>
 asI .i64 x11 fun n13 => unc l12 fun x14 l15 => bz x14 fun l16 => unc l16 fun x17 l18 => aM (5,0) x17 fun l19 => unn l18 (unn l15 (i4 p0 n13 (IntKind.wrap IntKind.i64 (p2 - 1)) l19))))
 (some ((.int .i64 p1),[.op [.os (5,0) p3]])) := by
  exact (bQ _ _ _).trans (by kernel_rfl)
theorem yI (p : List D) (k n : Int) (s : ByteArray) (a b : Int) : V 157 [.op [.os (5,0) p],.agg [.int .i64 k,.int .i64 n,.str s,.int .i64 a,.int .i64 b]] =
 grd (decide (ni (List.length (p ++ [D.agg [D.int IntKind.i64 k,D.int IntKind.i64 n,D.str s,D.int IntKind.i64 a,D.int IntKind.i64 b]])) ≤ LIM)) (nam (p ++ [D.agg [D.int IntKind.i64 k,D.int IntKind.i64 n,D.str s,D.int IntKind.i64 a,D.int IntKind.i64 b]]) fun l0 =>
 some ((.int .i64 (IntKind.wrap IntKind.i64 (ni (List.length l0) - 1))),[.op [.os (5,0) l0]])) := by
  exact (ay Tryz.func157 rfl _).trans (by kernel_rfl)
theorem DR (a0_0 a0_1 a0_2 : List D) : V 59 [.agg [.rs (5,0) a0_0,.rs (4,0) a0_1,.rs (3,0) a0_2]] =
 ac V 60 [.agg [.rs (5,0) a0_0]] fun x0 l1 =>
 asB x0 fun b2 => unn l1 (br (!b2)
 (some ((.bool false),[]))
 (br (decide (ni (List.length a0_1) > 400))
 (some ((.bool false),[]))
 (br (decide (ni (List.length a0_2) > 20))
 (some ((.bool false),[]))
 (iL (0) a0_0 a0_1 a0_2)))) := by
  exact (ay Tryz.func59 rfl _).trans (by kernel_rfl)
theorem fc (p0 : List D) (p1 p2 p3 : Int) : cY p0 p1 p2 p3 =
 br (decide (p3 < p2))
 (grd (decide (0 ≤ p3) && decide (p3 < ni (List.length p0))) (am p0 (Int.toNat p3) fun x0 =>
 asI .u8 x0 fun n1 => br (p1 == n1)
 (some ((.int .i64 p3),[]))
 (cY p0 p1 p2 (IntKind.wrap IntKind.i64 (p3 + 1)))))
 (some ((.int .i64 (-1)),[])) := by
  exact (bQ _ _ _).trans (by kernel_rfl)
theorem zw (a0_0 a0_1 a0_2 : Int) (a0_3 : ByteArray) (a1_ : Int) : V 160 [.agg [.int .i64 a0_0,.int .i64 a0_1,.int .i64 a0_2,.str a0_3],.int .i64 a1_] =
 br (decide (IntKind.wrap IntKind.i64 (a1_ - ni (ByteArray.size a0_3)) < 0))
 (some ((.int .i64 (-1)),[]))
 (some ((.int .i64 (IntKind.wrap IntKind.i64 (a1_ - ni (ByteArray.size a0_3)))),[])) := by
  exact (ay Tryz.func160 rfl _).trans (by kernel_rfl)
theorem Dr (p q t : List D) : V 148 [.op [.os (5,0) p],.agg [.rs (5,0) q],.rs (1,0) t] =
 grd (decide (0 ≤ ni (List.length q)) && decide (ni (List.length q) ≤ LIM)) (cN t (0) q (List.replicate (Int.toNat (ni (List.length q))) (D.int IntKind.i64 (0))) p) := by
  exact (ay Tryz.func148 rfl _).trans (by kernel_rfl)
theorem rq (a0_ : List D) (a1_ : Int) : V 159 [.rs (5,0) a0_,.int .i64 a1_] =
 br (decide (IntKind.wrap IntKind.i64 (a1_ - ni (List.length a0_)) < 0))
 (some ((.int .i64 (-1)),[]))
 (gE a0_ (IntKind.wrap IntKind.i64 (a1_ - ni (List.length a0_))) (0)) := by
  exact (ay Tryz.func159 rfl _).trans (by kernel_rfl)
theorem Dn (a0_ a1_ a2_ : Int) : V 58 [.int .i64 a0_,.int .i64 a1_,.int .i64 a2_] =
 br (decide (a0_ ≥ a1_))
 (some ((.bool (decide (a0_ ≤ a2_))),[]))
 (some ((.bool false),[])) := by
  exact (ay Tryz.func58 rfl _).trans (by kernel_rfl)
theorem Ck (a0_ a1_ : List D) : V 107 [.rs (3,0) a0_,.rs (3,0) a1_] =
 br (ni (List.length a0_) != ni (List.length a1_))
 (some ((.bool false),[]))
 (iq a0_ a1_ (0)) := by
  exact (ay Tryz.func107 rfl _).trans (by kernel_rfl)
theorem wV (a0_ : Int) : V 121 [.int .i64 a0_] =
 br (decide (a0_ ≤ 0))
 (some ((.str ({ data := #[109,48] })),[]))
 (gc a0_ ({ data := #[] })) := by
  exact (ay Tryz.func121 rfl _).trans (by kernel_rfl)
theorem yj (a0_ : List D) (a1_ : Int) : V 110 [.os (3,0) a0_,.int .i64 a1_] =
 fX a1_ (0) a0_ := by
  exact (ay Tryz.func110 rfl _).trans (by kernel_rfl)

end Go.Eng
/-! the functions as the interpreter has them -/
namespace Go.Eng
open Go.Proofs Go.Proofs.Tryz
set_option maxRecDepth 100000
theorem JE (a0_0 : List D) (a0_1 a0_2 a0_3 a0_4 a0_5 a0_6 a0_7 : Int) : V 28 [.agg [.rs (5,0) a0_0,.int .i64 a0_1,.int .i64 a0_2,.int .i64 a0_3,.int .i64 a0_4,.int .i64 a0_5,.int .i64 a0_6,.int .i64 a0_7]] =
 br (a0_5 == 1)
 (grd (decide (ni 4 ≤ LIM)) (ac V 84 [.agg [.rs (5,0) a0_0],.rs (1,0) [.int .i64 a0_2,.int .i64 a0_3,.int .i64 a0_4,.int .i64 a0_7]] fun x0 l1 =>
 asB x0 fun b2 => unn l1 (br (!b2)
 (ac V 85 [.agg [.rs (5,0) a0_0,.int .i64 a0_1,.int .i64 a0_2,.int .i64 a0_3,.int .i64 a0_4,.int .i64 a0_5,.int .i64 a0_6,.int .i64 a0_7]] fun x3 l4 =>
 tk3 x3 fun l8 n11 n14 n17 n20 n23 n26 n29 => (unn l4 (some ((.agg [.os (5,0) l8,.int .i64 n11,.int .i64 n14,.int .i64 n17,.int .i64 n20,.int .i64 n23,.int .i64 n26,.int .i64 n29]),[]))))
 (ac V 86 [.agg [.rs (5,0) a0_0],.rs (1,0) [.int .i64 a0_2,.int .i64 a0_3,.int .i64 a0_4,.int .i64 a0_7]] fun x30 l31 =>
 b6 x30 fun l32 => unc l32 fun x33 l34 => asAgg x33 fun l35 => unc l35 fun x36 l37 => aM (5,0) x36 fun l38 => unn l37 (unc l34 fun x39 l40 => aM (1,0) x39 fun l41 => unn l40 (unn l31 (grd (decide (0 ≤ 0) && decide (0 < ni (List.length l41))) (am l41 0 fun x42 =>
 asI .i64 x42 fun n43 => grd (decide (0 ≤ 1) && decide (1 < ni (List.length l41))) (am l41 1 fun x44 =>
 asI .i64 x44 fun n45 => grd (decide (0 ≤ 2) && decide (2 < ni (List.length l41))) (am l41 2 fun x46 =>
 asI .i64 x46 fun n47 => grd (decide (0 ≤ 3) && decide (3 < ni (List.length l41))) (am l41 3 fun x48 =>
 asI .i64 x48 fun n49 => some ((.agg [.os (5,0) l38,.int .i64 a0_1,.int .i64 n43,.int .i64 n45,.int .i64 n47,.int .i64 a0_5,.int .i64 a0_6,.int .i64 n49]),[]))))))))))))
 (br (a0_5 == 2)
 (grd (decide (ni 4 ≤ LIM)) (ac V 84 [.agg [.rs (5,0) a0_0],.rs (1,0) [.int .i64 a0_2,.int .i64 a0_3,.int .i64 a0_4,.int .i64 a0_7]] fun x50 l51 =>
 asB x50 fun b52 => unn l51 (br (!b52)
 (ac V 85 [.agg [.rs (5,0) a0_0,.int .i64 a0_1,.int .i64 a0_2,.int .i64 a0_3,.int .i64 a0_4,.int .i64 a0_5,.int .i64 a0_6,.int .i64 a0_7]] fun x53 l54 =>
 tk3 x53 fun l58 n61 n64 n67 n70 n73 n76 n79 => (unn l54 (some ((.agg [.os (5,0) l58,.int .i64 n61,.int .i64 n64,.int .i64 n67,.int .i64 n70,.int .i64 n73,.int .i64 n76,.int .i64 n79]),[]))))
 (ac V 86 [.agg [.rs (5,0) a0_0],.rs (1,0) [.int .i64 a0_2,.int .i64 a0_3,.int .i64 a0_4,.int .i64 a0_7]] fun x80 l81 =>
 b6 x80 fun l82 => unc l82 fun x83 l84 => asAgg x83 fun l85 => unc l85 fun x86 l87 => aM (5,0) x86 fun l88 => unn l87 (unc l84 fun x89 l90 => aM (1,0) x89 fun l91 => unn l90 (unn l81 (grd (decide (0 ≤ 0) && decide (0 < ni (List.length l91))) (am l91 0 fun x92 =>
 asI .i64 x92 fun n93 => grd (decide (0 ≤ 1) && decide (1 < ni (List.length l91))) (am l91 1 fun x94 =>
 asI .i64 x94 fun n95 => grd (decide (0 ≤ 2) && decide (2 < ni (List.length l91))) (am l91 2 fun x96 =>
 asI .i64 x96 fun n97 => br (a0_5 == 2)
 (grd (decide (0 ≤ 3) && decide (3 < ni (List.length l91))) (am l91 3 fun x98 =>
 asI .i64 x98 fun n99 => some ((.agg [.os (5,0) l88,.int .i64 a0_1,.int .i64 n93,.int .i64 n95,.int .i64 n97,.int .i64 a0_5,.int .i64 a0_6,.int .i64 n99]),[])))
 (some ((.agg [.os (5,0) l88,.int .i64 a0_1,.int .i64 n93,.int .i64 n95,.int .i64 n97,.int .i64 a0_5,.int .i64 a0_6,.int .i64 a0_7]),[]))))))))))))
 (ac V 84 [.agg [.rs (5,0) a0_0],.rs (1,0) [.int .i64 a0_2,.int .i64 a0_3,.int .i64 a0_4]] fun x100 l101 =>
 asB x100 fun b102 => unn l101 (br (!b102)
 (ac V 85 [.agg [.rs (5,0) a0_0,.int .i64 a0_1,.int .i64 a0_2,.int .i64 a0_3,.int .i64 a0_4,.int .i64 a0_5,.int .i64 a0_6,.int .i64 a0_7]] fun x103 l104 =>
 tk3 x103 fun l108 n111 n114 n117 n120 n123 n126 n129 => (unn l104 (some ((.agg [.os (5,0) l108,.int .i64 n111,.int .i64 n114,.int .i64 n117,.int .i64 n120,.int .i64 n123,.int .i64 n126,.int .i64 n129]),[]))))
 (ac V 86 [.agg [.rs (5,0) a0_0],.rs (1,0) [.int .i64 a0_2,.int .i64 a0_3,.int .i64 a0_4]] fun x130 l131 =>
 b6 x130 fun l132 => unc l132 fun x133 l134 => asAgg x133 fun l135 => unc l135 fun x136 l137 => aM (5,0) x136 fun l138 => unn l137 (unc l134 fun x139 l140 => aM (1,0) x139 fun l141 => unn l140 (unn l131 (grd (decide (0 ≤ 0) && decide (0 < ni (List.length l141))) (am l141 0 fun x142 =>
 asI .i64 x142 fun n143 => grd (decide (0 ≤ 1) && decide (1 < ni (List.length l141))) (am l141 1 fun x144 =>
 asI .i64 x144 fun n145 => grd (decide (0 ≤ 2) && decide (2 < ni (List.length l141))) (am l141 2 fun x146 =>
 asI .i64 x146 fun n147 => br (a0_5 == 2)
 (grd (decide (0 ≤ 3) && decide (3 < ni (List.length l141))) (am l141 3 fun x148 =>
 asI .i64 x148 fun n149 => some ((.agg [.os (5,0) l138,.int .i64 a0_1,.int .i64 n143,.int .i64 n145,.int .i64 n147,.int .i64 a0_5,.int .i64 a0_6,.int .i64 n149]),[])))
 (some ((.agg [.os (5,0) l138,.int .i64 a0_1,.int .i64 n143,.int .i64 n145,.int .i64 n147,.int .i64 a0_5,.int .i64 a0_6,.int .i64 a0_7]),[])))))))))))) := by
  exact (ay Tryz.func28 rfl _).trans (by kernel_rfl)
theorem nQ (p : List D) (m1 m2 m3 m4 m5 m6 m7 : Int) (cp cl cd : List D) (o i : Int) : V 186 [.op [.os (5,0) p,.int .i64 m1,.int .i64 m2,.int .i64 m3,.int .i64 m4,.int .i64 m5,.int .i64 m6,.int .i64 m7,.rs (5,0) cp,.rs (4,0) cl,.rs (3,0) cd],.int .i64 o,.int .i64 i] =
 ac V 207 [.op [.os (5,0) p,.int .i64 m1,.int .i64 m2,.int .i64 m3,.int .i64 m4,.int .i64 m5,.int .i64 m6,.int .i64 m7,.rs (5,0) cp,.rs (4,0) cl,.rs (3,0) cd],.int .i64 m3,.int .i64 o] fun x0 l1 =>
 tk4 x0 fun n5 b8 => (unc l1 fun x9 l10 => tk6 x9 fun l14 n17 n20 n23 n26 n29 n32 n35 l38 l41 l44 => (unn l10 (br (!b8)
 (some ((.int .i64 (7)),[.op [.os (5,0) l14,.int .i64 n17,.int .i64 n20,.int .i64 n23,.int .i64 n26,.int .i64 n29,.int .i64 n32,.int .i64 n35,.rs (5,0) l38,.rs (4,0) l41,.rs (3,0) l44]]))
 (ac V 207 [.op [.os (5,0) l14,.int .i64 n17,.int .i64 n20,.int .i64 n23,.int .i64 n26,.int .i64 n29,.int .i64 n32,.int .i64 n35,.rs (5,0) l38,.rs (4,0) l41,.rs (3,0) l44],.int .i64 n5,.int .i64 i] fun x45 l46 =>
 tk4 x45 fun n50 b53 => (unc l46 fun x54 l55 => tk6 x54 fun l59 n62 n65 n68 n71 n74 n77 n80 l83 l86 l89 => (unn l55 (br (!b53)
 (some ((.int .i64 (7)),[.op [.os (5,0) l59,.int .i64 n62,.int .i64 n65,.int .i64 n68,.int .i64 n71,.int .i64 n74,.int .i64 n77,.int .i64 n80,.rs (5,0) l83,.rs (4,0) l86,.rs (3,0) l89]]))
 (ac V 185 [.op [.os (5,0) l59,.int .i64 n62,.int .i64 n65,.int .i64 n68,.int .i64 n71,.int .i64 n74,.int .i64 n77,.int .i64 n80,.rs (5,0) l83,.rs (4,0) l86,.rs (3,0) l89],.int .i64 n50] fun x90 l91 =>
 b6 x90 fun l92 => unn l92 (unc l91 fun x93 l94 => tk6 x93 fun l98 n101 n104 n107 n110 n113 n116 n119 l122 l125 l128 => (unn l94 (some ((.int .i64 (0)),[.op [.os (5,0) l98,.int .i64 n101,.int .i64 n104,.int .i64 n107,.int .i64 n110,.int .i64 n113,.int .i64 n116,.int .i64 n119,.rs (5,0) l122,.rs (4,0) l125,.rs (3,0) l128]])))))))))))) := by
  exact (ay Tryz.func186 rfl _).trans (by kernel_rfl)
theorem wm (a0_0 a0_1 a0_2 a1_0 : List D) (a1_1 a1_2 a1_3 a1_4 a1_5 a1_6 a1_7 : Int) : V 15 [.agg [.rs (5,0) a0_0,.rs (4,0) a0_1,.rs (3,0) a0_2],.agg [.rs (5,0) a1_0,.int .i64 a1_1,.int .i64 a1_2,.int .i64 a1_3,.int .i64 a1_4,.int .i64 a1_5,.int .i64 a1_6,.int .i64 a1_7]] =
 ac V 59 [.agg [.rs (5,0) a0_0,.rs (4,0) a0_1,.rs (3,0) a0_2]] fun x0 l1 =>
 asB x0 fun b2 => unn l1 (br (!b2)
 (some ((.bool false),[]))
 (ac V 60 [.agg [.rs (5,0) a1_0]] fun x3 l4 =>
 asB x3 fun b5 => unn l4 (br (!b5)
 (some ((.bool false),[]))
 (ac V 61 [.agg [.rs (5,0) a1_0],.int .i64 a1_2] fun x6 l7 =>
 asB x6 fun b8 => unn l7 (br (!b8)
 (some ((.bool false),[]))
 (ac V 61 [.agg [.rs (5,0) a1_0],.int .i64 a1_3] fun x9 l10 =>
 asB x9 fun b11 => unn l10 (br (!b11)
 (some ((.bool false),[]))
 (ac V 61 [.agg [.rs (5,0) a1_0],.int .i64 a1_4] fun x12 l13 =>
 asB x12 fun b14 => unn l13 (br (!b14)
 (some ((.bool false),[]))
 (ac V 62 [.int .i64 a1_1,.int .i64 (0),(.int .i64 (IntKind.wrap IntKind.i64 (ni (List.length a0_1) - 1)))] fun x15 l16 =>
 asB x15 fun b17 => unn l16 (br (a1_5 == 0)
 (br b17
 (br (a1_6 == 0)
 (some ((.bool (a1_7 == 0)),[]))
 (some ((.bool false),[])))
 (some ((.bool false),[])))
 (br (a1_5 == 1)
 (br b17
 (ac V 62 [.int .i64 a1_6,.int .i64 (13),.int .i64 (19)] fun x18 l19 =>
 asB x18 fun b20 => unn l19 (br b20
 (br (a1_6 != 18)
 (ac V 61 [.agg [.rs (5,0) a1_0],.int .i64 a1_7] fun x21 l22 =>
 asB x21 fun b23 => unn l22 (some ((.bool b23),[])))
 (some ((.bool false),[])))
 (some ((.bool false),[]))))
 (some ((.bool false),[])))
 (br (a1_5 == 2)
 (br (a1_1 == 0)
 (br (a1_6 == 0)
 (ac V 61 [.agg [.rs (5,0) a1_0],.int .i64 a1_7] fun x24 l25 =>
 asB x24 fun b26 => unn l25 (some ((.bool b26),[])))
 (some ((.bool false),[])))
 (some ((.bool false),[])))
 (br (a1_5 == 3)
 (br (a1_1 == 0)
 (ac V 62 [.int .i64 a1_6,.int .i64 (1),.int .i64 (7)] fun x27 l28 =>
 asB x27 fun b29 => unn l28 (br b29
 (some ((.bool (a1_7 == 0)),[]))
 (some ((.bool false),[]))))
 (some ((.bool false),[])))
 (some ((.bool false),[])))))))))))))))) := by
  exact (ay Tryz.func15 rfl _).trans (by kernel_rfl)
theorem nq (p0 p1 : Int) (p2 p3 p4 : List D) (p5 p6 p7 p8 p9 p10 p11 p12 p13 p14 p15 p16 p17 p18 : Int) (p19 : List D) : jr p0 p1 p2 p3 p4 p5 p6 p7 p8 p9 p10 p11 p12 p13 p14 p15 p16 p17 p18 p19 =
 ac V 116 [.int .i64 p0,.int .i64 (2000)] fun x0 l1 =>
 asI .i64 x0 fun n2 => unn l1 (br (decide (p1 < n2))
 (br (p9 == 0)
 (ac V 153 [.agg [.rs (5,0) p2,.rs (4,0) p3,.rs (3,0) p4],(.agg [.rs (5,0) p19,.int .i64 p5,.int .i64 p6,.int .i64 p7,.int .i64 p8,.int .i64 p9,.int .i64 p10,.int .i64 p11])] fun x3 l4 =>
 tk3 x3 fun l8 n11 n14 n17 n20 n23 n26 n29 => (unn l4 (ac V 162 [.agg [.os (5,0) l8,.int .i64 n11,.int .i64 n14,.int .i64 n17,.int .i64 n20,.int .i64 n23,.int .i64 n26,.int .i64 n29]] fun x30 l31 =>
 tk3 x30 fun l35 n38 n41 n44 n47 n50 n53 n56 => (unn l31 (jr p0 (IntKind.wrap IntKind.i64 (p1 + 1)) p2 p3 p4 n38 n41 n44 n47 n50 n53 n56 p12 p13 p14 p15 p16 p17 p18 l35)))))
 (some ((.tup [.agg [.os (5,0) p19,.int .i64 p5,.int .i64 p6,.int .i64 p7,.int .i64 p8,.int .i64 p9,.int .i64 p10,.int .i64 p11],.int .i64 p1]),[])))
 (some ((.tup [.agg [.os (5,0) p19,.int .i64 p5,.int .i64 p6,.int .i64 p7,.int .i64 p8,.int .i64 p9,.int .i64 p10,.int .i64 p11],.int .i64 p1]),[]))) := by
  exact (bQ _ _ _).trans (by kernel_rfl)
theorem jF (p0 : List D) (p1 p2 : Int) : fw p0 p1 p2 =
 br (decide (p2 < ni (List.length p0)))
 (grd (decide (0 ≤ p2) && decide (p2 < ni (List.length p0))) (am p0 (Int.toNat p2) fun x0 =>
 asAgg x0 fun l1 => am l1 0 fun x2 =>
 asI .i64 x2 fun n3 => br (n3 != p1)
 (some ((.int .i64 (-1)),[]))
 (grd (decide (0 ≤ p2) && decide (p2 < ni (List.length p0))) (am p0 (Int.toNat p2) fun x4 =>
 asAgg x4 fun l5 => am l5 1 fun x6 =>
 asI .i64 x6 fun n7 => br (n7 != IntKind.wrap IntKind.i64 (p1 + 1))
 (some ((.int .i64 (-1)),[]))
 (grd (decide (0 ≤ p2) && decide (p2 < ni (List.length p0))) (am p0 (Int.toNat p2) fun x8 =>
 asAgg x8 fun l9 => am l9 2 fun x10 =>
 asS x10 fun s11 => ac V 121 [(.int .i64 (IntKind.wrap IntKind.i64 (IntKind.wrap IntKind.i64 (p1 + 1) + 1)))] fun x12 l13 =>
 asS x12 fun s14 => unn l13 (br (!aQ s11 s14)
 (some ((.int .i64 (-1)),[]))
 (grd (decide (0 ≤ p2) && decide (p2 < ni (List.length p0))) (am p0 (Int.toNat p2) fun x15 =>
 asAgg x15 fun l16 => am l16 3 fun x17 =>
 asI .i64 x17 fun n18 => br (n18 != IntKind.wrap IntKind.i64 (IntKind.wrap IntKind.i64 (IntKind.wrap IntKind.i64 (p1 + 1) + 1) + 1))
 (some ((.int .i64 (-1)),[]))
 (grd (decide (0 ≤ p2) && decide (p2 < ni (List.length p0))) (am p0 (Int.toNat p2) fun x19 =>
 asAgg x19 fun l20 => am l20 4 fun x21 =>
 asI .i64 x21 fun n22 => br (n22 != IntKind.wrap IntKind.i64 (IntKind.wrap IntKind.i64 (IntKind.wrap IntKind.i64 (IntKind.wrap IntKind.i64 (p1 + 1) + 1) + 1) + 1))
 (some ((.int .i64 (-1)),[]))
 (fw p0 (IntKind.wrap IntKind.i64 (IntKind.wrap IntKind.i64 (IntKind.wrap IntKind.i64 (IntKind.wrap IntKind.i64 (IntKind.wrap IntKind.i64 (p1 + 1) + 1) + 1) + 1) + 1)) (IntKind.wrap IntKind.i64 (p2 + 1))))))))))))))
 (some ((.int .i64 p1),[])) := by
  exact (bQ _ _ _).trans (by kernel_rfl)
theorem ln (p0 p1 : List D) (p2 : Int) : gH p0 p1 p2 =
 br (decide (p2 < ni (List.length p0)))
 (grd (decide (0 ≤ p2) && decide (p2 < ni (List.length p0))) (am p0 (Int.toNat p2) fun x0 =>
 tk1 x0 fun n4 n7 s10 n13 n16 => (grd (decide (0 ≤ p2) && decide (p2 < ni (List.length p1))) (am p1 (Int.toNat p2) fun x17 =>
 tk1 x17 fun n21 n24 s27 n30 n33 => (ac V 200 [.agg [.int .i64 n4,.int .i64 n7,.str s10,.int .i64 n13,.int .i64 n16],.agg [.int .i64 n21,.int .i64 n24,.str s27,.int .i64 n30,.int .i64 n33]] fun x34 l35 =>
 asB x34 fun b36 => unn l35 (br (!b36)
 (some ((.bool false),[]))
 (gH p0 p1 (IntKind.wrap IntKind.i64 (p2 + 1)))))))))
 (some ((.bool true),[])) := by
  exact (bQ _ _ _).trans (by kernel_rfl)
theorem j7 (p0 p1 : Int) (p2 : List D) : fX p0 p1 p2 =
 br (decide (p1 < ni (List.length p2)))
 (ac V 121 [.int .i64 p0] fun x0 l1 =>
 asS x0 fun s2 => unn l1 (grd (decide (0 ≤ p1) && decide (p1 < ni (List.length p2))) (am p2 (Int.toNat p1) fun x3 =>
 asAgg x3 fun l4 => nam (List.set p2 (Int.toNat p1) (D.agg (List.take 0 l4 ++ [D.str s2] ++ List.drop 1 l4))) fun l5 =>
 grd (decide (0 ≤ p1) && decide (p1 < ni (List.length l5))) (am l5 (Int.toNat p1) fun x6 =>
 asAgg x6 fun l7 => nam (List.set l5 (Int.toNat p1) (D.agg (List.take 1 l7 ++ [D.int IntKind.i64 (IntKind.wrap IntKind.i64 (p0 + 1))] ++ List.drop 2 l7))) fun l8 =>
 grd (decide (0 ≤ p1) && decide (p1 < ni (List.length l8))) (am l8 (Int.toNat p1) fun x9 =>
 asAgg x9 fun l10 => nam (List.set l8 (Int.toNat p1) (D.agg (List.take 2 l10 ++ [D.int IntKind.i64 (IntKind.wrap IntKind.i64 (IntKind.wrap IntKind.i64 (p0 + 1) + 1))] ++ List.drop 3 l10))) fun l11 =>
 fX (IntKind.wrap IntKind.i64 (IntKind.wrap IntKind.i64 (IntKind.wrap IntKind.i64 (p0 + 1) + 1) + 1)) (IntKind.wrap IntKind.i64 (p1 + 1)) l11)))))
 (some ((.int .i64 p0),[.os (3,0) p2])) := by
  exact (bQ _ _ _).trans (by kernel_rfl)
theorem ol (p0 : Int) (p1 p2 : List D) : eh p0 p1 p2 =
 grd (decide (0 ≤ p0) && decide (p0 < ni (List.length p2))) (am p2 (Int.toNat p0) fun x0 =>
 asAgg x0 fun l1 => am l1 0 fun x2 =>
 asI .i64 x2 fun n3 => br (n3 == 5)
 (grd (decide (0 ≤ p0) && decide (p0 < ni (List.length p2))) (am p2 (Int.toNat p0) fun x4 =>
 asAgg x4 fun l5 => am l5 3 fun x6 =>
 asI .i64 x6 fun n7 => grd (decide (ni (List.length (p1 ++ [D.int IntKind.i64 n7])) ≤ LIM)) (nam (p1 ++ [D.int IntKind.i64 n7]) fun l8 =>
 grd (decide (0 ≤ p0) && decide (p0 < ni (List.length p2))) (am p2 (Int.toNat p0) fun x9 =>
 asAgg x9 fun l10 => am l10 4 fun x11 =>
 asI .i64 x11 fun n12 => eh n12 l8 p2))))
 (grd (decide (0 ≤ p0) && decide (p0 < ni (List.length p2))) (am p2 (Int.toNat p0) fun x13 =>
 asAgg x13 fun l14 => am l14 0 fun x15 =>
 asI .i64 x15 fun n16 => some ((.tup [.os (1,0) p1,.bool (n16 == 1)]),[.op [.os (5,0) p2]])))) := by
  exact (bQ _ _ _).trans (by kernel_rfl)
theorem GQ (p : List D) (m1 m2 m3 m4 m5 m6 m7 v : Int) : V 95 [.op [.os (5,0) p,.int .i64 m1,.int .i64 m2,.int .i64 m3,.int .i64 m4,.int .i64 m5,.int .i64 m6,.int .i64 m7],.int .i64 v] =
 ac V 158 [.op [.os (5,0) p],(.agg [.int .i64 (5),.int .i64 (0),.str ({ data := #[] }),.int .i64 v,.int .i64 m2])] fun x0 l1 =>
 asI .i64 x0 fun n2 => unc l1 fun x3 l4 => bz x3 fun l5 => unc l5 fun x6 l7 => aM (5,0) x6 fun l8 => unn l7 (unn l4 (some ((.tup []),[.op [.os (5,0) l8,.int .i64 m1,.int .i64 n2,.int .i64 m3,.int .i64 m4,.int .i64 m5,.int .i64 m6,.int .i64 m7]]))) := by
  exact (ay Tryz.func95 rfl _).trans (by kernel_rfl)
theorem CZ (p q : List D) (v : Int) : V 96 [.op [.os (5,0) p],.agg [.rs (5,0) q],.int .i64 v] =
 ac V 149 [.agg [.rs (5,0) q],.rs (1,0) [.int .i64 v]] fun x0 l1 =>
 aM (1,0) x0 fun l2 => unn l1 (ac V 148 [.op [.os (5,0) p],(.agg [.rs (5,0) q]),.rs (1,0) l2] fun x3 l4 =>
 aM (1,0) x3 fun l5 => unc l4 fun x6 l7 => bz x6 fun l8 => unc l8 fun x9 l10 => aM (5,0) x9 fun l11 => unn l10 (unn l7 (grd (decide (0 ≤ v) && decide (v < ni (List.length l5))) (am l5 (Int.toNat v) fun x12 =>
 asI .i64 x12 fun n13 => some ((.int .i64 n13),[.op [.os (5,0) l11]]))))) := by
  exact (ay Tryz.func96 rfl _).trans (by kernel_rfl)
theorem ib (p0 p1 : List D) (p2 p3 : Int) : d6 p0 p1 p2 p3 =
 br (decide (p3 < p2))
 (grd (decide (0 ≤ p3) && decide (p3 < ni (List.length p0))) (am p0 (Int.toNat p3) fun x0 =>
 asI .i64 x0 fun n1 => ac V 136 [.int .i64 n1,(.bp [.rs (5,0) p1])] fun x2 l3 =>
 asB x2 fun b4 => unn l3 (br b4
 (some ((.int .i64 p3),[]))
 (d6 p0 p1 p2 (IntKind.wrap IntKind.i64 (p3 + 1))))))
 (some ((.int .i64 (-1)),[])) := by
  exact (bQ _ _ _).trans (by kernel_rfl)
theorem d4 (p0 : List D) (p1 : ByteArray) (p2 p3 : Int) : cx p0 p1 p2 p3 =
 br (decide (p3 < p2))
 (grd (decide (0 ≤ p3) && decide (p3 < ni (List.length p0))) (am p0 (Int.toNat p3) fun x0 =>
 asS x0 fun s1 => br (aQ p1 s1)
 (some ((.int .i64 p3),[]))
 (cx p0 p1 p2 (IntKind.wrap IntKind.i64 (p3 + 1)))))
 (some ((.int .i64 (-1)),[])) := by
  exact (bQ _ _ _).trans (by kernel_rfl)
theorem mi (p0 : ByteArray) (p1 : Int) (p2 : List D) : i6 p0 p1 p2 =
 br (decide (p1 ≤ 19))
 (grd (decide (0 ≤ p1) && decide (p1 < ni (List.length p2))) (am p2 (Int.toNat p1) fun x3 =>
 asS x3 fun s4 => br (aQ s4 p0)
 (some ((.int .i64 p1),[]))
 (i6 p0 (IntKind.wrap IntKind.i64 (p1 + 1)) p2)))
 (some ((.int .i64 (0)),[])) := by
  exact (bQ _ _ _).trans (by kernel_rfl)
theorem FA (a0_0 a1_ : List D) : V 189 [.agg [.rs (5,0) a0_0],.rs (1,0) a1_] =
 grd (decide (0 ≤ ni (List.length a0_0)) && decide (ni (List.length a0_0) ≤ LIM)) (gv a1_ (ni (List.length a1_)) (0) a0_0 (List.replicate (Int.toNat (ni (List.length a0_0))) (D.bool false))) := by
  exact (ay Tryz.func189 rfl _).trans (by kernel_rfl)
theorem Dv (a0_ : List D) : V 104 [.rs (3,0) a0_] =
 grd (decide (0 ≤ ni (List.length a0_)) && decide (ni (List.length a0_) ≤ LIM)) (iG a0_ (0) (List.replicate (Int.toNat (ni (List.length a0_))) (D.agg [D.str { data := #[] },D.int IntKind.i64 (0),D.int IntKind.i64 (0)]))) := by
  exact (ay Tryz.func104 rfl _).trans (by kernel_rfl)
theorem CQ (a0_ : ByteArray) : V 208 [.str a0_] =
 ac V 176 [] fun x0 l1 =>
 aM (1,0) x0 fun l2 => unn l1 (ac V 225 [.rs (1,0) l2,.str a0_] fun x3 l4 =>
 asI .i64 x3 fun n5 => unn l4 (some ((.int .i64 (IntKind.wrap IntKind.i64 (n5 + 1))),[]))) := by
  exact (ay Tryz.func208 rfl _).trans (by kernel_rfl)
theorem ER (a0_0 a0_1 a0_2 : List D) (a1_ : ByteArray) : V 129 [.agg [.rs (5,0) a0_0,.rs (4,0) a0_1,.rs (3,0) a0_2],.str a1_] =
 jt a1_ (0) a0_0 a0_1 a0_2 := by
  exact (ay Tryz.func129 rfl _).trans (by kernel_rfl)
theorem ki (a0_ : List D) (a1_ : ByteArray) : V 225 [.rs (1,0) a0_,.str a1_] =
 cx a0_ a1_ (ni (List.length a0_)) (0) := by
  exact (ay Tryz.func225 rfl _).trans (by kernel_rfl)
theorem uO (l : List D) (s : ByteArray) : V 178 [.rs (3,0) l,.fn 179 [.bp [.str s]]] =
 eZ l s (ni (List.length l)) (0) := by
  exact (ay Tryz.func178 rfl _).trans (by kernel_rfl)
end Go.Eng
/-! the functions as the interpreter has them -/
namespace Go.Eng
open Go.Proofs Go.Proofs.Tryz
set_option maxRecDepth 100000
theorem sg (p : List D) (m1 m2 m3 m4 m5 m6 m7 : Int) (cp cl cd : List D)  : V 133 [.op [.os (5,0) p,.int .i64 m1,.int .i64 m2,.int .i64 m3,.int .i64 m4,.int .i64 m5,.int .i64 m6,.int .i64 m7,.rs (5,0) cp,.rs (4,0) cl,.rs (3,0) cd]] =
 ac V 182 [.op [.os (5,0) p,.int .i64 m1,.int .i64 m2,.int .i64 m3,.int .i64 m4,.int .i64 m5,.int .i64 m6,.int .i64 m7,.rs (5,0) cp,.rs (4,0) cl,.rs (3,0) cd]] fun x0 l1 =>
 tk4 x0 fun n5 b8 => (unc l1 fun x9 l10 => tk6 x9 fun l14 n17 n20 n23 n26 n29 n32 n35 l38 l41 l44 => (unn l10 (br (!b8)
 (some ((.int .i64 (7)),[.op [.os (5,0) l14,.int .i64 n17,.int .i64 n20,.int .i64 n23,.int .i64 n26,.int .i64 n29,.int .i64 n32,.int .i64 n35,.rs (5,0) l38,.rs (4,0) l41,.rs (3,0) l44]]))
 (grd (decide (0 ≤ n26) && decide (n26 < ni (List.length l14))) (am l14 (Int.toNat n26) fun x45 =>
 tk1 x45 fun n49 _ _ n58 n61 => (br (n49 == 1)
 (some ((.int .i64 (0)),[.op [.os (5,0) l14,.int .i64 (0),.int .i64 n20,.int .i64 n23,.int .i64 n26,.int .i64 (2),.int .i64 n32,.int .i64 n5,.rs (5,0) l38,.rs (4,0) l41,.rs (3,0) l44]]))
 (br (n49 != 5)
 (some ((.int .i64 (7)),[.op [.os (5,0) l14,.int .i64 n17,.int .i64 n20,.int .i64 n23,.int .i64 n26,.int .i64 n29,.int .i64 n32,.int .i64 n35,.rs (5,0) l38,.rs (4,0) l41,.rs (3,0) l44]]))
 (ac V 119 [.op [.os (5,0) l14],.int .i64 n58] fun x62 l63 =>
 tk2 x62 fun l67 b70 => (unc l63 fun x71 l72 => bz x71 fun l73 => unc l73 fun x74 l75 => aM (5,0) x74 fun l76 => unn l75 (unn l72 (br (!b70)
 (some ((.int .i64 (7)),[.op [.os (5,0) l76,.int .i64 n17,.int .i64 n20,.int .i64 n23,.int .i64 n26,.int .i64 n29,.int .i64 n32,.int .i64 n35,.rs (5,0) l38,.rs (4,0) l41,.rs (3,0) l44]]))
 (br (ni (List.length l67) != 3)
 (some ((.int .i64 (7)),[.op [.os (5,0) l76,.int .i64 n17,.int .i64 n20,.int .i64 n23,.int .i64 n26,.int .i64 n29,.int .i64 n32,.int .i64 n35,.rs (5,0) l38,.rs (4,0) l41,.rs (3,0) l44]]))
 (grd (decide (0 ≤ 0) && decide (0 < ni (List.length l67))) (am l67 0 fun x77 =>
 asI .i64 x77 fun n78 => grd (decide (0 ≤ n78) && decide (n78 < ni (List.length l76))) (am l76 (Int.toNat n78) fun x79 =>
 asAgg x79 fun l80 => am l80 0 fun x81 =>
 asI .i64 x81 fun n82 => br (n82 != 3)
 (some ((.int .i64 (7)),[.op [.os (5,0) l76,.int .i64 n17,.int .i64 n20,.int .i64 n23,.int .i64 n26,.int .i64 n29,.int .i64 n32,.int .i64 n35,.rs (5,0) l38,.rs (4,0) l41,.rs (3,0) l44]]))
 (grd (decide (0 ≤ 0) && decide (0 < ni (List.length l67))) (am l67 0 fun x83 =>
 asI .i64 x83 fun n84 => grd (decide (0 ≤ n84) && decide (n84 < ni (List.length l76))) (am l76 (Int.toNat n84) fun x85 =>
 asAgg x85 fun l86 => am l86 1 fun x87 =>
 asI .i64 x87 fun n88 => ac V 57 [.agg [.rs (5,0) l38,.rs (4,0) l41,.rs (3,0) l44],.int .i64 n88] fun x89 l90 =>
 asB x89 fun b91 => unn l90 (br (!b91)
 (some ((.int .i64 (7)),[.op [.os (5,0) l76,.int .i64 n17,.int .i64 n20,.int .i64 n23,.int .i64 n26,.int .i64 n29,.int .i64 n32,.int .i64 n35,.rs (5,0) l38,.rs (4,0) l41,.rs (3,0) l44]]))
 (grd (decide (0 ≤ 0) && decide (0 < ni (List.length l67))) (am l67 0 fun x92 =>
 asI .i64 x92 fun n93 => grd (decide (0 ≤ n93) && decide (n93 < ni (List.length l76))) (am l76 (Int.toNat n93) fun x94 =>
 asAgg x94 fun l95 => am l95 1 fun x96 =>
 asI .i64 x96 fun n97 => grd (decide (0 ≤ 1) && decide (1 < ni (List.length l67))) (am l67 1 fun x98 =>
 asI .i64 x98 fun n99 => grd (decide (0 ≤ 2) && decide (2 < ni (List.length l67))) (am l67 2 fun x100 =>
 asI .i64 x100 fun n101 => ac V 185 [.op [.os (5,0) l76,.int .i64 n97,.int .i64 n99,.int .i64 n101,.int .i64 n61,.int .i64 n29,.int .i64 n32,.int .i64 n35,.rs (5,0) l38,.rs (4,0) l41,.rs (3,0) l44],.int .i64 n5] fun x102 l103 =>
 b6 x102 fun l104 => unn l104 (unc l103 fun x105 l106 => tk6 x105 fun l110 n113 n116 n119 n122 n125 n128 n131 l134 l137 l140 => (unn l106 (some ((.int .i64 (0)),[.op [.os (5,0) l110,.int .i64 n113,.int .i64 n116,.int .i64 n119,.int .i64 n122,.int .i64 n125,.int .i64 n128,.int .i64 n131,.rs (5,0) l134,.rs (4,0) l137,.rs (3,0) l140]])))))))))))))))))))))))))))) := by
  exact (ay Tryz.func133 rfl _).trans (by kernel_rfl)
theorem zz (cp cl cd p : List D) (m1 m2 m3 m4 m5 m6 m7 f : Int) (l : List D) (nx : Int) : V 233 [.agg [.rs (5,0) cp,.rs (4,0) cl,.rs (3,0) cd],.op [.os (5,0) p,.int .i64 m1,.int .i64 m2,.int .i64 m3,.int .i64 m4,.int .i64 m5,.int .i64 m6,.int .i64 m7],.int .i64 f,.rs (1,0) l,.int .i64 nx] =
 grd (decide (0 ≤ f) && decide (f < ni (List.length p))) (am p (Int.toNat f) fun x0 =>
 tk1 x0 fun n4 n7 _ n13 _ => (br (n4 == 6)
 (grd (!decide (8 = 0)) (br (Int.tmod n7 (8) != ni (List.length l))
 (some ((.int .i64 (2)),[.op [.os (5,0) p,.int .i64 m1,.int .i64 m2,.int .i64 m3,.int .i64 m4,.int .i64 m5,.int .i64 m6,.int .i64 m7]]))
 (grd (!decide (8 = 0)) (br (decide (IntKind.wrap IntKind.i64 (Int.tdiv n7 (8)) ≥ ni (List.length cl)))
 (some ((.int .i64 (7)),[.op [.os (5,0) p,.int .i64 m1,.int .i64 m2,.int .i64 m3,.int .i64 m4,.int .i64 m5,.int .i64 m6,.int .i64 m7]]))
 (ac V 158 [.op [.os (5,0) p],(.agg [.int .i64 (3),.int .i64 nx,.str ({ data := #[] }),.int .i64 (0),.int .i64 (0)])] fun x17 l18 =>
 asI .i64 x17 fun n19 => unc l18 fun x20 l21 => bz x20 fun l22 => unc l22 fun x23 l24 => aM (5,0) x23 fun l25 => unn l24 (unn l21 (ac V 210 [.op [.os (5,0) l25],.rs (1,0) [.int .i64 n19,.int .i64 m2,.int .i64 m3]] fun x26 l27 =>
 asI .i64 x26 fun n28 => unc l27 fun x29 l30 => bz x29 fun l31 => unc l31 fun x32 l33 => aM (5,0) x32 fun l34 => unn l33 (unn l30 (ac V 158 [.op [.os (5,0) l34],(.agg [.int .i64 (5),.int .i64 (0),.str ({ data := #[] }),.int .i64 n28,.int .i64 m4])] fun x35 l36 =>
 asI .i64 x35 fun n37 => unc l36 fun x38 l39 => bz x38 fun l40 => unc l40 fun x41 l42 => aM (5,0) x41 fun l43 => unn l42 (unn l39 (ac V 210 [.op [.os (5,0) l43],.rs (1,0) l] fun x44 l45 =>
 asI .i64 x44 fun n46 => unc l45 fun x47 l48 => bz x47 fun l49 => unc l49 fun x50 l51 => aM (5,0) x50 fun l52 => unn l51 (unn l48 (ac V 158 [.op [.os (5,0) l52],(.agg [.int .i64 (5),.int .i64 (0),.str ({ data := #[] }),.int .i64 n46,.int .i64 n13])] fun x53 l54 =>
 asI .i64 x53 fun n55 => unc l54 fun x56 l57 => bz x56 fun l58 => unc l58 fun x59 l60 => aM (5,0) x59 fun l61 => unn l60 (unn l57 (ac V 158 [.op [.os (5,0) l61],(.agg [.int .i64 (1),.int .i64 (0),.str ({ data := #[] }),.int .i64 (0),.int .i64 (0)])] fun x62 l63 =>
 asI .i64 x62 fun n64 => unc l63 fun x65 l66 => bz x65 fun l67 => unc l67 fun x68 l69 => aM (5,0) x68 fun l70 => unn l69 (unn l66 (grd (!decide (8 = 0)) (some ((.int .i64 (0)),[(.op [.os (5,0) l70,(.int .i64 (IntKind.wrap IntKind.i64 (Int.tdiv n7 (8)))),.int .i64 n64,.int .i64 n55,.int .i64 n37,.int .i64 m5,.int .i64 m6,.int .i64 m7])])))))))))))))))))))
 (br (n4 == 8)
 (ac V 240 [.agg [.rs (5,0) cp,.rs (4,0) cl,.rs (3,0) cd],(.op [.os (5,0) p,.int .i64 m1,.int .i64 m2,.int .i64 m3,.int .i64 m4,.int .i64 m5,.int .i64 m6,.int .i64 m7]),.int .i64 n7,.rs (1,0) l,.int .i64 nx] fun x71 l72 =>
 asI .i64 x71 fun n73 => unc l72 fun x74 l75 => tk5 x74 fun l79 n82 n85 n88 n91 n94 n97 n100 => (unn l75 (some ((.int .i64 n73),[.op [.os (5,0) l79,.int .i64 n82,.int .i64 n85,.int .i64 n88,.int .i64 n91,.int .i64 n94,.int .i64 n97,.int .i64 n100]]))))
 (br (n4 == 7)
 (br (ni (List.length l) != 1)
 (some ((.int .i64 (2)),[.op [.os (5,0) p,.int .i64 m1,.int .i64 m2,.int .i64 m3,.int .i64 m4,.int .i64 m5,.int .i64 m6,.int .i64 m7]]))
 (ac V 234 [.agg [.rs (5,0) p],.int .i64 n13,.int .i64 (4)] fun x101 l102 =>
 tk8 x101 fun n106 l109 b112 => (unn l102 (br (!b112)
 (some ((.int .i64 (7)),[.op [.os (5,0) p,.int .i64 m1,.int .i64 m2,.int .i64 m3,.int .i64 m4,.int .i64 m5,.int .i64 m6,.int .i64 m7]]))
 (grd (decide (0 ≤ 0) && decide (0 < ni (List.length l109))) (am l109 0 fun x113 =>
 asI .i64 x113 fun n114 => grd (decide (0 ≤ 1) && decide (1 < ni (List.length l109))) (am l109 1 fun x115 =>
 asI .i64 x115 fun n116 => grd (decide (0 ≤ 2) && decide (2 < ni (List.length l109))) (am l109 2 fun x117 =>
 asI .i64 x117 fun n118 => grd (decide (0 ≤ 0) && decide (0 < ni (List.length l))) (am l 0 fun x119 =>
 asI .i64 x119 fun n120 => ac V 95 [.op [.os (5,0) p,.int .i64 n106,.int .i64 n114,.int .i64 n116,.int .i64 n118,.int .i64 m5,.int .i64 m6,.int .i64 m7],.int .i64 n120] fun x121 l122 =>
 b6 x121 fun l123 => unn l123 (unc l122 fun x124 l125 => tk5 x124 fun l129 n132 n135 n138 n141 n144 n147 n150 => (unn l125 (some ((.int .i64 (0)),[.op [.os (5,0) l129,.int .i64 n132,.int .i64 n135,.int .i64 n138,.int .i64 n141,.int .i64 n144,.int .i64 n147,.int .i64 n150]])))))))))))))
 (some ((.int .i64 (3)),[.op [.os (5,0) p,.int .i64 m1,.int .i64 m2,.int .i64 m3,.int .i64 m4,.int .i64 m5,.int .i64 m6,.int .i64 m7]])))))) := by
  exact (ay Tryz.func233 rfl _).trans (by kernel_rfl)
theorem na (p : List D) (m1 m2 m3 m4 m5 m6 m7 : Int) (cp cl cd : List D) (n : Int) (l : List D) : V 205 [.op [.os (5,0) p,.int .i64 m1,.int .i64 m2,.int .i64 m3,.int .i64 m4,.int .i64 m5,.int .i64 m6,.int .i64 m7,.rs (5,0) cp,.rs (4,0) cl,.rs (3,0) cd],.int .i64 n,.rs (1,0) l] =
 ac V 223 [.int .i64 n] fun x0 l1 =>
 asI .i64 x0 fun n2 => unn l1 (br (n2 != ni (List.length l))
 (some ((.int .i64 (2)),[.op [.os (5,0) p,.int .i64 m1,.int .i64 m2,.int .i64 m3,.int .i64 m4,.int .i64 m5,.int .i64 m6,.int .i64 m7,.rs (5,0) cp,.rs (4,0) cl,.rs (3,0) cd]]))
 (br (n == 18)
 (ac V 157 [.op [.os (5,0) p],(.agg [.int .i64 (3),(.int .i64 (IntKind.wrap IntKind.i64 (m1 + 1))),.str ({ data := #[] }),.int .i64 (0),.int .i64 (0)])] fun x3 l4 =>
 asI .i64 x3 fun n5 => unc l4 fun x6 l7 => bz x6 fun l8 => unc l8 fun x9 l10 => aM (5,0) x9 fun l11 => unn l10 (unn l7 (ac V 222 [.op [.os (5,0) l11],.rs (1,0) [.int .i64 n5,.int .i64 m2,.int .i64 m3,.int .i64 m4]] fun x12 l13 =>
 asI .i64 x12 fun n14 => unc l13 fun x15 l16 => bz x15 fun l17 => unc l17 fun x18 l19 => aM (5,0) x18 fun l20 => unn l19 (unn l16 (ac V 157 [.op [.os (5,0) l20],(.agg [.int .i64 (7),.int .i64 (0),.str ({ data := #[] }),.int .i64 n14,.int .i64 (0)])] fun x21 l22 =>
 asI .i64 x21 fun n23 => unc l22 fun x24 l25 => bz x24 fun l26 => unc l26 fun x27 l28 => aM (5,0) x27 fun l29 => unn l28 (unn l25 (grd (decide (0 ≤ 0) && decide (0 < ni (List.length l))) (am l 0 fun x30 =>
 asI .i64 x30 fun n31 => ac V 184 [.op [.os (5,0) l29,.int .i64 m1,.int .i64 m2,.int .i64 m3,.int .i64 m4,.int .i64 m5,.int .i64 m6,.int .i64 m7,.rs (5,0) cp,.rs (4,0) cl,.rs (3,0) cd],.int .i64 n31,.rs (1,0) [.int .i64 n23]] fun x32 l33 =>
 asI .i64 x32 fun n34 => unc l33 fun x35 l36 => tk6 x35 fun l40 n43 n46 n49 n52 n55 n58 n61 l64 l67 l70 => (unn l36 (some ((.int .i64 n34),[.op [.os (5,0) l40,.int .i64 n43,.int .i64 n46,.int .i64 n49,.int .i64 n52,.int .i64 n55,.int .i64 n58,.int .i64 n61,.rs (5,0) l64,.rs (4,0) l67,.rs (3,0) l70]])))))))))))
 (br (decide (n > 12))
 (ac V 222 [.op [.os (5,0) p],.rs (1,0) l] fun x71 l72 =>
 asI .i64 x71 fun n73 => unc l72 fun x74 l75 => bz x74 fun l76 => unc l76 fun x77 l78 => aM (5,0) x77 fun l79 => unn l78 (unn l75 (some ((.int .i64 (0)),[.op [.os (5,0) l79,.int .i64 m1,.int .i64 m2,.int .i64 m3,.int .i64 m4,.int .i64 (1),.int .i64 n,.int .i64 n73,.rs (5,0) cp,.rs (4,0) cl,.rs (3,0) cd]]))))
 (ac V 224 [.op [.os (5,0) p],.int .i64 n,.rs (1,0) l] fun x80 l81 =>
 tk9 x80 fun n85 n88 => (unc l81 fun x89 l90 => bz x89 fun l91 => unc l91 fun x92 l93 => aM (5,0) x92 fun l94 => unn l93 (unn l90 (br (n88 == 3)
 (some ((.int .i64 (4)),[.op [.os (5,0) l94,.int .i64 m1,.int .i64 m2,.int .i64 m3,.int .i64 m4,.int .i64 m5,.int .i64 m6,.int .i64 m7,.rs (5,0) cp,.rs (4,0) cl,.rs (3,0) cd]]))
 (br (n88 == 4)
 (some ((.int .i64 (5)),[.op [.os (5,0) l94,.int .i64 m1,.int .i64 m2,.int .i64 m3,.int .i64 m4,.int .i64 m5,.int .i64 m6,.int .i64 m7,.rs (5,0) cp,.rs (4,0) cl,.rs (3,0) cd]]))
 (ac V 185 [.op [.os (5,0) l94,.int .i64 m1,.int .i64 m2,.int .i64 m3,.int .i64 m4,.int .i64 m5,.int .i64 m6,.int .i64 m7,.rs (5,0) cp,.rs (4,0) cl,.rs (3,0) cd],.int .i64 n85] fun x95 l96 =>
 b6 x95 fun l97 => unn l97 (unc l96 fun x98 l99 => tk6 x98 fun l103 n106 n109 n112 n115 n118 n121 n124 l127 l130 l133 => (unn l99 (some ((.int .i64 (0)),[(.op [.os (5,0) l103,(.int .i64 (IntKind.wrap IntKind.i64 (n106 + 1))),.int .i64 n109,.int .i64 n112,.int .i64 n115,.int .i64 n118,.int .i64 n121,.int .i64 n124,.rs (5,0) l127,.rs (4,0) l130,.rs (3,0) l133])]))))))))))))) := by
  exact (ay Tryz.func205 rfl _).trans (by kernel_rfl)
theorem pu (p : List D) (m1 m2 m3 m4 m5 m6 m7 : Int) (cp cl cd : List D) (s : ByteArray) : V 187 [.op [.os (5,0) p,.int .i64 m1,.int .i64 m2,.int .i64 m3,.int .i64 m4,.int .i64 m5,.int .i64 m6,.int .i64 m7,.rs (5,0) cp,.rs (4,0) cl,.rs (3,0) cd],.str s] =
 ac V 125 [.agg [.rs (5,0) cp,.rs (4,0) cl,.rs (3,0) cd],.str s] fun x0 l1 =>
 asI .i64 x0 fun n2 => unn l1 (br (decide (n2 ≥ 0))
 (grd (decide (0 ≤ n2) && decide (n2 < ni (List.length cd))) (am cd (Int.toNat n2) fun x3 =>
 wk x3 fun _ n10 n13 => (ac V 157 [.op [.os (5,0) p],(.agg [.int .i64 (1),.int .i64 (0),.str ({ data := #[] }),.int .i64 (0),.int .i64 (0)])] fun x14 l15 =>
 asI .i64 x14 fun n16 => unc l15 fun x17 l18 => bz x17 fun l19 => unc l19 fun x20 l21 => aM (5,0) x20 fun l22 => unn l21 (unn l18 (ac V 157 [.op [.os (5,0) l22],(.agg [.int .i64 (6),(.int .i64 (IntKind.wrap IntKind.i64 (IntKind.wrap IntKind.i64 (8 * n10) + n13))),.str ({ data := #[] }),.int .i64 n16,.int .i64 (0)])] fun x23 l24 =>
 asI .i64 x23 fun n25 => unc l24 fun x26 l27 => bz x26 fun l28 => unc l28 fun x29 l30 => aM (5,0) x29 fun l31 => unn l30 (unn l27 (ac V 185 [.op [.os (5,0) l31,.int .i64 m1,.int .i64 m2,.int .i64 m3,.int .i64 m4,.int .i64 m5,.int .i64 m6,.int .i64 m7,.rs (5,0) cp,.rs (4,0) cl,.rs (3,0) cd],.int .i64 n25] fun x32 l33 =>
 b6 x32 fun l34 => unn l34 (unc l33 fun x35 l36 => tk6 x35 fun l40 n43 n46 n49 n52 n55 n58 n61 l64 l67 l70 => (unn l36 (some ((.int .i64 (0)),[.op [.os (5,0) l40,.int .i64 n43,.int .i64 n46,.int .i64 n49,.int .i64 n52,.int .i64 n55,.int .i64 n58,.int .i64 n61,.rs (5,0) l64,.rs (4,0) l67,.rs (3,0) l70]])))))))))))
 (ac V 208 [.str s] fun x71 l72 =>
 asI .i64 x71 fun n73 => unn l72 (br (n73 == 0)
 (some ((.int .i64 (1)),[.op [.os (5,0) p,.int .i64 m1,.int .i64 m2,.int .i64 m3,.int .i64 m4,.int .i64 m5,.int .i64 m6,.int .i64 m7,.rs (5,0) cp,.rs (4,0) cl,.rs (3,0) cd]]))
 (ac V 157 [.op [.os (5,0) p],(.agg [.int .i64 (8),.int .i64 n73,.str ({ data := #[] }),.int .i64 (0),.int .i64 (0)])] fun x74 l75 =>
 asI .i64 x74 fun n76 => unc l75 fun x77 l78 => bz x77 fun l79 => unc l79 fun x80 l81 => aM (5,0) x80 fun l82 => unn l81 (unn l78 (ac V 185 [.op [.os (5,0) l82,.int .i64 m1,.int .i64 m2,.int .i64 m3,.int .i64 m4,.int .i64 m5,.int .i64 m6,.int .i64 m7,.rs (5,0) cp,.rs (4,0) cl,.rs (3,0) cd],.int .i64 n76] fun x83 l84 =>
 b6 x83 fun l85 => unn l85 (unc l84 fun x86 l87 => tk6 x86 fun l91 n94 n97 n100 n103 n106 n109 n112 l115 l118 l121 => (unn l87 (some ((.int .i64 (0)),[.op [.os (5,0) l91,.int .i64 n94,.int .i64 n97,.int .i64 n100,.int .i64 n103,.int .i64 n106,.int .i64 n109,.int .i64 n112,.rs (5,0) l115,.rs (4,0) l118,.rs (3,0) l121]])))))))))) := by
  exact (ay Tryz.func187 rfl _).trans (by kernel_rfl)
theorem jC (p0 p1 : Int) (p2 : List D) : fu p0 p1 p2 =
 br (decide (p1 < ni (List.length p2)))
 (grd (decide (0 ≤ p1) && decide (p1 < ni (List.length p2))) (am p2 (Int.toNat p1) fun x0 =>
 asAgg x0 fun l1 => nam (List.set p2 (Int.toNat p1) (D.agg (List.take 0 l1 ++ [D.int IntKind.i64 p0] ++ List.drop 1 l1))) fun l2 =>
 grd (decide (0 ≤ p1) && decide (p1 < ni (List.length l2))) (am l2 (Int.toNat p1) fun x3 =>
 asAgg x3 fun l4 => nam (List.set l2 (Int.toNat p1) (D.agg (List.take 1 l4 ++ [D.int IntKind.i64 (IntKind.wrap IntKind.i64 (p0 + 1))] ++ List.drop 2 l4))) fun l5 =>
 ac V 121 [(.int .i64 (IntKind.wrap IntKind.i64 (IntKind.wrap IntKind.i64 (p0 + 1) + 1)))] fun x6 l7 =>
 asS x6 fun s8 => unn l7 (grd (decide (0 ≤ p1) && decide (p1 < ni (List.length l5))) (am l5 (Int.toNat p1) fun x9 =>
 asAgg x9 fun l10 => nam (List.set l5 (Int.toNat p1) (D.agg (List.take 2 l10 ++ [D.str s8] ++ List.drop 3 l10))) fun l11 =>
 grd (decide (0 ≤ p1) && decide (p1 < ni (List.length l11))) (am l11 (Int.toNat p1) fun x12 =>
 asAgg x12 fun l13 => nam (List.set l11 (Int.toNat p1) (D.agg (List.take 3 l13 ++ [D.int IntKind.i64 (IntKind.wrap IntKind.i64 (IntKind.wrap IntKind.i64 (IntKind.wrap IntKind.i64 (p0 + 1) + 1) + 1))] ++ List.drop 4 l13))) fun l14 =>
 grd (decide (0 ≤ p1) && decide (p1 < ni (List.length l14))) (am l14 (Int.toNat p1) fun x15 =>
 asAgg x15 fun l16 => nam (List.set l14 (Int.toNat p1) (D.agg (List.take 4 l16 ++ [D.int IntKind.i64 (IntKind.wrap IntKind.i64 (IntKind.wrap IntKind.i64 (IntKind.wrap IntKind.i64 (IntKind.wrap IntKind.i64 (p0 + 1) + 1) + 1) + 1))] ++ List.drop 5 l16))) fun l17 =>
 fu (IntKind.wrap IntKind.i64 (IntKind.wrap IntKind.i64 (IntKind.wrap IntKind.i64 (IntKind.wrap IntKind.i64 (IntKind.wrap IntKind.i64 (p0 + 1) + 1) + 1) + 1) + 1)) (IntKind.wrap IntKind.i64 (p1 + 1)) l17)))))))
 (some ((.int .i64 p0),[.os (5,0) p2])) := by
  exact (bQ _ _ _).trans (by kernel_rfl)
theorem xi (a0_ : Int) : V 223 [.int .i64 a0_] =
 ac V 58 [.int .i64 a0_,.int .i64 (1),.int .i64 (19)] fun x0 l1 =>
 asB x0 fun b2 => unn l1 (br (!b2)
 (some ((.int .i64 (-1)),[]))
 (grd (decide (0 ≤ IntKind.wrap IntKind.i64 (a0_ - 1)) && decide (IntKind.wrap IntKind.i64 (a0_ - 1) < ni 19)) (am ([D.int IntKind.i64 (2),D.int IntKind.i64 (2),D.int IntKind.i64 (2),D.int IntKind.i64 (2),D.int IntKind.i64 (2),D.int IntKind.i64 (2),D.int IntKind.i64 (1),D.int IntKind.i64 (1),D.int IntKind.i64 (1),D.int IntKind.i64 (1),D.int IntKind.i64 (2),D.int IntKind.i64 (1),D.int IntKind.i64 (1),D.int IntKind.i64 (0),D.int IntKind.i64 (2),D.int IntKind.i64 (0),D.int IntKind.i64 (1),D.int IntKind.i64 (1),D.int IntKind.i64 (1)]) (Int.toNat (IntKind.wrap IntKind.i64 (a0_ - 1))) fun x3 =>
 asI .i64 x3 fun n4 => some ((.int .i64 n4),[])))) := by
  exact (ay Tryz.func223 rfl _).trans (by kernel_rfl)
theorem gJ (p0 : List D) (p1 p2 : Int) : gE p0 p1 p2 =
 br (decide (p2 < ni (List.length p0)))
 (grd (decide (0 ≤ p2) && decide (p2 < ni (List.length p0))) (am p0 (Int.toNat p2) fun x0 =>
 tk1 x0 fun n4 n7 s10 n13 n16 => (ac V 198 [.agg [.int .i64 n4,.int .i64 n7,.str s10,.int .i64 n13,.int .i64 n16],.int .i64 p1] fun x17 l18 =>
 asI .i64 x17 fun n19 => unn l18 (br (decide (n19 < 0))
 (some ((.int .i64 (-1)),[]))
 (gE p0 n19 (IntKind.wrap IntKind.i64 (p2 + 1)))))))
 (some ((.int .i64 p1),[])) := by
  exact (bQ _ _ _).trans (by kernel_rfl)
theorem yg (a0_0 a0_1 a0_2 : List D) (a1_ : Int) : V 40 [.agg [.os (5,0) a0_0,.os (4,0) a0_1,.os (3,0) a0_2],.int .i64 a1_] =
 ac V 108 [.agg [.os (5,0) a0_0],.int .i64 a1_] fun x0 l1 =>
 asI .i64 x0 fun n2 => unc l1 fun x3 l4 => asAgg x3 fun l5 => unc l5 fun x6 l7 => aM (5,0) x6 fun l8 => unn l7 (unn l4 (ac V 109 [.os (4,0) a0_1,.int .i64 n2] fun x9 l10 =>
 asI .i64 x9 fun n11 => unc l10 fun x12 l13 => aM (4,0) x12 fun l14 => unn l13 (ac V 110 [.os (3,0) a0_2,.int .i64 n11] fun x15 l16 =>
 asI .i64 x15 fun n17 => unc l16 fun x18 l19 => aM (3,0) x18 fun l20 => unn l19 (some ((.int .i64 n17),[.agg [.os (5,0) l8,.os (4,0) l14,.os (3,0) l20]]))))) := by
  exact (ay Tryz.func40 rfl _).trans (by kernel_rfl)
theorem tK (a0_0 : List D) (a0_1 a0_2 a0_3 a0_4 a0_5 a0_6 a0_7 a1_ : Int) : V 41 [.agg [.os (5,0) a0_0,.int .i64 a0_1,.int .i64 a0_2,.int .i64 a0_3,.int .i64 a0_4,.int .i64 a0_5,.int .i64 a0_6,.int .i64 a0_7],.int .i64 a1_] =
 ac V 108 [.agg [.os (5,0) a0_0],.int .i64 a1_] fun x0 l1 =>
 asI .i64 x0 fun n2 => unc l1 fun x3 l4 => asAgg x3 fun l5 => unc l5 fun x6 l7 => aM (5,0) x6 fun l8 => unn l7 (unn l4 (some ((.int .i64 n2),[.agg [.os (5,0) l8,.int .i64 a0_1,.int .i64 a0_2,.int .i64 a0_3,.int .i64 a0_4,.int .i64 a0_5,.int .i64 a0_6,.int .i64 a0_7]]))) := by
  exact (ay Tryz.func41 rfl _).trans (by kernel_rfl)
theorem jS (p0 : List D) (p1 p2 : Int) (p3 : List D) : fx p0 p1 p2 p3 =
 br (decide (p2 ≥ 0))
 (grd (decide (0 ≤ p2) && decide (p2 < ni (List.length p0))) (am p0 (Int.toNat p2) fun x9 =>
 asI .i64 x9 fun n10 => ac V 94 [.op [.os (5,0) p3],.int .i64 n10,.int .i64 p1] fun x11 l12 =>
 asI .i64 x11 fun n13 => unc l12 fun x14 l15 => bz x14 fun l16 => unc l16 fun x17 l18 => aM (5,0) x17 fun l19 => unn l18 (unn l15 (fx p0 n13 (IntKind.wrap IntKind.i64 (p2 - 1)) l19))))
 (some ((.int .i64 p1),[.op [.os (5,0) p3]])) := by
  exact (bQ _ _ _).trans (by kernel_rfl)
theorem vY (a0_0 : List D) (a0_1 a0_2 a0_3 a0_4 a0_5 a0_6 a0_7 : Int) : V 37 [.agg [.rs (5,0) a0_0,.int .i64 a0_1,.int .i64 a0_2,.int .i64 a0_3,.int .i64 a0_4,.int .i64 a0_5,.int .i64 a0_6,.int .i64 a0_7]] =
 ac V 102 [.agg [.rs (5,0) a0_0]] fun x0 l1 =>
 asAgg x0 fun l2 => unc l2 fun x3 l4 => aM (5,0) x3 fun l5 => unn l4 (unn l1 (some ((.agg [.os (5,0) l5,.int .i64 a0_1,.int .i64 a0_2,.int .i64 a0_3,.int .i64 a0_4,.int .i64 a0_5,.int .i64 a0_6,.int .i64 a0_7]),[]))) := by
  exact (ay Tryz.func37 rfl _).trans (by kernel_rfl)
theorem B9 (p l : List D) : V 210 [.op [.os (5,0) p],.rs (1,0) l] =
 ac V 158 [.op [.os (5,0) p],(.agg [.int .i64 (1),.int .i64 (0),.str ({ data := #[] }),.int .i64 (0),.int .i64 (0)])] fun x0 l1 =>
 asI .i64 x0 fun n2 => unc l1 fun x3 l4 => bz x3 fun l5 => unc l5 fun x6 l7 => aM (5,0) x6 fun l8 => unn l7 (unn l4 (i4 l n2 (IntKind.wrap IntKind.i64 (ni (List.length l) - 1)) l8)) := by
  exact (ay Tryz.func210 rfl _).trans (by kernel_rfl)
theorem sF (p q l : List D) : V 137 [.op [.os (5,0) p],.agg [.rs (5,0) q],.rs (1,0) l] =
 grd (decide (0 ≤ ni (List.length q)) && decide (ni (List.length q) ≤ LIM)) (ac V 189 [.agg [.rs (5,0) q],.rs (1,0) l] fun x0 l1 =>
 aM (1,0) x0 fun l2 => unn l1 (bC q (ni (List.length q)) (0) (List.replicate (Int.toNat (ni (List.length q))) (D.int IntKind.i64 (0))) l2 p)) := by
  exact (ay Tryz.func137 rfl _).trans (by kernel_rfl)
theorem y0 (a0_0 a1_ : List D) : V 65 [.agg [.rs (5,0) a0_0],.rs (1,0) a1_] =
 ac V 55 [.agg [.rs (5,0) a0_0]] fun x0 l1 =>
 asB x0 fun b2 => unn l1 (br b2
 (ac V 135 [.rs (1,0) a1_,(.fn 136 [(.bp [.rs (5,0) a0_0])])] fun x3 l4 =>
 asB x3 fun b5 => unn l4 (some ((.bool (!b5)),[])))
 (some ((.bool false),[]))) := by
  exact (ay Tryz.func65 rfl _).trans (by kernel_rfl)
theorem Ct (a0_0 a0_1 : Int) (a0_2 : ByteArray) (a0_3 a0_4 : Int) : V 199 [.agg [.int .i64 a0_0,.int .i64 a0_1,.str a0_2,.int .i64 a0_3,.int .i64 a0_4]] =
 some ((.agg [.int .i64 a0_0,.int .i64 a0_1,.str a0_2,.int .i64 a0_3,.int .i64 a0_4]),[]) := by
  exact (ay Tryz.func199 rfl _).trans (by kernel_rfl)
theorem sO (a0_ : List D) (a1_ : Int) : V 100 [.rs (3,0) a0_,.int .i64 a1_] =
 br (decide (IntKind.wrap IntKind.i64 (a1_ - ni (List.length a0_)) < 0))
 (some ((.int .i64 (-1)),[]))
 (iP a0_ (IntKind.wrap IntKind.i64 (a1_ - ni (List.length a0_))) (0)) := by
  exact (ay Tryz.func100 rfl _).trans (by kernel_rfl)
theorem wc (p : List D) (n : Int) (l : List D) : V 224 [.op [.os (5,0) p],.int .i64 n,.rs (1,0) l] =
 bE n l l (ni (List.length l)) (0) p := by
  exact (ay Tryz.func224 rfl _).trans (by kernel_rfl)
theorem uk (a0_ : List D) (a1_ : Int) : V 109 [.os (4,0) a0_,.int .i64 a1_] =
 eU a1_ (0) a0_ := by
  exact (ay Tryz.func109 rfl _).trans (by kernel_rfl)
theorem sJ (p : List D) (v : Int) : V 119 [.op [.os (5,0) p],.int .i64 v] =
 eh v [] p := by
  exact (ay Tryz.func119 rfl _).trans (by kernel_rfl)

end Go.Eng
