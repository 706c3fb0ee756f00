/- the program and the reference on plain data, part 3 -/
import Derived.Test.YtkndfhaehnfnmaaGreatPart1
import Derived.Test.YtkndfhaehnfnmaaGreatPart2
import Derived.Test.YtkndfhaehnfnmaaGreatEngC
/-! nodes and pools: when they are right,on both sides -/
namespace Go.Eng
noncomputable section
open Go.Proofs Go.Proofs.Tryz

theorem y5 (b c : Bool) (l : List D) : br b (some (D.bool c,l)) (some (D.bool false,l)) = some (D.bool (b && c),l) := by cases b <;> rfl
theorem VG (b c : Bool) (l : List D) : br b (some (D.bool true,l)) (some (D.bool c,l)) = some (D.bool (b || c),l) := by cases b <;> rfl
theorem JF (b c : Bool) (l : List D) : br b (some (D.bool false,l)) (some (D.bool c,l)) = some (D.bool (!b && c),l) := by cases b <;> rfl

structure Nd where
 kind : Int
 n : Int
 s : ByteArray
 a : Int
 b : Int
abbrev eN (x : Nd) : D := .agg [iN x.kind,iN x.n,.str x.s,iN x.a,iN x.b]
section
variable {R : Type}
theorem GY (x : Nd) (K : Int -> Int -> ByteArray -> Int -> Int -> Option R) : tk6 (eN x) (fun n4 n7 s10 n13 n16 => (K n4 n7 s10 n13 n16)) = K x.kind x.n x.s x.a x.b := rfl
theorem Yf (x : Nd) (K : Int -> Option R) : asAgg (eN x) (fun l => cT l 0 fun y => asI .i64 y fun n => K n) = K x.kind := rfl
theorem Yg (x : Nd) (K : Int -> Option R) : asAgg (eN x) (fun l => cT l 1 fun y => asI .i64 y fun n => K n) = K x.n := rfl
theorem Yh (x : Nd) (K : ByteArray -> Option R) : asAgg (eN x) (fun l => cT l 2 fun y => asS y fun n => K n) = K x.s := rfl
theorem Yi (x : Nd) (K : Int -> Option R) : asAgg (eN x) (fun l => cT l 3 fun y => asI .i64 y fun n => K n) = K x.a := rfl
theorem Yj (x : Nd) (K : Int -> Option R) : asAgg (eN x) (fun l => cT l 4 fun y => asI .i64 y fun n => K n) = K x.b := rfl
end

theorem zb (n lo hi : Int) : V 58 [iN n,iN lo,iN hi] = some (.bool (wi n lo hi),[]) := (PO n lo hi).trans xG
theorem zU (n lo hi : Int) : V 62 [iN n,iN lo,iN hi] = some (.bool (wi n lo hi),[]) := (Tu n lo hi).trans xG
theorem QT (a b : Int) : V 116 [iN a,iN b] = some (iN (mnI a b),[]) := by
 rw [Rq]
 unfold mnI
 by_cases h : a < b
 ·rw [xK (decide_eq_true h),if_neg (by omega)]
 ·rw [xb (decide_eq_false h)]
  by_cases h2 : b < a
  ·rw [if_pos h2]
  ·rw [if_neg h2,show b = a by omega]

def nmB (c : Int) : Bool := (decide (c >= 97) && decide (c <= 122)) || [43,45,42,60,61,63,33,47].any fun x => c == x
theorem MI {l : List Int} (hl : l.length < 4611686018427387904) (c : Int) : ∀ (k i : Nat),i + k = l.length -> zy (l.map (D.int .u8)) c (ni (l.map (D.int .u8)).length) (i : Int) = some (iN (dQ (fun x => c == x) l i),[])
 | 0,i,hi => by
  rw [Av,xb (by rw [lnM]; exact yr (by omega)),w8 (by omega)]
 | k + 1,i,hi => by
  obtain ⟨x,hx⟩ := xx (l := l) (i := i) (by omega)
  have ih := MI hl c k (i + 1) (by omega)
  rw [Av,xK (by rw [lnM]; exact yz (by omega)),yu (by rw [lnM]; exact yx (by omega)),Int.toNat_natCast,xW hx,ye]
  cases h : c == x with
  | true => rw [yk,w9 hx h]
  | false => rw [xJ,yM (by omega),ih,wJ hx h]
theorem Wc {l : List Int} {c : Int} : decide (ya (fun x => c == x) l >= 0) = l.any fun x => c == x := by
 unfold ya
 cases h : l.findIdx? fun x => c == x with
 | none =>
  have := List.findIdx?_eq_none_iff.1 h
  symm
  simpa [List.any_eq_false] using this
 | some k =>
  have h2 : (l.any fun x => c == x) = true := by
   rw [List.findIdx?_eq_some_iff_getElem] at h
   obtain ⟨hk,h3,_⟩ := h
   exact List.any_eq_true.2 ⟨l[k],List.getElem_mem hk,h3⟩
  rw [h2]
  simp
theorem Uf {l : List Int} (hl : l.length < 4611686018427387904) (c : Int) : V 203 [.rs (1,0) (l.map (D.int .u8)),.int .u8 c] = some (.bool (l.any fun x => c == x),[]) := by
 have h : V 221 [.rs (1,0) (l.map (D.int .u8)),.int .u8 c] = some (iN (ya (fun x => c == x) l),[]) := by
  rw [Gc,<- wK]
  exact MI hl c l.length 0 (Nat.zero_add _)
 rw [DR,Eh h,Wc]
theorem QR (c : Int) : V 177 [.int .u8 c] = some (.bool (nmB c),[]) := by
 have h := Uf (l := [43,45,42,60,61,63,33,47]) (by simp) c
 simp only [List.map_cons,List.map_nil] at h
 rw [Ku,yu (by decide),Di h]
 unfold nmB
 cases decide (c >= 97) <;> cases decide (c <= 122) <;> rfl
theorem Kc (c : Int) : V 180 [.int .u8 c] = some (.bool (nmB c),[]) := by
 rw [KE]
 simp only [VG,nmB,List.any_cons,List.any_nil,Bool.or_false]
 cases decide (c >= 97) <;> cases decide (c <= 122) <;> rfl

def QB (s : ByteArray) : Nat -> Nat -> Bool
 | _,0 => true
 | i,k + 1 => nmB (bt s i) && QB s (i + 1) k
def GI (s : ByteArray) : Bool := wi s.size 1 12 && QB s 0 s.size
theorem GV {s : ByteArray} (hl : s.size < 4611686018427387904) : ∀ (k i : Nat),i + k = s.size -> AE s (ni s.size) (i : Int) = some (.bool (QB s i k),[])
 | 0,i,hi => by rw [Eo,xb (yr (by omega))]; rfl
 | k + 1,i,hi => by
  rw [Eo,xK (yz (by omega)),yu (yx (by omega)),LF (QR _),yM (by omega),GV hl k (i + 1) (by omega),JF,Bool.not_not]
  rfl
theorem Iq {s : ByteArray} (hl : s.size < 4611686018427387904) : ∀ (k i : Nat),i + k = s.size -> AF s (i : Int) = some (.bool (QB s i k && wi s.size 1 12),[])
 | 0,i,hi => by rw [EE,xb (yr (by omega)),zB (zU _ _ _)]; rfl
 | k + 1,i,hi => by
  rw [EE,xK (yz (by omega)),yu (yx (by omega)),GF (Kc _),yM (by omega),Iq hl k (i + 1) (by omega),JF,Bool.not_not,<- Bool.and_assoc]
  rfl
theorem FG {s : ByteArray} (hl : s.size < 4611686018427387904) : V 124 [.str s] = some (.bool (GI s),[]) := by
 have h : AE s (ni s.size) 0 = _ := GV hl s.size 0 (Nat.zero_add _)
 rw [PH,zg (zb _ _ _),h,JF,Bool.not_not]
 rfl
theorem CN {s : ByteArray} (hl : s.size < 4611686018427387904) : V 128 [.str s] = some (.bool (GI s),[]) := by
 have h : AF s 0 = _ := Iq hl s.size 0 (Nat.zero_add _)
 rw [PT,h,Bool.and_comm]
 rfl

def nz (s : ByteArray) : Bool := kc s ⟨#[]⟩
def okN (x : Nd) (h : Int) : Bool :=
 if x.kind = 1 then wi x.n 0 0 && (nz x.s && (x.a == 0 && x.b == 0))
 else if x.kind = 2 then wi x.n 0 1 && (nz x.s && (x.a == 0 && x.b == 0))
 else if x.kind = 3 then wi x.n (-1000000000) 1000000000 && (nz x.s && (x.a == 0 && x.b == 0))
 else if x.kind = 4 then wi x.n 0 0 && (GI x.s && (x.a == 0 && x.b == 0))
 else if x.kind = 5 then wi x.n 0 0 && (nz x.s && (wi x.a 0 (h - 1) && wi x.b 0 (h - 1)))
 else if x.kind = 6 then wi x.n 0 1000000000 && (nz x.s && (wi x.a 0 (h - 1) && x.b == 0))
 else if x.kind = 7 then wi x.n 0 0 && (nz x.s && (wi x.a 0 (h - 1) && x.b == 0))
 else if x.kind = 8 then wi x.n 0 99 && (nz x.s && (x.a == 0 && x.b == 0))
 else if x.kind = 9 then wi x.n 0 1000000000 && (nz x.s && (x.a == 0 && x.b == 0))
 else false
theorem Xe (n : Int) : wi n 0 0 = (n == 0) := by
 unfold wi
 by_cases h : n = 0
 ·subst h; rfl
 ·have : (n == 0) = false := by simp [h]
  rw [this]
  simp; omega

theorem OD {x : Nd} (hs : x.s.size < 4611686018427387904) {h : Int} (h0 : -4611686018427387904 < h) (h1 : h < 4611686018427387904) : V 126 [eN x,iN h] = some (.bool (okN x h),[]) := by
 rw [PN,w64 (n := h - 1) (by omega) (by omega)]
 unfold okN
 by_cases e1 : x.kind = 1
 ·rw [xK (by simp [e1]),if_pos e1,zg (zb _ _ _)]; simp only [y5]; rfl
 rw [xb (by simp [e1]),if_neg e1]
 by_cases e2 : x.kind = 2
 ·rw [xK (by simp [e2]),if_pos e2,zg (zb _ _ _)]; simp only [y5]; rfl
 rw [xb (by simp [e2]),if_neg e2]
 by_cases e3 : x.kind = 3
 ·rw [xK (by simp [e3]),if_pos e3,zg (zb _ _ _)]; simp only [y5]; rfl
 rw [xb (by simp [e3]),if_neg e3]
 by_cases e4 : x.kind = 4
 ·rw [xK (by simp [e4]),if_pos e4,R9 (FG hs),zg (zb _ _ _)]; simp only [y5]
 rw [xb (by simp [e4]),if_neg e4]
 by_cases e5 : x.kind = 5
 ·rw [xK (by simp [e5]),if_pos e5,zg (zb _ _ _),zg (zb _ _ _),zg (zb _ _ _)]; simp only [y5]; rfl
 rw [xb (by simp [e5]),if_neg e5]
 by_cases e6 : x.kind = 6
 ·rw [xK (by simp [e6]),if_pos e6,zg (zb _ _ _),zg (zb _ _ _)]; simp only [y5]; rfl
 rw [xb (by simp [e6]),if_neg e6]
 by_cases e7 : x.kind = 7
 ·rw [xK (by simp [e7]),if_pos e7,zg (zb _ _ _),zg (zb _ _ _)]; simp only [y5]; rfl
 rw [xb (by simp [e7]),if_neg e7]
 by_cases e8 : x.kind = 8
 ·rw [xK (by simp [e8]),if_pos e8,zg (zb _ _ _)]; simp only [y5]; rfl
 rw [xb (by simp [e8]),if_neg e8]
 by_cases e9 : x.kind = 9
 ·rw [xK (by simp [e9]),if_pos e9,zg (zb _ _ _)]; simp only [y5]; rfl
 rw [xb (by simp [e9]),if_neg e9]

theorem Wt {x : Nd} (hs : x.s.size < 4611686018427387904) {h : Int} (h0 : -4611686018427387904 < h) (h1 : h < 4611686018427387904) : V 130 [eN x,iN h] = some (.bool (okN x h),[]) := by
 rw [Qd,w64 (n := h - 1) (by omega) (by omega),zB (zU _ _ _),zB (zU _ _ _)]
 unfold okN
 have hss : kc x.s x.s = true := by rw [Cm]; simp
 by_cases e1 : x.kind = 1
 ·rw [xK (by simp [e1]),if_pos e1,e1,Xe]; simp [nz]
 rw [xb (by simp [e1]),if_neg e1]
 by_cases e2 : x.kind = 2
 ·rw [xK (by simp [e2]),if_pos e2,e2,zB (zU _ _ _)]; simp only [y5]; simp [nz]
 rw [xb (by simp [e2]),if_neg e2]
 by_cases e3 : x.kind = 3
 ·rw [xK (by simp [e3]),if_pos e3,e3,zB (zU _ _ _)]; simp only [y5]; simp [nz]
 rw [xb (by simp [e3]),if_neg e3]
 by_cases e4 : x.kind = 4
 ·rw [xK (by simp [e4]),if_pos e4,e4,Lg (CN hs),Xe,hss]; simp only [y5]
  cases GI x.s <;> cases x.n == 0 <;> simp
 rw [xb (by simp [e4]),if_neg e4]
 by_cases e5 : x.kind = 5
 ·rw [xK (by simp [e5]),if_pos e5,Xe]; simp only [y5]
  show some (D.bool (_ && (_ && (_ && nz x.s))),_) = _
  cases wi x.a 0 (h - 1) <;> cases wi x.b 0 (h - 1) <;> cases x.n == 0 <;> cases nz x.s <;> rfl
 rw [xb (by simp [e5]),if_neg e5]
 by_cases e6 : x.kind = 6
 ·rw [xK (by simp [e6]),if_pos e6,zB (zU _ _ _)]; simp only [y5]
  show some (D.bool (_ && (_ && (_ && nz x.s))),_) = _
  cases wi x.a 0 (h - 1) <;> cases wi x.n 0 1000000000 <;> cases x.b == 0 <;> cases nz x.s <;> rfl
 rw [xb (by simp [e6]),if_neg e6]
 by_cases e7 : x.kind = 7
 ·rw [xK (by simp [e7]),if_pos e7,Xe]; simp only [y5]
  show some (D.bool (_ && (_ && (_ && nz x.s))),_) = _
  cases wi x.a 0 (h - 1) <;> cases x.n == 0 <;> cases x.b == 0 <;> cases nz x.s <;> rfl
 rw [xb (by simp [e7]),if_neg e7]
 by_cases e8 : x.kind = 8
 ·rw [xK (by simp [e8]),if_pos e8,e8,zB (zU _ _ _)]; simp only [y5]; simp [nz]
 rw [xb (by simp [e8]),if_neg e8]
 by_cases e9 : x.kind = 9
 ·rw [xK (by simp [e9]),if_pos e9,e9,zB (zU _ _ _)]; simp only [y5]; simp [nz]
 rw [xb (by simp [e9]),if_neg e9]

abbrev eP (p : List Nd) : D := .agg [.rs (5,0) (p.map eN)]
abbrev oP (p : List Nd) : D := .agg [.os (5,0) (p.map eN)]
abbrev rP (p : List Nd) : D := .op [.os (5,0) (p.map eN)]
def Ac (p : List Nd) : Prop := ∀ x ∈ p,x.s.size < 4611686018427387904
def FA (p : List Nd) : Nat -> Nat -> Bool
 | _,0 => true
 | i,k + 1 => (match p[i]? with | some x => okN x i | none => true) && FA p (i + 1) k
def yR (p : List Nd) : Bool := FA p 0 p.length && decide ((p.length : Int) <= 3000)
theorem GW {p : List Nd} (hf : Ac p) (hl : p.length < 4611686018427387904) : ∀ (k i : Nat),i + k = p.length -> BM (p.map eN) (ni (p.map eN).length) (i : Int) (p.map eN) = some (.bool (FA p i k && decide ((p.length : Int) <= 3000)),[])
 | 0,i,hi => by
  rw [Eu,xb (by rw [lnM]; exact yr (by omega)),lnM]; rfl
 | k + 1,i,hi => by
  obtain ⟨x,hx⟩ := xx (l := p) (i := i) (by omega)
  rw [Eu,xK (by rw [lnM]; exact yz (by omega)),yu (by rw [lnM]; exact yx (by omega)),Int.toNat_natCast,xW hx,GY,Sc (OD (hf x (List.mem_of_getElem? hx)) (by omega) (by omega)),yM (by omega),GW hf hl k (i + 1) (by omega),JF,Bool.not_not,<- Bool.and_assoc]
  simp only [FA,hx]
theorem Ir {p : List Nd} (hf : Ac p) (hl : p.length < 4611686018427387904) : ∀ (k i : Nat),i + k = p.length -> BW (i : Int) (p.map eN) = some (.bool (FA p i k && decide ((p.length : Int) <= 3000)),[])
 | 0,i,hi => by
  rw [EF,xb (by rw [lnM]; exact yr (by omega)),lnM]; rfl
 | k + 1,i,hi => by
  obtain ⟨x,hx⟩ := xx (l := p) (i := i) (by omega)
  rw [EF,xK (by rw [lnM]; exact yz (by omega)),yu (by rw [lnM]; exact yx (by omega)),Int.toNat_natCast,xW hx,GY,Sf (Wt (hf x (List.mem_of_getElem? hx)) (by omega) (by omega)),yM (by omega),Ir hf hl k (i + 1) (by omega),JF,Bool.not_not,<- Bool.and_assoc]
  simp only [FA,hx]
theorem zO {p : List Nd} (hf : Ac p) (hl : p.length < 4611686018427387904) : V 55 [eP p] = some (.bool (yR p),[]) := by
 rw [PI]; exact GW hf hl p.length 0 (Nat.zero_add _)
theorem z8 {p : List Nd} (hf : Ac p) (hl : p.length < 4611686018427387904) : V 60 [eP p] = some (.bool (yR p),[]) := by
 rw [PU]; exact Ir hf hl p.length 0 (Nat.zero_add _)
end
end Go.Eng
/-! what is reached,on both sides -/
namespace Go.Eng
noncomputable section
open Go.Proofs Go.Proofs.Tryz

abbrev eI : Int -> D := D.int .i64
theorem wi_iff {n lo hi : Int} : wi n lo hi = true ↔ lo <= n /\ n <= hi := by simp [wi]

theorem Nh {p : List Nd} : ∀ {k i j : Nat} {x : Nd},FA p i k = true -> i <= j -> j < i + k -> p[j]? = some x -> okN x j = true
 | 0,i,j,x,_,h1,h2,_ => by omega
 | k + 1,i,j,x,h,h1,h2,hx => by
  simp only [FA,Bool.and_eq_true] at h
  by_cases e : i = j
  ·subst e; rw [hx] at h; exact h.1
  ·exact Nh h.2 (by omega) (by omega) hx
theorem zp {p : List Nd} (h : yR p = true) {j : Nat} {x : Nd} (hx : p[j]? = some x) : okN x j = true := by
 simp only [yR,Bool.and_eq_true] at h
 exact Nh h.1 (Nat.zero_le _) (by have := aQ hx; omega) hx
theorem zh {p : List Nd} (h : yR p = true) : p.length <= 3000 := by
 simp only [yR,Bool.and_eq_true,decide_eq_true_eq] at h; omega
theorem zx {x : Nd} {h : Int} (ho : okN x h = true) (hk : x.kind = 5) : 0 <= x.a /\ x.a < h /\ 0 <= x.b /\ x.b < h := by
 simp [okN,hk,wi] at ho; omega
theorem Au {x : Nd} {h : Int} (ho : okN x h = true) (hk : x.kind = 6 \/ x.kind = 7) : 0 <= x.a /\ x.a < h := by
 rcases hk with hk | hk <;> simp [okN,hk,wi] at ho <;> omega

def z9 (p : List Nd) (rs : List Int) : Bool := rs.all fun r => wi r 0 ((p.length : Int) - 1)
theorem Bv {p : List Nd} (hl : p.length < 4611686018427387904) (r : Int) : V 56 [eP p,iN r] = some (.bool (wi r 0 ((p.length : Int) - 1)),[]) := by
 rw [PM,zg (zb _ _ _),lnM,w64 (by simp only [ni]; omega) (by simp only [ni]; omega)]
theorem Fm {p : List Nd} (hl : p.length < 4611686018427387904) (r : Int) : V 61 [eP p,iN r] = some (.bool (wi r 0 ((p.length : Int) - 1)),[]) := by
 rw [Rv,zB (zU _ _ _),lnM,w64 (by simp only [ni]; omega) (by simp only [ni]; omega)]
def zk (x : Nd) (m : List Bool) : List Bool := if x.kind = 5 then (m.set x.a.toNat true).set x.b.toNat true else if x.kind = 6 \/ x.kind = 7 then m.set x.a.toNat true else m
def zo (p : List Nd) : Nat -> List Bool -> List Bool
 | 0,m => m
 | k + 1,m => zo p k (match p[k]?,m[k]? with | some x,some true => zk x m | _,_ => m)
def Jy (rs : List Int) (m : List Bool) : List Bool := rs.foldl (fun m r => m.set r.toNat true) m
def Dk (p : List Nd) (rs : List Int) : List Bool := zo p p.length (Jy rs (List.replicate p.length false))
theorem Jg (x : Nd) (m : List Bool) : (zk x m).length = m.length := by
 unfold zk
 split
 ·simp
 ·split <;> simp
theorem Ig {p : List Nd} : ∀ (k : Nat) (m : List Bool),(zo p k m).length = m.length
 | 0,m => rfl
 | k + 1,m => by
  simp only [zo]
  rw [Ig k]
  split
  ·exact Jg _ _
  ·rfl
theorem FE : ∀ (rs : List Int) (m : List Bool),(Jy rs m).length = m.length
 | [],m => rfl
 | r :: rs,m => by
  have := FE rs (m.set r.toNat true)
  simpa [Jy] using this
theorem Az {n : Int} {l : Nat} (h0 : 0 <= n) (h1 : n < l) : (decide (0 <= n) && decide (n < ni l)) = true := by
 simp only [ni,Bool.and_eq_true,decide_eq_true_eq]; omega
theorem Cj {α : Type} {l : List α} {n : Int} (h0 : 0 <= n) (h1 : n < l.length) : ∃ x,l[n.toNat]? = some x := xx (by omega)
theorem CK {m : List Bool} {j : Nat} : List.set (m.map D.bool) j (D.bool true) = (m.set j true).map D.bool := by rw [List.map_set]

theorem zX {p : List Nd} (hp : yR p = true) : ∀ (k : Nat) (m : List Bool) (i : Int),i = (k : Int) - 1 -> k <= p.length -> m.length = p.length -> zD i (p.map eN) (m.map D.bool) = some (.os (1,0) ((zo p k m).map D.bool),[])
 | 0,m,i,hi,hk,hm => by
  rw [FI,xb (decide_eq_false (by omega))]; rfl
 | k + 1,m,i,hi,hk,hm => by
  have hl := zh hp
  have ei : i = (k : Int) := by omega
  subst ei
  obtain ⟨x,hx⟩ := xx (l := p) (i := k) (by omega)
  obtain ⟨b,hb⟩ := xx (l := m) (i := k) (by omega)
  have ho := zp hp hx
  have hw : w6 ((k : Int) - 1) = (k : Int) - 1 := w64 (by omega) (by omega)
  rw [FI,xK (decide_eq_true (by omega)),yu (by rw [lnM]; exact yx (by omega)),Int.toNat_natCast,xW hb,xI,hw]
  simp only [zo,hx,hb]
  cases b with
  | false => rw [Bool.not_false,yk]; exact zX hp k m _ rfl (by omega) hm
  | true =>
   show _ = some (D.os (1,0) ((zo p k (zk x m)).map D.bool),[])
   rw [Bool.not_true,xJ,yu (by rw [lnM]; exact yx (by omega)),xW hx,GY]
   by_cases h5 : x.kind = 5
   ·obtain ⟨a0,a1,b0,b1⟩ := zx ho h5
    obtain ⟨u,hu⟩ := Cj (l := m) (n := x.a) a0 (by omega)
    obtain ⟨v,hv⟩ := Cj (l := m.set x.a.toNat true) (n := x.b) b0 (by simp; omega)
    rw [xK (by simp [h5]),yu (by rw [List.length_map]; exact Az a0 (by omega)),xW hu,yA,CK,yu (by rw [List.length_map]; exact Az b0 (by simp; omega)),xW hv,yA,CK]
    simp only [zk,h5,if_true]
    exact zX hp k _ _ rfl (by omega) (by simp; omega)
   rw [xb (by simp [h5])]
   by_cases h6 : x.kind = 6
   ·obtain ⟨a0,a1⟩ := Au ho (.inl h6)
    obtain ⟨u,hu⟩ := Cj (l := m) (n := x.a) a0 (by omega)
    rw [xK (by simp [h6]),xK (by simp [h6]),yu (by rw [List.length_map]; exact Az a0 (by omega)),xW hu,yA,CK]
    have e : zk x m = m.set x.a.toNat true := by simp [zk,h6]
    rw [e]
    exact zX hp k _ _ rfl (by omega) (by simp; omega)
   rw [xb (by simp [h6])]
   by_cases h7 : x.kind = 7
   ·obtain ⟨a0,a1⟩ := Au ho (.inr h7)
    obtain ⟨u,hu⟩ := Cj (l := m) (n := x.a) a0 (by omega)
    rw [xK (by simp [h7]),yu (by rw [List.length_map]; exact Az a0 (by omega)),xW hu,yA,CK]
    have e : zk x m = m.set x.a.toNat true := by simp [zk,h7]
    rw [e]
    exact zX hp k _ _ rfl (by omega) (by simp; omega)
   rw [xb (by simp [h7])]
   have e : zk x m = m := by simp [zk,h5,h6,h7]
   rw [e]
   exact zX hp k _ _ rfl (by omega) hm
theorem z3 {p : List Nd} (hp : yR p = true) : ∀ (k : Nat) (m : List Bool) (i : Int),i = (k : Int) - 1 -> k <= p.length -> m.length = p.length -> zm i (p.map eN) (m.map D.bool) = some (.os (1,0) ((zo p k m).map D.bool),[])
 | 0,m,i,hi,hk,hm => by
  rw [DL,xb (decide_eq_false (by omega))]; rfl
 | k + 1,m,i,hi,hk,hm => by
  have hl := zh hp
  have ei : i = (k : Int) := by omega
  subst ei
  obtain ⟨x,hx⟩ := xx (l := p) (i := k) (by omega)
  obtain ⟨b,hb⟩ := xx (l := m) (i := k) (by omega)
  have ho := zp hp hx
  have hw : w6 ((k : Int) - 1) = (k : Int) - 1 := w64 (by omega) (by omega)
  rw [DL,xK (decide_eq_true (by omega)),yu (by rw [lnM]; exact yx (by omega)),Int.toNat_natCast,xW hx,GY,yu (by rw [lnM]; exact yx (by omega)),xW hb,xI,hw]
  simp only [zo,hx,hb]
  cases b with
  | false => rw [Bool.not_false,yk]; exact z3 hp k m _ rfl (by omega) hm
  | true =>
   show _ = some (D.os (1,0) ((zo p k (zk x m)).map D.bool),[])
   rw [Bool.not_true,xJ]
   by_cases h5 : x.kind = 5
   ·obtain ⟨a0,a1,b0,b1⟩ := zx ho h5
    obtain ⟨u,hu⟩ := Cj (l := m) (n := x.a) a0 (by omega)
    obtain ⟨v,hv⟩ := Cj (l := m.set x.a.toNat true) (n := x.b) b0 (by simp; omega)
    rw [xK (by simp [h5]),yu (by rw [List.length_map]; exact Az a0 (by omega)),xW hu,yA,CK,yu (by rw [List.length_map]; exact Az b0 (by simp; omega)),xW hv,yA,CK]
    simp only [zk,h5,if_true]
    exact z3 hp k _ _ rfl (by omega) (by simp; omega)
   rw [xb (by simp [h5])]
   by_cases h6 : x.kind = 6
   ·obtain ⟨a0,a1⟩ := Au ho (.inl h6)
    obtain ⟨u,hu⟩ := Cj (l := m) (n := x.a) a0 (by omega)
    rw [xK (by simp [h6]),xK (by simp [h6]),yu (by rw [List.length_map]; exact Az a0 (by omega)),xW hu,yA,CK]
    have e : zk x m = m.set x.a.toNat true := by simp [zk,h6]
    rw [e]
    exact z3 hp k _ _ rfl (by omega) (by simp; omega)
   rw [xb (by simp [h6])]
   by_cases h7 : x.kind = 7
   ·obtain ⟨a0,a1⟩ := Au ho (.inr h7)
    obtain ⟨u,hu⟩ := Cj (l := m) (n := x.a) a0 (by omega)
    rw [xK (by simp [h7]),yu (by rw [List.length_map]; exact Az a0 (by omega)),xW hu,yA,CK]
    have e : zk x m = m.set x.a.toNat true := by simp [zk,h7]
    rw [e]
    exact z3 hp k _ _ rfl (by omega) (by simp; omega)
   rw [xb (by simp [h7])]
   have e : zk x m = m := by simp [zk,h5,h6,h7]
   rw [e]
   exact z3 hp k _ _ rfl (by omega) hm

theorem GU {p : List Nd} (hp : yR p = true) {l : List Int} (h2 : l.length < 4611686018427387904) (hr : z9 p l = true) : ∀ (k i : Nat) (m : List Bool),i + k = l.length -> m.length = p.length -> Bc (l.map eI) (ni (l.map eI).length) (i : Int) (p.map eN) (m.map D.bool) = some (.os (1,0) ((zo p p.length (Jy (l.drop i) m)).map D.bool),[])
 | 0,i,m,hi,hm => by
  have hl := zh hp
  rw [FH,xb (by rw [lnM]; exact yr (by omega)),List.drop_of_length_le (by omega),lnM,w64 (by simp only [ni]; omega) (by simp only [ni]; omega)]
  exact zX hp p.length m _ rfl (Nat.le_refl _) hm
 | k + 1,i,m,hi,hm => by
  obtain ⟨x,hx⟩ := xx (l := l) (i := i) (by omega)
  have hx2 := wi_iff.1 (List.all_eq_true.1 hr x (List.mem_of_getElem? hx))
  obtain ⟨u,hu⟩ := Cj (l := m) (n := x) hx2.1 (by omega)
  rw [FH,xK (by rw [lnM]; exact yz (by omega)),yu (by rw [lnM]; exact yx (by omega)),Int.toNat_natCast,xW hx,ye,yu (by rw [lnM]; exact Az hx2.1 (by omega)),xW hu,yA,CK,yM (by omega),tU hx]
  exact GU hp h2 hr k (i + 1) _ (by omega) (by simp; omega)
theorem Ip {p : List Nd} (hp : yR p = true) {l : List Int} (h2 : l.length < 4611686018427387904) (hr : z9 p l = true) : ∀ (k i : Nat) (m : List Bool),i + k = l.length -> m.length = p.length -> Aw (l.map eI) (i : Int) (p.map eN) (m.map D.bool) = some (.os (1,0) ((zo p p.length (Jy (l.drop i) m)).map D.bool),[])
 | 0,i,m,hi,hm => by
  have hl := zh hp
  rw [DK,xb (by rw [lnM]; exact yr (by omega)),List.drop_of_length_le (by omega),lnM,w64 (by simp only [ni]; omega) (by simp only [ni]; omega)]
  exact z3 hp p.length m _ rfl (Nat.le_refl _) hm
 | k + 1,i,m,hi,hm => by
  obtain ⟨x,hx⟩ := xx (l := l) (i := i) (by omega)
  have hx2 := wi_iff.1 (List.all_eq_true.1 hr x (List.mem_of_getElem? hx))
  obtain ⟨u,hu⟩ := Cj (l := m) (n := x) hx2.1 (by omega)
  rw [DK,xK (by rw [lnM]; exact yz (by omega)),yu (by rw [lnM]; exact yx (by omega)),Int.toNat_natCast,xW hx,ye,yu (by rw [lnM]; exact Az hx2.1 (by omega)),xW hu,yA,CK,yM (by omega),tU hx]
  exact Ip hp h2 hr k (i + 1) _ (by omega) (by simp; omega)
theorem LJ {α : Type} {f : α -> D} {l : List α} (h : l.length <= 4294967296) : (decide (0 <= ni (l.map f).length) && decide (ni (l.map f).length <= LIM)) = true := by
 rw [Bool.and_eq_true]
 exact ⟨decide_eq_true (by simp only [ni]; omega),decide_eq_true (by rw [pE,lnM]; simp only [ni]; omega)⟩
theorem Pj {n : Nat} : List.replicate (Int.toNat (ni n)) (D.bool false) = (List.replicate n false).map D.bool := by simp [ni]
theorem Xb {p : List Nd} (hp : yR p = true) {l : List Int} (h2 : l.length < 4611686018427387904) (hr : z9 p l = true) : V 189 [eP p,.rs (1,0) (l.map eI)] = some (.os (1,0) ((Dk p l).map D.bool),[]) := by
 have hl := zh hp
 have h : Bc (l.map eI) (ni (l.map eI).length) 0 (p.map eN) ((List.replicate p.length false).map D.bool) = _ := GU hp h2 hr l.length 0 _ (Nat.zero_add _) (by simp)
 have e : (p.map eN).length = p.length := lnM _
 rw [Rk,yu (LJ (by omega)),Pj,e,h]; rfl
theorem Vw {p : List Nd} (hp : yR p = true) {l : List Int} (h2 : l.length < 4611686018427387904) (hr : z9 p l = true) : V 149 [eP p,.rs (1,0) (l.map eI)] = some (.os (1,0) ((Dk p l).map D.bool),[]) := by
 have hl := zh hp
 have h : Aw (l.map eI) 0 (p.map eN) ((List.replicate p.length false).map D.bool) = _ := Ip hp h2 hr l.length 0 _ (Nat.zero_add _) (by simp)
 have e : (p.map eN).length = p.length := lnM _
 rw [Ot,yu (LJ (by omega)),Pj,e,h]; rfl
end
end Go.Eng
/-! what is moved into another pool,on both sides -/
namespace Go.Eng
open Go.Proofs Go.Proofs.Tryz

theorem Uz {p : List Nd} (h : p.length < 4294967296) (x : D) : decide (ni (p.map eN ++ [x]).length <= LIM) = true :=
 decide_eq_true (by rw [pE]; simp only [ni,lnA,lnM,lnC,lnN]; omega)
theorem SG {p : List Nd} (h : p.length < 4294967296) (x : Nd) : V 157 [rP p,eN x] = some (iN p.length,[rP (p ++ [x])]) := by
 rw [Mh,yu (Uz h _),yA]
 have : w6 (ni (p.map eN ++ [eN x]).length - 1) = p.length := by
  rw [w64 (by simp only [ni]; omega) (by simp only [ni,lnA,lnM,lnC,lnN]; omega)]
  simp [ni]
 rw [this]; simp
theorem y7 {p : List Nd} (h : p.length < 4294967296) (x : Nd) : V 158 [rP p,eN x] = some (iN p.length,[rP (p ++ [x])]) := by
 rw [Ru,yu (Uz h _),yA]
 have : w6 (ni (p.map eN ++ [eN x]).length - 1) = p.length := by
  rw [w64 (by simp only [ni]; omega) (by simp only [ni,lnA,lnM,lnC,lnN]; omega)]
  simp [ni]
 rw [this]; simp

noncomputable def y0 (pre : List Int) (x : Nd) : Nd :=
 if x.kind = 5 then ⟨x.kind,x.n,x.s,pre.getD x.a.toNat 0,pre.getD x.b.toNat 0⟩
 else if x.kind = 6 \/ x.kind = 7 then ⟨x.kind,x.n,x.s,pre.getD x.a.toNat 0,x.b⟩ else x
noncomputable def AC (d : Int) (q : List Nd) (m : List Bool) : Nat -> List Int -> List Nd -> List Int × List Nd
 | 0,pre,acc => (pre,acc)
 | k + 1,pre,acc => match q[pre.length]?,m[pre.length]? with
  | some x,some true => AC d q m k (pre ++ [(acc.length : Int)]) (acc ++ [y0 pre x])
  | _,_ => AC d q m k (pre ++ [d]) acc
theorem QN {pre r : List Int} {v u : Int} {i : Nat} (h : pre.length = i) : (pre ++ u :: r).set i v = pre ++ v :: r := by
 subst h; simp
theorem Qw {pre r : List Int} {u : Int} {i : Nat} (h : pre.length = i) : (pre ++ u :: r)[i]? = some u := by
 subst h; simp
theorem CW {pre r : List Int} {j : Nat} (h : j < pre.length) : (pre ++ r)[j]? = pre[j]? := List.getElem?_append_left h
theorem Fe {l pre : List Int} {n : Int} (h0 : 0 <= n) (h1 : n < pre.length) (h : ∀ j,j < pre.length -> l[j]? = pre[j]?) : ∃ u,l[n.toNat]? = some u /\ pre[n.toNat]? = some u := by
 obtain ⟨u,hu⟩ := xx (l := pre) (i := n.toNat) (by omega)
 exact ⟨u,by rw [h _ (by omega),hu],hu⟩
theorem Ai {q : List Nd} (hp : yR q = true) {m : List Bool} (hm : m.length = q.length) : ∀ (k i : Nat) (pre : List Int) (acc : List Nd),pre.length = i -> i + k = q.length -> acc.length + k < 4294967296 ->
  y3 (q.map eN) (ni (q.map eN).length) (i : Int) ((pre ++ List.replicate k 0).map eI) (m.map D.bool) (acc.map eN) = some (.os (1,0) ((AC (-1) q m k pre acc).1.map eI),[rP (AC (-1) q m k pre acc).2])
 | 0,i,pre,acc,hpre,hi,hc => by
  rw [BQ,xb (by rw [lnM]; exact yr (by omega))]
  simp [AC]
 | k + 1,i,pre,acc,hpre,hi,hc => by
  have hl := zh hp
  obtain ⟨x,hx⟩ := xx (l := q) (i := i) (by omega)
  obtain ⟨b,hb⟩ := xx (l := m) (i := i) (by omega)
  have ho := zp hp hx
  have s1 : List.set ((pre ++ List.replicate (k + 1) 0).map eI) i (eI (-1)) = (pre ++ (-1) :: List.replicate k 0).map eI := by
   rw [<- List.map_set,List.replicate_succ,QN hpre]
  have s2 : ∀ v : Int,List.set ((pre ++ (-1) :: List.replicate k 0).map eI) i (eI v) = (pre ++ [v] ++ List.replicate k 0).map eI := by
   intro v; rw [<- List.map_set,QN hpre]; simp
  have hz : (pre ++ List.replicate (k + 1) 0)[i]? = some 0 := by rw [List.replicate_succ,Qw hpre]
  have hz2 : (pre ++ (-1) :: List.replicate k 0)[i]? = some (-1) := Qw hpre
  rw [BQ,xK (by rw [lnM]; exact yz (by omega)),yu (by rw [lnM]; exact yx (by omega)),Int.toNat_natCast,xW hx,GY,yu (by rw [lnM]; exact yx (by simp; omega)),xW hz,yA,s1,yu (by rw [lnM]; exact yx (by omega)),xW hb,xI]
  cases b with
  | false =>
   rw [Bool.not_false,yk,yM (by omega)]
   have ih := Ai hp hm k (i + 1) (pre ++ [-1]) acc (by simp [hpre]) (by omega) (by omega)
   simp only [AC,hpre,hx,hb]
   simpa using ih
  | true =>
   rw [Bool.not_true,xJ]
   by_cases h5 : x.kind = 5
   ·obtain ⟨a0,a1,b0,b1⟩ := zx ho h5
    obtain ⟨u,hu,hu'⟩ := Fe (l := (pre ++ (-1) :: List.replicate k 0)) (pre := pre) a0 (by omega) (by intro j hj; exact CW hj)
    obtain ⟨v,hv,hv'⟩ := Fe (l := (pre ++ (-1) :: List.replicate k 0)) (pre := pre) b0 (by omega) (by intro j hj; exact CW hj)
    have e : y0 pre x = ⟨x.kind,x.n,x.s,u,v⟩ := by simp [y0,h5,hu',hv']
    rw [xK (by simp [h5]),yu (by rw [List.length_map]; exact Az a0 (by simp; omega)),xW hu,ye,yu (by rw [List.length_map]; exact Az b0 (by simp; omega)),xW hv,ye]
    have ha := SG (p := acc) (by omega) ⟨x.kind,x.n,x.s,u,v⟩
    have ih := Ai hp hm k (i + 1) (pre ++ [(acc.length : Int)]) (acc ++ [⟨x.kind,x.n,x.s,u,v⟩]) (by simp [hpre]) (by omega) (by simp; omega)
    rw [CY ha,yu (by rw [lnM]; exact yx (by simp; omega)),xW hz2,yA,s2,yM (by omega)]
    simp only [AC,hpre,hx,hb,e]
    exact ih
   rw [xb (by simp [h5])]
   by_cases h6 : x.kind = 6
   ·obtain ⟨a0,a1⟩ := Au ho (.inl h6)
    obtain ⟨u,hu,hu'⟩ := Fe (l := (pre ++ (-1) :: List.replicate k 0)) (pre := pre) a0 (by omega) (by intro j hj; exact CW hj)
    have e : y0 pre x = ⟨x.kind,x.n,x.s,u,x.b⟩ := by simp [y0,h6,hu']
    rw [xK (by simp [h6]),xK (by simp [h6]),yu (by rw [List.length_map]; exact Az a0 (by simp; omega)),xW hu,ye]
    have ha := SG (p := acc) (by omega) ⟨x.kind,x.n,x.s,u,x.b⟩
    have ih := Ai hp hm k (i + 1) (pre ++ [(acc.length : Int)]) (acc ++ [⟨x.kind,x.n,x.s,u,x.b⟩]) (by simp [hpre]) (by omega) (by simp; omega)
    rw [CY ha,yu (by rw [lnM]; exact yx (by simp; omega)),xW hz2,yA,s2,yM (by omega)]
    simp only [AC,hpre,hx,hb,e]
    exact ih
   rw [xb (by simp [h6])]
   by_cases h7 : x.kind = 7
   ·obtain ⟨a0,a1⟩ := Au ho (.inr h7)
    obtain ⟨u,hu,hu'⟩ := Fe (l := (pre ++ (-1) :: List.replicate k 0)) (pre := pre) a0 (by omega) (by intro j hj; exact CW hj)
    have e : y0 pre x = ⟨x.kind,x.n,x.s,u,x.b⟩ := by simp [y0,h7,hu']
    rw [xK (by simp [h7]),yu (by rw [List.length_map]; exact Az a0 (by simp; omega)),xW hu,ye]
    have ha := SG (p := acc) (by omega) ⟨x.kind,x.n,x.s,u,x.b⟩
    have ih := Ai hp hm k (i + 1) (pre ++ [(acc.length : Int)]) (acc ++ [⟨x.kind,x.n,x.s,u,x.b⟩]) (by simp [hpre]) (by omega) (by simp; omega)
    rw [CY ha,yu (by rw [lnM]; exact yx (by simp; omega)),xW hz2,yA,s2,yM (by omega)]
    simp only [AC,hpre,hx,hb,e]
    exact ih
   rw [xb (by simp [h7])]
   ·have e : y0 pre x = x := by simp [y0,h5,h6,h7]
    have ha := SG (p := acc) (by omega) x
    have ih := Ai hp hm k (i + 1) (pre ++ [(acc.length : Int)]) (acc ++ [x]) (by simp [hpre]) (by omega) (by simp; omega)
    rw [CY ha,yu (by rw [lnM]; exact yx (by simp; omega)),xW hz2,yA,s2,yM (by omega)]
    simp only [AC,hpre,hx,hb,e]
    exact ih
theorem Ak {q : List Nd} (hp : yR q = true) {m : List Bool} (hm : m.length = q.length) : ∀ (k i : Nat) (pre : List Int) (acc : List Nd),pre.length = i -> i + k = q.length -> acc.length + k < 4294967296 ->
  zt (m.map D.bool) (i : Int) (q.map eN) ((pre ++ List.replicate k 0).map eI) (acc.map eN) = some (.os (1,0) ((AC 0 q m k pre acc).1.map eI),[rP (AC 0 q m k pre acc).2])
 | 0,i,pre,acc,hpre,hi,hc => by
  rw [EZ,xb (by rw [lnM]; exact yr (by omega))]
  simp [AC]
 | k + 1,i,pre,acc,hpre,hi,hc => by
  have hl := zh hp
  obtain ⟨x,hx⟩ := xx (l := q) (i := i) (by omega)
  obtain ⟨b,hb⟩ := xx (l := m) (i := i) (by omega)
  have ho := zp hp hx
  have s2 : ∀ v : Int,List.set ((pre ++ List.replicate (k + 1) 0).map eI) i (eI v) = (pre ++ [v] ++ List.replicate k 0).map eI := by
   intro v; rw [<- List.map_set,List.replicate_succ,QN hpre]; simp
  have hz2 : (pre ++ List.replicate (k + 1) 0)[i]? = some 0 := by rw [List.replicate_succ,Qw hpre]
  rw [EZ,xK (by rw [lnM]; exact yz (by omega)),yu (by rw [lnM]; exact yx (by omega)),Int.toNat_natCast,xW hb,xI]
  cases b with
  | false =>
   rw [Bool.not_false,yk,yM (by omega)]
   have ih := Ak hp hm k (i + 1) (pre ++ [0]) acc (by simp [hpre]) (by omega) (by omega)
   simp only [AC,hpre,hx,hb]
   simpa [List.replicate_succ] using ih
  | true =>
   rw [Bool.not_true,xJ,yu (by rw [lnM]; exact yx (by omega)),xW hx,GY]
   by_cases h5 : x.kind = 5
   ·obtain ⟨a0,a1,b0,b1⟩ := zx ho h5
    obtain ⟨u,hu,hu'⟩ := Fe (l := (pre ++ List.replicate (k + 1) 0)) (pre := pre) a0 (by omega) (by intro j hj; exact CW hj)
    obtain ⟨v,hv,hv'⟩ := Fe (l := (pre ++ List.replicate (k + 1) 0)) (pre := pre) b0 (by omega) (by intro j hj; exact CW hj)
    have e : y0 pre x = ⟨x.kind,x.n,x.s,u,v⟩ := by simp [y0,h5,hu',hv']
    rw [xK (by simp [h5]),yu (by rw [List.length_map]; exact Az a0 (by simp; omega)),xW hu,ye,yu (by rw [List.length_map]; exact Az b0 (by simp; omega)),xW hv,ye]
    have ha := y7 (p := acc) (by omega) ⟨x.kind,x.n,x.s,u,v⟩
    have ih := Ak hp hm k (i + 1) (pre ++ [(acc.length : Int)]) (acc ++ [⟨x.kind,x.n,x.s,u,v⟩]) (by simp [hpre]) (by omega) (by simp; omega)
    rw [yU ha,yu (by rw [lnM]; exact yx (by simp; omega)),xW hz2,yA,s2,yM (by omega)]
    simp only [AC,hpre,hx,hb,e]
    exact ih
   rw [xb (by simp [h5])]
   by_cases h6 : x.kind = 6
   ·obtain ⟨a0,a1⟩ := Au ho (.inl h6)
    obtain ⟨u,hu,hu'⟩ := Fe (l := (pre ++ List.replicate (k + 1) 0)) (pre := pre) a0 (by omega) (by intro j hj; exact CW hj)
    have e : y0 pre x = ⟨x.kind,x.n,x.s,u,x.b⟩ := by simp [y0,h6,hu']
    rw [xK (by simp [h6]),xK (by simp [h6]),yu (by rw [List.length_map]; exact Az a0 (by simp; omega)),xW hu,ye]
    have ha := y7 (p := acc) (by omega) ⟨x.kind,x.n,x.s,u,x.b⟩
    have ih := Ak hp hm k (i + 1) (pre ++ [(acc.length : Int)]) (acc ++ [⟨x.kind,x.n,x.s,u,x.b⟩]) (by simp [hpre]) (by omega) (by simp; omega)
    rw [yU ha,yu (by rw [lnM]; exact yx (by simp; omega)),xW hz2,yA,s2,yM (by omega)]
    simp only [AC,hpre,hx,hb,e]
    exact ih
   rw [xb (by simp [h6])]
   by_cases h7 : x.kind = 7
   ·obtain ⟨a0,a1⟩ := Au ho (.inr h7)
    obtain ⟨u,hu,hu'⟩ := Fe (l := (pre ++ List.replicate (k + 1) 0)) (pre := pre) a0 (by omega) (by intro j hj; exact CW hj)
    have e : y0 pre x = ⟨x.kind,x.n,x.s,u,x.b⟩ := by simp [y0,h7,hu']
    rw [xK (by simp [h7]),yu (by rw [List.length_map]; exact Az a0 (by simp; omega)),xW hu,ye]
    have ha := y7 (p := acc) (by omega) ⟨x.kind,x.n,x.s,u,x.b⟩
    have ih := Ak hp hm k (i + 1) (pre ++ [(acc.length : Int)]) (acc ++ [⟨x.kind,x.n,x.s,u,x.b⟩]) (by simp [hpre]) (by omega) (by simp; omega)
    rw [yU ha,yu (by rw [lnM]; exact yx (by simp; omega)),xW hz2,yA,s2,yM (by omega)]
    simp only [AC,hpre,hx,hb,e]
    exact ih
   rw [xb (by simp [h7])]
   ·have e : y0 pre x = x := by simp [y0,h5,h6,h7]
    have ha := y7 (p := acc) (by omega) x
    have ih := Ak hp hm k (i + 1) (pre ++ [(acc.length : Int)]) (acc ++ [x]) (by simp [hpre]) (by omega) (by simp; omega)
    rw [yU ha,yu (by rw [lnM]; exact yx (by simp; omega)),xW hz2,yA,s2,yM (by omega)]
    simp only [AC,hpre,hx,hb,e]
    exact ih
end Go.Eng
/-! what is kept: both sides keep the same -/
namespace Go.Eng
noncomputable section
open Go.Proofs Go.Proofs.Tryz

theorem CJ (p : List Nd) (rs : List Int) : (Dk p rs).length = p.length := by
 unfold Dk; rw [Ig,FE]; simp
def DW (d : Int) (q : List Nd) (rs : List Int) (acc : List Nd) : List Int × List Nd := AC d q (Dk q rs) q.length [] acc
theorem SC {n : Nat} : List.replicate (Int.toNat (ni n)) (iN 0) = (List.replicate n (0 : Int)).map eI := by simp [ni]
theorem Wv {q acc : List Nd} (hp : yR q = true) {rs : List Int} (h2 : rs.length < 4611686018427387904) (hr : z9 q rs = true) (hc : acc.length + q.length < 4294967296) :
  V 137 [rP acc,eP q,.rs (1,0) (rs.map eI)] = some (.os (1,0) ((DW (-1) q rs acc).1.map eI),[rP (DW (-1) q rs acc).2]) := by
 have e : (q.map eN).length = q.length := lnM _
 have h := Ai hp (CJ q rs) q.length 0 [] acc rfl (Nat.zero_add _) hc
 rw [List.nil_append] at h
 rw [JK,yu (LJ (by omega)),TK (Xb hp h2 hr)]
 have h0 : List.replicate (Int.toNat (ni (q.map eN).length)) (iN 0) = (List.replicate q.length (0 : Int)).map eI := by rw [e]; exact SC
 rw [h0]
 exact h
theorem Wu {q acc : List Nd} (hp : yR q = true) {rs : List Int} (hc : acc.length + q.length < 4294967296) :
  V 148 [rP acc,eP q,.rs (1,0) ((Dk q rs).map D.bool)] = some (.os (1,0) ((DW 0 q rs acc).1.map eI),[rP (DW 0 q rs acc).2]) := by
 have e : (q.map eN).length = q.length := lnM _
 have h := Ak hp (CJ q rs) q.length 0 [] acc rfl (Nat.zero_add _) hc
 rw [List.nil_append] at h
 have h0 : List.replicate (Int.toNat (ni (q.map eN).length)) (iN 0) = (List.replicate q.length (0 : Int)).map eI := by rw [e]; exact SC
 rw [Qv,yu (LJ (by omega)),h0]
 exact h

theorem Fg (d : Int) (q : List Nd) (m : List Bool) : ∀ (k : Nat) (pre : List Int) (acc : List Nd),(AC d q m k pre acc).1.length = pre.length + k
 | 0,pre,acc => rfl
 | k + 1,pre,acc => by
  simp only [AC]
  split
  ·rw [Fg d q m k]; simp; omega
  ·rw [Fg d q m k]; simp; omega
theorem MU (d : Int) (q : List Nd) (m : List Bool) : ∀ (k : Nat) (pre : List Int) (acc : List Nd),(AC d q m k pre acc).2.length <= acc.length + k
 | 0,pre,acc => Nat.le_refl _
 | k + 1,pre,acc => by
  simp only [AC]
  split
  ·have := MU d q m k (pre ++ [(acc.length : Int)]) (acc ++ [y0 pre ‹Nd›]); simp at this; omega
  ·have := MU d q m k (pre ++ [d]) acc; omega

theorem Ua {p : List Nd} {rs : List Int} (hr : z9 p rs = true) : ∀ r ∈ rs,0 <= r /\ r < (p.length : Int) := by
 intro r h
 have := wi_iff.1 (List.all_eq_true.1 hr r h)
 omega
def On (m : List Bool) (n : Int) : Prop := m[n.toNat]? = some true
theorem Nw {m : List Bool} {j i : Nat} (h : m[j]? = some true) : (m.set i true)[j]? = some true := by
 by_cases e : i = j
 ·subst e; simp [aQ h]
 ·rw [List.getElem?_set_ne e]; exact h
theorem Ny {m : List Bool} {i : Nat} (h : i < m.length) : (m.set i true)[i]? = some true := by simp [h]
theorem U6 {x : Nd} {m : List Bool} {j : Nat} (h : m[j]? = some true) : (zk x m)[j]? = some true := by
 unfold zk
 split
 ·exact Nw (Nw h)
 ·split
  ·exact Nw h
  ·exact h
theorem D6 {p : List Nd} : ∀ (k : Nat) {m : List Bool} {j : Nat},m[j]? = some true -> (zo p k m)[j]? = some true
 | 0,m,j,h => h
 | k + 1,m,j,h => by
  simp only [zo]
  apply D6 k
  split
  ·exact U6 h
  ·exact h
theorem U5 {p : List Nd} (hp : yR p = true) {k : Nat} {x : Nd} (hx : p[k]? = some x) {m : List Bool} {j : Nat} (h : k <= j) : (zk x m)[j]? = m[j]? := by
 have ho := zp hp hx
 unfold zk
 split
 ·rename_i h5
  have := zx ho h5
  rw [List.getElem?_set_ne (by omega),List.getElem?_set_ne (by omega)]
 ·split
  ·rename_i h6
   have := Au ho h6
   rw [List.getElem?_set_ne (by omega)]
  ·rfl
theorem Nt {p : List Nd} (hp : yR p = true) : ∀ (k : Nat) {m : List Bool} {j : Nat},k <= j -> (zo p k m)[j]? = m[j]?
 | 0,m,j,h => rfl
 | k + 1,m,j,h => by
  simp only [zo]
  rw [Nt hp k (by omega)]
  split
  ·rename_i x hx _; exact U5 hp ‹_› (by omega)
  ·rfl
def LN (p : List Nd) (m : List Bool) : Prop := ∀ (i : Nat) (x : Nd),p[i]? = some x -> m[i]? = some true -> (x.kind = 5 -> On m x.a /\ On m x.b) /\ (x.kind = 6 \/ x.kind = 7 -> On m x.a)
theorem Ie {p : List Nd} (hp : yR p = true) : ∀ (k : Nat) {m : List Bool},m.length = p.length -> ∀ (i : Nat) (x : Nd),i < k -> p[i]? = some x -> (zo p k m)[i]? = some true -> (x.kind = 5 -> On (zo p k m) x.a /\ On (zo p k m) x.b) /\ (x.kind = 6 \/ x.kind = 7 -> On (zo p k m) x.a)
 | 0,m,hm,i,x,hi,_,_ => by omega
 | k + 1,m,hm,i,x,hi,hx,hr => by
  by_cases e : i = k
  ·subst e
   have ho := zp hp hx
   rw [zo] at hr ⊢
   have hmi : m[i]? = some true := by
    rw [Nt hp i (Nat.le_refl _)] at hr
    split at hr
    ·assumption
    ·exact hr
   rw [hx,hmi]
   show (_ -> On (zo p i (zk x m)) x.a /\ On (zo p i (zk x m)) x.b) /\ (_ -> On (zo p i (zk x m)) x.a)
   have hlt := aQ hx
   refine ⟨fun h5 => ?_,fun h6 => ?_⟩
   ·have := zx ho h5
    have ea : (zk x m)[x.a.toNat]? = some true := by
     simp only [zk,h5,if_true]
     exact Nw (Ny (by omega))
    have eb : (zk x m)[x.b.toNat]? = some true := by
     simp only [zk,h5,if_true]
     exact Ny (by simp; omega)
    exact ⟨D6 i ea,D6 i eb⟩
   ·have := Au ho h6
    have ea : (zk x m)[x.a.toNat]? = some true := by
     have h5 : ¬ x.kind = 5 := by omega
     simp only [zk,h5,h6,if_false,if_true]
     exact Ny (by omega)
    exact D6 i ea
  ·rw [zo] at hr ⊢
   refine Ie hp k ?_ i x (by omega) hx hr
   split
   ·rw [Jg]; exact hm
   ·exact hm
theorem FC {p : List Nd} (hp : yR p = true) (rs : List Int) : LN p (Dk p rs) := by
 intro i x hx hr
 exact Ie hp p.length (by rw [FE]; simp) i x (aQ hx) hx hr
theorem Vp {rs : List Int} : ∀ {m : List Bool} {r : Int},(r ∈ rs /\ r.toNat < m.length) \/ m[r.toNat]? = some true -> (Jy rs m)[r.toNat]? = some true := by
 induction rs with
 | nil => intro m r h; rcases h with h | h; exact absurd h.1 (by simp); exact h
 | cons q rs ih =>
  intro m r h
  show (Jy rs (m.set q.toNat true))[r.toNat]? = some true
  apply ih
  rcases h with ⟨h,hl⟩ | h
  ·rcases List.mem_cons.1 h with rfl | h
   ·right; simp [hl]
   ·left; exact ⟨h,by simpa using hl⟩
  ·right; exact Nw h
theorem Ij {p : List Nd} {rs : List Int} (hr : z9 p rs = true) : ∀ r ∈ rs,On (Dk p rs) r := by
 intro r h
 have := Ua hr r h
 exact D6 _ (Vp (.inl ⟨h,by simp; omega⟩))

theorem KJ {q : List Nd} (hp : yR q = true) {m : List Bool} (hc : LN q m) (hm : m.length = q.length) (d d' : Int) : ∀ (k : Nat) (pre pre' : List Int) (acc : List Nd),pre.length = pre'.length -> pre.length + k = q.length -> (∀ j : Nat,m[j]? = some true -> pre[j]? = pre'[j]?) ->
  (AC d q m k pre acc).2 = (AC d' q m k pre' acc).2 /\ ∀ j : Nat,m[j]? = some true -> (AC d q m k pre acc).1[j]? = (AC d' q m k pre' acc).1[j]?
 | 0,pre,pre',acc,hl,hk,h => ⟨rfl,h⟩
 | k + 1,pre,pre',acc,hl,hk,h => by
  obtain ⟨x,hx⟩ := xx (l := q) (i := pre.length) (by omega)
  obtain ⟨b,hb⟩ := xx (l := m) (i := pre.length) (by omega)
  have step : ∀ (u u' : Int),(b = true -> u = u') -> ∀ j : Nat,m[j]? = some true -> (pre ++ [u])[j]? = (pre' ++ [u'])[j]? := by
   intro u u' huu j hj
   rcases Nat.lt_trichotomy j pre.length with h1 | h1 | h1
   ·rw [List.getElem?_append_left h1,List.getElem?_append_left (by omega)]; exact h j hj
   ·subst h1
    rw [hb] at hj; cases hj
    rw [List.getElem?_append_right (Nat.le_refl _),hl,List.getElem?_append_right (Nat.le_refl _),huu rfl]
   ·rw [List.getElem?_eq_none (by simp; omega),List.getElem?_eq_none (by simp; omega)]
  have hb' := hb
  have hx' := hx
  rw [hl] at hb' hx'
  simp only [AC,hx,hb,hx',hb']
  cases b with
  | false => exact KJ hp hc hm d d' k _ _ acc (by simp; omega) (by simp; omega) (step d d' (fun h => by cases h))
  | true =>
   have hcl := hc _ x hx hb
   have e : y0 pre x = y0 pre' x := by
    unfold y0
    split
    ·rename_i h5
     have h1 := h _ (hcl.1 h5).1
     have h2 := h _ (hcl.1 h5).2
     simp only [List.getD_eq_getElem?_getD,h1,h2]
    ·split
     ·rename_i h6
      have h1 := h _ (hcl.2 h6)
      simp only [List.getD_eq_getElem?_getD,h1]
     ·rfl
   have ih := KJ hp hc hm d d' k (pre ++ [(acc.length : Int)]) (pre' ++ [(acc.length : Int)]) (acc ++ [y0 pre x]) (by simp; omega) (by simp; omega) (step _ _ (fun _ => rfl))
   rw [e] at ih
   simp only [e]
   exact ih
end
end Go.Eng
/-! decimal digits,on both sides -/
namespace Go.Eng
open Go.Proofs Go.Proofs.Tryz

theorem w32 {n : Int} (h0 : 0 <= n) (h1 : n < 1000) : IntKind.wrap .i32 n = n := by
 simp [IntKind.wrap,IntKind.bits,IntKind.signed]; omega
theorem Ub (n : Nat) : Int.tdiv (n : Int) 10 = ((n / 10 : Nat) : Int) := by
 rw [Int.tdiv_eq_ediv_of_nonneg (by omega)]; omega
theorem Uc (n : Nat) : Int.tmod (n : Int) 10 = ((n % 10 : Nat) : Int) := by
 rw [Int.tmod_eq_emod_of_nonneg (by omega)]; omega
theorem O6 {d : Nat} (h : d < 10) : Utf8.encode (IntKind.wrap .i32 (w6 (48 + (d : Int)))) = mk [UInt8.ofNat (48 + d)] := by
 rw [w64 (by omega) (by omega),w32 (by omega) (by omega),PP (by omega) (by omega)]
 congr 3
theorem JU {a b : List UInt8} (ha : a.length <= 1000) (hb : b.length <= 1000) : decide (ni ((mk a).size + (mk b).size) <= LIM) = true :=
 decide_eq_true (by rw [pE,yO,yO]; simp only [ni]; omega)
theorem Cx {n : Nat} (h : n < 1000000000000000000) : (Ef n).length <= 20 := by
 have := LY 18 n (by omega)
 omega
theorem GN : ∀ (n : Nat),n < 1000000000000000000 -> V 152 [iN (n : Int)] = some (.str (mk (Ef n)),[]) := by
 intro n
 induction n using Nat.strongRecOn with
 | _ n ih =>
  intro hn
  rw [Jb,xb (decide_eq_false (by omega)),xb (decide_eq_false (by omega))]
  by_cases h : n < 10
  ·rw [xK (decide_eq_true (by omega)),O6 h,zJ h]
  ·rw [xb (decide_eq_false (by omega)),yu (by decide),Ub,w64 (by omega) (by omega),Du (ih (n / 10) (by omega) (by omega)),yu (by decide),Uc,O6 (by omega),yu (JU (by have := Cx (n := n / 10) (by omega); omega) (by simp)),AV,DQ h]
theorem Ra : ∀ (n : Nat),0 < n -> n < 1000000000000000000 -> V 152 [iN (-(n : Int))] = some (.str (mk (45 :: Ef n)),[]) := by
 intro n
 induction n using Nat.strongRecOn with
 | _ n ih =>
  intro h0 hn
  rw [Jb,xK (decide_eq_true (by omega))]
  by_cases h : n < 10
  ·have hd := GN n hn
   rw [xK (decide_eq_true (by omega)),show (0 : Int) - -(n : Int) = n by omega,w64 (by omega) (by omega),Du hd]
   rw [<- show mk [45] = ⟨#[45]⟩ from rfl,yu (JU (a := [45]) (by simp) (by have := Cx hn; omega)),AV]
   rfl
  ·have e1 : Int.tdiv (-(n : Int)) 10 = -((n / 10 : Nat) : Int) := by rw [Int.neg_tdiv,Ub]
   have e2 : Int.tmod (-(n : Int)) 10 = -((n % 10 : Nat) : Int) := by rw [Int.neg_tmod,Uc]
   have hd := GN (n % 10) (by omega)
   rw [xb (decide_eq_false (by omega)),xK (decide_eq_true (by omega)),yu (by decide),e1,w64 (by omega) (by omega),Du (ih (n / 10) (by omega) (by omega) (by omega)),yu (by decide),e2,show (0 : Int) - -((n % 10 : Nat) : Int) = ((n % 10 : Nat) : Int) by omega,w64 (by omega) (by omega),Du hd]
   rw [yu (JU (by have := Cx (n := n / 10) (by omega); simp; omega) (by have := Cx (n := n % 10) (by omega); omega)),AV,DQ h,zJ (show n % 10 < 10 by omega)]
   rfl
theorem Vu {n : Int} (h : n.natAbs < 1000000000000000000) : V 152 [iN n] = some (.str (mk (Ch n)),[]) := by
 by_cases h0 : n < 0
 ·have := Ra n.natAbs (by omega) h
  rw [show -(n.natAbs : Int) = n by omega] at this
  rw [this,Ch,if_pos h0]
 ·have := GN n.natAbs h
  rw [show (n.natAbs : Int) = n by omega] at this
  rw [this,Ch,if_neg h0]
theorem Wq {d : Nat} (h : d < 10) : IntKind.wrap .u8 (w6 (48 + (d : Int))) = 48 + (d : Int) := by
 rw [w64 (by omega) (by omega),Xg (by omega) (by omega)]
theorem Re : ∀ (n : Nat) (acc : List UInt8),n < 1000000000000000000 -> acc.length + (if n = 0 then [] else Ef n).length <= 1000 -> AQ (n : Int) (mk acc) = some (.str (mk ((if n = 0 then [] else Ef n) ++ acc)),[]) := by
 intro n
 induction n using Nat.strongRecOn with
 | _ n ih =>
  intro acc hn hl
  by_cases h0 : n = 0
  ·subst h0
   rw [Dn,xb (by rfl),if_pos rfl]; rfl
  ·have hd : Ef n = (if n / 10 = 0 then [] else Ef (n / 10)) ++ [UInt8.ofNat (48 + n % 10)] := by
    by_cases h : n < 10
    ·rw [zJ h,if_pos (by omega),show n % 10 = n by omega]; rfl
    ·rw [DQ h,if_neg (by omega)]
   rw [if_neg h0,hd] at hl
   simp only [lnA,lnC,lnN] at hl
   rw [Dn,xK (decide_eq_true (by omega)),yu (by decide),Uc,Wq (by omega),TJ]
   have e : UInt8.ofNat (48 + ((n % 10 : Nat) : Int)).toNat = UInt8.ofNat (48 + n % 10) := by congr 1
   rw [e,yu (JU (by simp) (by omega)),yu (by decide),Ub,w64 (by omega) (by omega),AV,ih (n / 10) (by omega) _ (by omega) (by simp only [lnA,lnC,lnN]; omega),if_neg h0,hd]
   simp
theorem JT {n : Nat} (h : n < 1000000000000000000) : V 202 [iN (n : Int)] = some (.str (mk (Ef n)),[]) := by
 rw [GP,xb (decide_eq_false (by omega))]
 by_cases h0 : n = 0
 ·subst h0
  rw [xK (by rfl),zJ (by omega)]; rfl
 ·have := Re n [] h (by have := Cx h; rw [if_neg h0]; simp; omega)
  rw [if_neg h0,List.append_nil] at this
  rw [xb (by simp; omega)]
  exact this
theorem NH {n : Int} (h : n.natAbs < 1000000000000000000) : V 202 [iN n] = some (.str (mk (Ch n)),[]) := by
 by_cases h0 : n < 0
 ·have hd := JT h
  rw [GP,xK (decide_eq_true h0),show (0 : Int) - n = (n.natAbs : Int) by omega,w64 (by omega) (by omega),Fx hd]
  rw [<- show mk [45] = ⟨#[45]⟩ from rfl,yu (JU (a := [45]) (by simp) (by have := Cx h; omega)),AV,Ch,if_pos h0]
  rfl
 ·have := JT h
  rw [show (n.natAbs : Int) = n by omega] at this
  rw [this,Ch,if_neg h0]
end Go.Eng
/-! what is written of a value: the reference's side -/
namespace Go.Eng
noncomputable section
open Go.Proofs Go.Proofs.Tryz

def Ax (x : Nd) : List UInt8 :=
 if x.kind = 1 then [40,41]
 else if x.kind = 2 then (if x.n = 1 then [35,116] else [35,102])
 else if x.kind = 3 then Ch x.n
 else if x.kind = 4 then x.s.data.toList
 else if x.kind = 6 then [35,102,117,110] ++ Ch x.n
 else if x.kind = 7 then [35,107,111,110,116] ++ Ch x.n
 else if x.kind = 8 then [35,112,114,105,109] ++ Ch x.n
 else [35,112,105,100] ++ Ch x.n
def wr (p : List Nd) : Nat -> Bool -> Nat -> List UInt8 -> List UInt8
 | 0,_,_,out => out
 | g + 1,false,v,out => if out.length > 400 then out else
  match p[v]? with
  | some x => if x.kind = 5 then wr p g true x.b.toNat (wr p g false x.a.toNat (out ++ [40])) else out ++ Ax x
  | none => out
 | g + 1,true,v,out =>
  match p[v]? with
  | some x => if x.kind = 5 /\ out.length <= 400 then wr p g true x.b.toNat (wr p g false x.a.toNat (out ++ [32]))
   else if x.kind = 1 then out ++ [41] else wr p g false v (out ++ [32,46,32]) ++ [41]
  | none => out
theorem VV {s : ByteArray} (h : GI s = true) : s.size <= 12 := by
 simp only [GI,Bool.and_eq_true,wi,decide_eq_true_eq] at h; omega
theorem Nj {x : Nd} {h : Int} (ho : okN x h = true) (hk : x.kind ≠ 4) : x.n.natAbs <= 1000000000 := by
 unfold okN at ho
 repeat' split at ho
 all_goals (try simp only [Bool.and_eq_true,wi,decide_eq_true_eq] at ho)
 all_goals (first | omega | (cases ho))
theorem Wa {x : Nd} {h : Int} (ho : okN x h = true) (hk : x.kind = 4) : GI x.s = true := by
 simp [okN,hk] at ho; exact ho.2.1
theorem LX {n : Int} (h : n.natAbs <= 1000000000) : (Ch n).length <= 12 := by
 have := LY 9 n.natAbs (by simpa using (by omega : n.natAbs < 10000000000))
 unfold Ch; split <;> simp <;> omega
theorem Km {x : Nd} {h : Int} (ho : okN x h = true) : (Ax x).length <= 40 := by
 by_cases h4 : x.kind = 4
 ·have := VV (Wa ho h4)
  have e : x.s.data.toList.length = x.s.size := by rw [Array.length_toList]; rfl
  simp [Ax,h4]
  omega
 ·have := LX (Nj ho h4)
  unfold Ax
  repeat' split
  all_goals (first | contradiction | (simp; done) | (simp; omega) | omega)
theorem VZ {x : Nd} {h : Int} (ho : okN x h = true) : 1 <= x.kind /\ x.kind <= 9 := by
 unfold okN at ho
 repeat' split at ho
 all_goals (first | omega | (cases ho))
def JA (p : List Nd) (v : Int) : List UInt8 :=
 if yR p = true /\ wi v 0 ((p.length : Int) - 1) = true then (if (wr p (2 * v.toNat + 1) false v.toNat []).length > 400 then [] else wr p (2 * v.toNat + 1) false v.toNat []) else []
end
end Go.Eng
/-! what is written of a value: the program's side,as plain lists -/
namespace Go.Eng
open Go.Proofs Go.Proofs.Tryz

noncomputable def wm (p : List Nd) : Nat -> Option Bool -> Nat -> List UInt8 -> List UInt8
 | 0,_,_,out => out
 | g + 1,none,v,out => if out.length > 400 then out else
  match p[v]? with
  | some x => if x.kind = 5 \/ x.kind = 1 then wm p g (some true) v (out ++ [40]) ++ [41] else out ++ Ax x
  | none => out
 | g + 1,some first,v,out =>
  match p[v]? with
  | some x => if x.kind = 5 /\ out.length <= 400 then wm p g (some false) x.b.toNat (wm p g none x.a.toNat (if first then out else out ++ [32]))
   else if x.kind = 1 \/ x.kind = 5 then out else wm p g none v (out ++ [32,46,32])
  | none => out
noncomputable def QW (a b : List UInt8) : Prop := a = b \/ (400 < a.length /\ 400 < b.length)
theorem DB {p : List Nd} : ∀ (g : Nat) (m : Bool) (v : Nat) (out : List UInt8),out.length <= (wr p g m v out).length
 | 0,m,v,out => Nat.le_refl _
 | g + 1,false,v,out => by
  simp only [wr]
  split
  ·exact Nat.le_refl _
  ·split
   ·split
    ·rename_i x _ _
     have h1 := DB (p := p) g false x.a.toNat (out ++ [40])
     have h2 := DB (p := p) g true x.b.toNat (wr p g false x.a.toNat (out ++ [40]))
     simp at h1; omega
    ·simp
   ·exact Nat.le_refl _
 | g + 1,true,v,out => by
  simp only [wr]
  split
  ·split
   ·rename_i x _ _
    have h1 := DB (p := p) g false x.a.toNat (out ++ [32])
    have h2 := DB (p := p) g true x.b.toNat (wr p g false x.a.toNat (out ++ [32]))
    simp at h1; omega
   ·split
    ·simp
    ·have h1 := DB (p := p) g false v (out ++ [32,46,32])
     simp at h1 ⊢; omega
  ·exact Nat.le_refl _
theorem Kh {p : List Nd} : ∀ (g : Nat) (m : Option Bool) (v : Nat) (out : List UInt8),out.length <= (wm p g m v out).length
 | 0,m,v,out => Nat.le_refl _
 | g + 1,none,v,out => by
  simp only [wm]
  split
  ·exact Nat.le_refl _
  ·split
   ·split
    ·have h1 := Kh (p := p) g (some true) v (out ++ [40])
     simp at h1 ⊢; omega
    ·simp
   ·exact Nat.le_refl _
 | g + 1,some first,v,out => by
  simp only [wm]
  split
  ·split
   ·rename_i x _ _
    have h2 := Kh (p := p) g (some false) x.b.toNat (wm p g none x.a.toNat (if first then out else out ++ [32]))
    have h1 := Kh (p := p) g none x.a.toNat (if first then out else out ++ [32])
    cases first <;> simp at h1 h2 ⊢ <;> omega
   ·split
    ·exact Nat.le_refl _
    ·have h1 := Kh (p := p) g none v (out ++ [32,46,32])
     simp at h1 ⊢; omega
  ·exact Nat.le_refl _

theorem LR {p : List Nd} {g g' : Nat} {b : Nat} {r r' : List UInt8} (h : QW r r') (ih : ∀ o,QW (wm p g (some false) b o ++ [41]) (wr p g' true b o)) :
  QW (wm p g (some false) b r ++ [41]) (wr p g' true b r') := by
 rcases h with rfl | ⟨h1,h2⟩
 ·exact ih r
 ·refine .inr ⟨?_,?_⟩
  ·have := Kh (p := p) g (some false) b r
   simp; omega
  ·have := DB (p := p) g' true b r'
   omega
theorem NK {p : List Nd} (hp : yR p = true) : ∀ (g : Nat),
  (∀ (g' v : Nat) (o : List UInt8),v < p.length -> 2 * v + 3 <= g -> 2 * v + 1 <= g' -> QW (wm p g none v o) (wr p g' false v o)) /\
  (∀ (g' v : Nat) (o : List UInt8),v < p.length -> 2 * v + 2 <= g -> 2 * v + 2 <= g' -> QW (wm p g (some false) v o ++ [41]) (wr p g' true v o))
 | 0 => ⟨fun g' v o _ h _ => by omega,fun g' v o _ h _ => by omega⟩
 | g + 1 => by
  obtain ⟨ihv,iht⟩ := NK hp g
  refine ⟨fun g' v o hv hg hg' => ?_,fun g' v o hv hg hg' => ?_⟩
  ·obtain ⟨x,hx⟩ := xx hv
   have hok := zp hp hx
   cases g' with
   | zero => omega
   | succ g' =>
   cases g with
   | zero => omega
   | succ g =>
   simp only [wm,wr,hx,if_true]
   by_cases hf : o.length > 400
   ·rw [if_pos hf,if_pos hf]; exact .inl rfl
   rw [if_neg hf,if_neg hf]
   by_cases h5 : x.kind = 5
   ·have hk := zx hok h5
    rw [if_pos (.inl h5),if_pos h5]
    by_cases hl : (o ++ [40]).length <= 400
    ·rw [if_pos ⟨h5,hl⟩]
     obtain ⟨ihv2,iht2⟩ := NK hp g
     exact LR (ihv2 g' x.a.toNat (o ++ [40]) (by omega) (by omega) (by omega)) (fun r => iht2 g' x.b.toNat r (by omega) (by omega) (by omega))
    ·rw [if_neg (fun h => hl h.2),if_pos (.inr h5)]
     refine .inr ⟨by simp at hl ⊢; omega,?_⟩
     have h1 := DB (p := p) g' false x.a.toNat (o ++ [40])
     have h2 := DB (p := p) g' true x.b.toNat (wr p g' false x.a.toNat (o ++ [40]))
     omega
   ·rw [if_neg h5]
    by_cases h1 : x.kind = 1
    ·rw [if_pos (.inr h1),if_neg (fun h => h5 h.1),if_pos (.inl h1)]
     exact .inl (by simp [Ax,h1])
    ·rw [if_neg (fun h => h.elim h5 h1)]; exact .inl rfl
  ·obtain ⟨x,hx⟩ := xx hv
   have hok := zp hp hx
   cases g' with
   | zero => omega
   | succ g' =>
   simp only [wm,wr,hx,Bool.false_eq_true,if_false]
   by_cases h5 : x.kind = 5
   ·have hk := zx hok h5
    by_cases hl : o.length <= 400
    ·rw [if_pos ⟨h5,hl⟩,if_pos ⟨h5,hl⟩]
     exact LR (ihv g' x.a.toNat (o ++ [32]) (by omega) (by omega) (by omega)) (fun r => iht g' x.b.toNat r (by omega) (by omega) (by omega))
    ·rw [if_neg (fun h => hl h.2),if_pos (.inr h5),if_neg (fun h => hl h.2),if_neg (by omega)]
     refine .inr ⟨by simp; omega,?_⟩
     have := DB (p := p) g' false v (o ++ [32,46,32])
     simp at this ⊢; omega
   ·by_cases h1 : x.kind = 1
    ·rw [if_neg (fun h => h5 h.1),if_pos (.inl h1),if_neg (fun h => h5 h.1),if_pos h1]; exact .inl rfl
    ·rw [if_neg (fun h => h5 h.1),if_neg (fun h => h.elim h1 h5),if_neg (fun h => h5 h.1),if_neg h1]
     cases g with
     | zero => omega
     | succ g =>
     cases g' with
     | zero => omega
     | succ g' =>
     simp only [wm,wr,hx]
     by_cases hf : (o ++ [32,46,32]).length > 400
     ·rw [if_pos hf,if_pos hf]; exact .inl rfl
     ·rw [if_neg hf,if_neg (fun h => h.elim h5 h1),if_neg hf,if_neg h5]; exact .inl rfl
termination_by g => g
end Go.Eng
/-! what is written of a value: the program's side -/
namespace Go.Eng
open Go.Proofs Go.Proofs.Tryz

theorem lit (l : List UInt8) : (ByteArray.mk l.toArray) = mk l := rfl
noncomputable abbrev wO (p : List Nd) (o : List UInt8) : D := .op [.rs (5,0) (p.map eN),.os (1,0) (o.map eU)]
theorem Aa (p : List Nd) (o : List UInt8) : V 88 [wO p o] = some (.bool (decide (o.length > 400)),[wO p o]) := by
 rw [Jr,lnM]
 simp only [wY,gt_iff_lt]
 by_cases h : 400 < o.length
 ·rw [decide_eq_true h,decide_eq_true (by omega)]
 ·rw [decide_eq_false h,decide_eq_false (by omega)]
theorem Kg (p : List Nd) {o s : List UInt8} (h : o.length + s.length <= 4294967296) : V 150 [wO p o,.str (mk s)] = some (.tup [],[wO p (o ++ s)]) := by
 rw [Js,UT]
 simp (disch := first | omega | (simp only [lnA,lnC,lnN,lnM,yO,wY]; omega)) only [↓xP,↓yA,yJ,lnM,lnA,pE,wY,yl]
theorem Xf {p : List Nd} (hp : yR p = true) (g : Nat) {v : Nat} {x : Nd} (hx : p[v]? = some x) (h5 : ¬ x.kind = 5) (h1 : ¬ x.kind = 1) (out : List UInt8) :
  (out.length <= 400 -> (wm p g none v out).length <= 440) /\ (400 < out.length -> (wm p g none v out).length = out.length) := by
 cases g with
 | zero => simp only [wm]; exact ⟨fun h => by omega,fun h => trivial⟩
 | succ g =>
  have := Km (zp hp hx)
  simp only [wm,hx]
  refine ⟨fun h => ?_,fun h => by rw [if_pos h]⟩
  rw [if_neg (by omega),if_neg (fun h => h.elim h5 h1)]
  simp only [lnA]; omega
theorem NN {p : List Nd} (hp : yR p = true) : ∀ (g : Nat) (v : Nat) (out : List UInt8),
  ((out.length <= 400 -> (wm p g none v out).length <= 450 + 50 * v) /\ (400 < out.length -> (wm p g none v out).length = out.length)) /\
  (∀ first,(out.length <= 400 -> (wm p g (some first) v out).length <= 449 + 50 * v) /\ (400 < out.length -> (wm p g (some first) v out).length <= out.length + 3))
 | 0,v,out => by simp only [wm]; exact ⟨⟨fun h => by omega,fun h => trivial⟩,fun f => ⟨fun h => by omega,fun h => by omega⟩⟩
 | g + 1,v,out => by
  refine ⟨⟨fun h => ?_,fun h => by simp only [wm]; rw [if_pos h]⟩,fun first => ?_⟩
  ·simp only [wm]
   rw [if_neg (by omega)]
   split
   ·rename_i x hx
    split
    ·have h1 := (NN hp g v (out ++ [40])).2 true
     simp only [lnA,lnC,lnN] at h1 ⊢
     by_cases c : out.length + 1 <= 400
     ·have := h1.1 c; omega
     ·have := h1.2 (by omega); omega
    ·have := Km (zp hp hx)
     simp only [lnA]; omega
   ·omega
  ·simp only [wm]
   split
   ·rename_i x hx
    split
    ·rename_i hc
     have hk := zx (zp hp hx) hc.1
     have h1 := (NN hp g x.a.toNat (if first then out else out ++ [32])).1
     have h2 := (NN hp g x.b.toNat (wm p g none x.a.toNat (if first then out else out ++ [32]))).2 false
     have hs : (if first = true then out else out ++ [32]).length <= 401 := by split <;> (try simp only [lnA,lnC,lnN]) <;> omega
     refine ⟨fun h => ?_,fun h => by omega⟩
     by_cases c : (if first = true then out else out ++ [32]).length <= 400
     ·have h3 := h1.1 c
      by_cases c2 : (wm p g none x.a.toNat (if first then out else out ++ [32])).length <= 400
      ·have := h2.1 c2; omega
      ·have := h2.2 (by omega); omega
     ·have h3 := h1.2 (by omega)
      have := h2.2 (by omega); omega
    ·rename_i hc
     split
     ·exact ⟨fun h => by omega,fun h => by omega⟩
     ·rename_i h15
      have h1 := Xf hp g hx (fun h => h15 (.inr h)) (fun h => h15 (.inl h)) (out ++ [32,46,32])
      simp only [lnA,lnC,lnN] at h1
      refine ⟨fun h => ?_,fun h => ?_⟩
      ·by_cases c : out.length + 3 <= 400
       ·have := h1.1 c; omega
       ·have := h1.2 (by omega); omega
      ·have := h1.2 (by omega); omega
   ·exact ⟨fun h => by omega,fun h => by omega⟩

theorem O9 {p : List Nd} (hp : yR p = true) {v : Nat} {x : Nd} (hx : p[v]? = some x) (h5 : ¬ x.kind = 5) (h1 : ¬ x.kind = 1) {out : List UInt8} (ho : out.length <= 400) :
  V 87 [wO p out,iN (v : Int)] = some (.tup [],[wO p (out ++ Ax x)]) := by
 have hok := zp hp hx
 have hk := VZ hok
 have hv := aQ hx
 have hl := Km hok
 have ht : ∀ s : List UInt8,s.length <= 40 -> V 150 [wO p out,.str (mk s)] = some (.tup [],[wO p (out ++ s)]) := fun s hs => Kg p (by omega)
 rw [AX]
 by_cases h2 : x.kind = 2
 ·have e : Ax x = if x.n = 1 then [35,116] else [35,102] := by simp [Ax,h2]
  rw [e]
  by_cases hn : x.n = 1
  ·rw [if_pos hn]; simp (disch := first | omega | (simp only [lnA,lnC,lnN,lnM,yO,wY]; omega)) only [↓wZ,xi,↓yk,↓xJ,↓xP,↓yo,↓yb,↓ye,↓xI,↓yi,↓yg,↓yh,↓xu,↓xw,↓yf,↓xX,yJ,yI,yF,yE,Bool.and_true,lnM,wY,↓xW hx,Aa,lit,ht]
  ·rw [if_neg hn]; simp (disch := first | omega | (simp only [lnA,lnC,lnN,lnM,yO,wY]; omega)) only [↓wZ,xi,↓yk,↓xJ,↓xP,↓yo,↓yb,↓ye,↓xI,↓yi,↓yg,↓yh,↓xu,↓xw,↓yf,↓xX,yJ,yI,yF,yE,Bool.and_true,lnM,wY,↓xW hx,Aa,lit,ht]
 by_cases h4 : x.kind = 4
 ·have e : Ax x = x.s.data.toList := by simp [Ax,h4]
  rw [e] at hl ⊢
  have hs := ht x.s.data.toList hl
  rw [RN] at hs
  simp (disch := first | omega | (simp only [lnA,lnC,lnN,lnM,yO,wY]; omega)) only [↓wZ,xi,↓yk,↓xJ,↓xP,↓yo,↓yb,↓ye,↓xI,↓yi,↓yg,↓yh,↓xu,↓xw,↓yf,↓xX,yJ,yI,yF,yE,Bool.and_true,lnM,wY,↓xW hx,Aa,hs]
 have hd := Nj hok h4
 have hdg := Vu (n := x.n) (by omega)
 have hdn := LX hd
 by_cases h3 : x.kind = 3
 ·have e : Ax x = Ch x.n := by simp [Ax,h3]
  rw [e]
  simp (disch := first | omega | (simp only [lnA,lnC,lnN,lnM,yO,wY]; omega)) only [↓wZ,xi,↓yk,↓xJ,↓xP,↓yo,↓yb,↓ye,↓xI,↓yi,↓yg,↓yh,↓xu,↓xw,↓yf,↓xX,yJ,yI,yF,yE,Bool.and_true,lnM,wY,↓xW hx,Aa,hdg,ht]
 by_cases h6 : x.kind = 6
 ·have e : Ax x = [35,102,117,110] ++ Ch x.n := by simp [Ax,h6]
  rw [e]
  simp (disch := first | omega | (simp only [lnA,lnC,lnN,lnM,yO,wY]; omega)) only [↓wZ,xi,↓xJ,↓xP,↓yo,↓yb,↓ye,↓xI,↓yi,↓yg,↓yh,↓xu,↓xw,↓yf,↓xz,xz,Int.reduceSub,Int.reduceToNat,↓xX,yJ,yI,yE,Bool.and_true,lnM,lnC,lnN,pE,wS,wY,↓xW hx,Aa,hdg,h6,lit,AV,yO,ht]
 by_cases h7 : x.kind = 7
 ·have e : Ax x = [35,107,111,110,116] ++ Ch x.n := by simp [Ax,h7]
  rw [e]
  simp (disch := first | omega | (simp only [lnA,lnC,lnN,lnM,yO,wY]; omega)) only [↓wZ,xi,↓xJ,↓xP,↓yo,↓yb,↓ye,↓xI,↓yi,↓yg,↓yh,↓xu,↓xw,↓yf,↓xA,xA,Int.reduceSub,Int.reduceToNat,↓xX,yJ,yI,yE,Bool.and_true,lnM,lnC,lnN,pE,wS,wY,↓xW hx,Aa,hdg,h7,lit,AV,yO,ht]
 by_cases h8 : x.kind = 8
 ·have e : Ax x = [35,112,114,105,109] ++ Ch x.n := by simp [Ax,h8]
  rw [e]
  simp (disch := first | omega | (simp only [lnA,lnC,lnN,lnM,yO,wY]; omega)) only [↓wZ,xi,↓xJ,↓xP,↓yo,↓yb,↓ye,↓xI,↓yi,↓yg,↓yh,↓xu,↓xw,↓yf,↓xB,xB,Int.reduceSub,Int.reduceToNat,↓xX,yJ,yI,yE,Bool.and_true,lnM,lnC,lnN,pE,wS,wY,↓xW hx,Aa,hdg,h8,lit,AV,yO,ht]
 have h9 : x.kind = 9 := by omega
 have e : Ax x = [35,112,105,100] ++ Ch x.n := by simp [Ax,h9]
 rw [e]
 simp (disch := first | omega | (simp only [lnA,lnC,lnN,lnM,yO,wY]; omega)) only [↓wZ,xi,↓xJ,↓xP,↓yo,↓yb,↓ye,↓xI,↓yi,↓yg,↓yh,↓xu,↓xw,↓yf,↓xC,xC,Int.reduceSub,Int.reduceToNat,↓xX,yJ,yI,yE,Bool.and_true,lnM,lnC,lnN,pE,wS,wY,↓xW hx,Aa,hdg,h9,lit,AV,yO,ht]
theorem Pa {p : List Nd} {v : Nat} {x : Nd} (hx : p[v]? = some x) {out : List UInt8} (ho : 400 < out.length) :
  V 87 [wO p out,iN (v : Int)] = some (.tup [],[wO p out]) := by
 have hv := aQ hx
 rw [AX]
 simp (disch := first | omega | (simp only [lnA,lnC,lnN,lnM,yO,wY]; omega)) only [↓wZ,xi,↓yk,↓xP,↓yo,↓yb,↓ye,↓xI,↓yi,↓yg,↓yh,↓xu,↓yf,↓xX,yJ,Bool.and_true,lnM,wY,↓xW hx,Aa]
theorem MG {p : List Nd} (hp : yR p = true) : ∀ (g : Nat),
  (∀ (v : Nat) (out : List UInt8),v < p.length -> 2 * v + 3 <= g -> out.length <= 300010 -> V 87 [wO p out,iN (v : Int)] = some (.tup [],[wO p (wm p g none v out)])) /\
  (∀ (v : Nat) (first : Bool) (out : List UInt8),v < p.length -> 2 * v + 2 <= g -> out.length <= 300000 -> zz (v : Int) first (p.map eN) (out.map eU) = some (.tup [],[wO p (wm p g (some first) v out)]))
 | 0 => ⟨fun v out _ h _ => by omega,fun v f out _ h _ => by omega⟩
 | g + 1 => by
  obtain ⟨ihv,iht⟩ := MG hp g
  have hl := zh hp
  refine ⟨fun v out hv hg ho => ?_,fun v first out hv hg ho => ?_⟩
  ·obtain ⟨x,hx⟩ := xx hv
   have hok := zp hp hx
   by_cases hf : out.length > 400
   ·rw [Pa hx hf]; simp only [wm,if_pos hf]
   by_cases h15 : x.kind = 5 \/ x.kind = 1
   ·have h2 := iht v true (out ++ [40]) hv (by omega) (by simp; omega)
    have hlen := ((NN hp g v (out ++ [40])).2 true)
    simp only [lnA,lnC,lnN] at hlen
    have hle : (wm p g (some true) v (out ++ [40])).length <= 200000 := by
     by_cases c : out.length + 1 <= 400
     ·have := hlen.1 c; omega
     ·have := hlen.2 (by omega); omega
    have h3 : V 151 [wO p (out ++ [40]),iN (v : Int)] = some (.tup [],[wO p (wm p g (some true) v (out ++ [40]))]) := by
     rw [IV]; exact h2
    have t1 : V 150 [wO p out,.str (mk [40])] = some (.tup [],[wO p (out ++ [40])]) := Kg p (by simp; omega)
    have t2 : V 150 [wO p (wm p g (some true) v (out ++ [40])),.str (mk [41])] = some (.tup [],[wO p (wm p g (some true) v (out ++ [40]) ++ [41])]) := Kg p (by simp; omega)
    have e : wm p (g + 1) none v out = wm p g (some true) v (out ++ [40]) ++ [41] := by
     simp only [wm,if_neg hf,hx,if_pos h15]
    rw [e,AX]
    rcases h15 with h | h
    ·simp (disch := first | omega | (simp only [lnA,lnC,lnN,lnM,yO,wY]; omega)) only [↓wZ,xi,↓yk,↓xJ,↓xP,↓yo,↓yb,↓ye,↓xI,↓yi,↓yg,↓yh,↓xu,↓xw,↓yf,↓xX,yJ,yI,yF,yE,Bool.and_true,lnM,wY,↓xW hx,Aa,lit,t1,t2,h3]
    ·simp (disch := first | omega | (simp only [lnA,lnC,lnN,lnM,yO,wY]; omega)) only [↓wZ,xi,↓yk,↓xJ,↓xP,↓yo,↓yb,↓ye,↓xI,↓yi,↓yg,↓yh,↓xu,↓xw,↓yf,↓xX,yJ,yI,yF,Bool.and_true,lnM,wY,↓xW hx,Aa,lit,t1,t2,h3]
   ·rw [O9 hp hx (fun h => h15 (.inl h)) (fun h => h15 (.inr h)) (by omega)]
    simp only [wm,if_neg hf,hx,if_neg h15]
  ·obtain ⟨x,hx⟩ := xx hv
   have hok := zp hp hx
   rw [Ft]
   by_cases h5 : x.kind = 5
   ·by_cases hf : out.length <= 400
    ·have hk := zx hok h5
     obtain ⟨ka,hka⟩ := Int.eq_ofNat_of_zero_le hk.1
     obtain ⟨kb,hkb⟩ := Int.eq_ofNat_of_zero_le hk.2.2.1
     have hw : ∀ o : List UInt8,o.length <= 401 -> (wm p g none ka o).length <= 200000 := fun o ho => by
      have h := (NN hp g ka o).1
      by_cases c : o.length <= 400
      ·have := h.1 c; omega
      ·have := h.2 (by omega); omega
     have hc : x.kind = 5 /\ out.length <= 400 := ⟨h5,hf⟩
     have e : wm p (g + 1) (some first) v out = wm p g (some false) kb (wm p g none ka (if first then out else out ++ [32])) := by
      simp only [wm,hx,if_pos hc,hka,hkb,Int.toNat_natCast]
     rw [e]
     cases first with
     | true =>
      have h1 := ihv ka out (by omega) (by omega) (by omega)
      have h2 := iht kb false (wm p g none ka out) (by omega) (by omega) (by have := hw out (by omega); omega)
      simp (disch := first | omega | (simp only [lnA,lnC,lnN,lnM,yO,wY]; omega)) only [↓wZ,xi,↓yk,↓xJ,↓xP,↓yo,↓yb,↓ye,↓xI,↓yg,↓yh,↓xu,↓xw,↓yf,↓xz,↓xC,↓xD,xz,xC,xD,↓xX,yJ,yI,yF,Bool.and_true,Bool.not_true,Bool.not_false,lnM,wY,↓xW hx,Aa,hka,hkb,h1,h2,if_true]
     | false =>
      have t1 : V 150 [wO p out,.str (mk [32])] = some (.tup [],[wO p (out ++ [32])]) := Kg p (by simp; omega)
      have h1 := ihv ka (out ++ [32]) (by omega) (by omega) (by simp; omega)
      have h2 := iht kb false (wm p g none ka (out ++ [32])) (by omega) (by omega) (by have := hw (out ++ [32]) (by simp; omega); omega)
      simp (disch := first | omega | (simp only [lnA,lnC,lnN,lnM,yO,wY]; omega)) only [↓wZ,xi,↓yk,↓xP,↓yo,↓yb,↓ye,↓xI,↓yg,↓yh,↓xu,↓xw,↓yf,↓xz,↓xC,↓xD,xz,xC,xD,↓xX,yJ,yI,yF,Bool.true_and,Bool.and_true,Bool.not_false,lnM,wY,↓xW hx,Aa,lit,t1,hka,hkb,h1,h2,if_false,Bool.false_eq_true]
    ·have e : wm p (g + 1) (some first) v out = out := by
      simp only [wm,hx,if_neg (fun h : x.kind = 5 /\ out.length <= 400 => hf h.2),if_pos (show x.kind = 1 \/ x.kind = 5 from .inr h5)]
     rw [e]
     simp (disch := first | omega | (simp only [lnA,lnC,lnN,lnM,yO,wY]; omega)) only [↓wZ,xi,↓yk,↓xJ,↓xP,↓yo,↓yb,↓ye,↓xI,↓yg,↓yh,↓xu,↓yf,↓xz,xz,↓xX,yJ,yF,yH,yG,Bool.and_true,Bool.not_true,lnM,wY,↓xW hx,Aa]
   ·by_cases h1 : x.kind = 1
    ·have e : wm p (g + 1) (some first) v out = out := by
      simp only [wm,hx,if_neg (fun h : x.kind = 5 /\ out.length <= 400 => h5 h.1),if_pos (show x.kind = 1 \/ x.kind = 5 from .inl h1)]
     rw [e]
     simp (disch := first | omega | (simp only [lnA,lnC,lnN,lnM,yO,wY]; omega)) only [↓xJ,↓xP,↓ye,↓xu,↓xz,xz,↓xX,yJ,yE,yG,Bool.and_true,lnM,wY,↓xW hx]
    ·have e : wm p (g + 1) (some first) v out = wm p g none v (out ++ [32,46,32]) := by
      simp only [wm,hx,if_neg (fun h : x.kind = 5 /\ out.length <= 400 => h5 h.1),if_neg (fun h : x.kind = 1 \/ x.kind = 5 => h.elim h1 h5)]
     have t1 : V 150 [wO p out,.str (mk [32,46,32])] = some (.tup [],[wO p (out ++ [32,46,32])]) := Kg p (by simp; omega)
     have h2 : V 87 [wO p (out ++ [32,46,32]),iN (v : Int)] = some (.tup [],[wO p (wm p g none v (out ++ [32,46,32]))]) := by
      cases g with
      | zero => omega
      | succ g =>
      by_cases hf : (out ++ [32,46,32]).length > 400
      ·rw [Pa hx hf]; simp only [wm,if_pos hf]
      ·rw [O9 hp hx h5 h1 (by omega)]
       simp only [wm,if_neg hf,hx,if_neg (fun h : x.kind = 5 \/ x.kind = 1 => h.elim h5 h1)]
     rw [e]
     simp (disch := first | omega | (simp only [lnA,lnC,lnN,lnM,yO,wY]; omega)) only [↓wZ,xi,↓yk,↓xJ,↓xP,↓yo,↓yb,↓ye,↓yg,↓yh,↓xu,↓xw,↓yf,↓xz,xz,↓xX,yJ,yE,yH,Bool.and_true,lnM,wY,↓xW hx,lit,t1,h2]

theorem J9 {p : List Nd} (hf : Ac p) (hl : p.length < 4611686018427387904) (v : Int) : V 29 [eP p,iN v] = some (.str (mk (JA p v)),[]) := by
 rw [Rj]
 unfold JA
 cases hp : yR p with
 | false => rw [if_neg (by simp)]; simp (disch := first | omega | (simp only [lnA,lnC,lnN,lnM,yO,wY]; omega)) only [↓wZ,xi,↓yk,↓yo,↓xI,Bool.not_false,zO hf hl,hp,lit]
 | true =>
  cases hv : wi v 0 ((p.length : Int) - 1) with
  | false => rw [if_neg (by simp)]; simp (disch := first | omega | (simp only [lnA,lnC,lnN,lnM,yO,wY]; omega)) only [↓wZ,xi,↓yk,↓xJ,↓yo,↓xI,Bool.not_true,Bool.not_false,zO hf hl,hp,Bv hl v,hv,lit]
  | true =>
   have h := wi_iff.1 hv
   obtain ⟨n,rfl⟩ := Int.eq_ofNat_of_zero_le h.1
   obtain ⟨x,hx⟩ := xx (l := p) (i := n) (by omega)
   rw [if_pos ⟨rfl,rfl⟩,Int.toNat_natCast]
   by_cases h1 : x.kind = 1
   ·have e : wr p (2 * n + 1) false n [] = [40,41] := by simp [wr,hx,h1,Ax]
    rw [e,if_neg (by simp)]
    simp (disch := first | omega | (simp only [lnA,lnC,lnN,lnM,yO,wY]; omega)) only [↓wZ,xi,↓yk,↓xJ,↓xP,↓yo,↓ye,↓xI,↓xu,↓xz,xz,yJ,yF,Bool.and_true,Bool.not_true,lnM,wY,zO hf hl,hp,Bv hl,hv,↓xW hx,lit]
   ·have hw : V 87 [.op [.rs (5,0) (p.map eN),.os (1,0) []],iN (n : Int)] = some (.tup [],[wO p (wm p (2 * n + 3) none n [])]) := (MG hp (2 * n + 3)).1 n [] (by omega) (Nat.le_refl _) (by simp)
    have ha := (NK hp (2 * n + 3)).1 (2 * n + 1) n [] (by omega) (by omega) (by omega)
    by_cases hc : (wm p (2 * n + 3) none n []).length > 400
    ·have hc2 : (wr p (2 * n + 1) false n []).length > 400 := by
      rcases ha with ha | ⟨_,ha⟩
      ·rw [<- ha]; exact hc
      ·exact ha
     rw [if_pos hc2]
     simp (disch := first | omega | (simp only [lnA,lnC,lnN,lnM,yO,wY]; omega)) only [↓wZ,xi,↓yk,↓xJ,↓xP,↓yo,↓yb,↓ye,↓xI,↓yg,↓yh,↓xu,↓xw,↓yf,↓xz,xz,yJ,yE,Bool.and_true,Bool.not_true,lnM,wY,zO hf hl,hp,Bv hl,hv,↓xW hx,lit,hw,Aa]
    ·have ha2 : wm p (2 * n + 3) none n [] = wr p (2 * n + 1) false n [] := by
      rcases ha with ha | ⟨h,_⟩
      ·exact ha
      ·exact absurd h hc
     rw [<- ha2,if_neg hc]
     simp (disch := first | omega | (simp only [lnA,lnC,lnN,lnM,yO,wY]; omega)) only [↓wZ,xi,↓xJ,↓xP,↓yo,↓yb,↓ye,↓xI,↓yg,↓yh,↓xu,↓xw,↓yf,↓xz,xz,yJ,yI,yE,Bool.and_true,Bool.not_true,lnM,wY,zO hf hl,hp,Bv hl,hv,↓xW hx,hw,Aa,↓TH]
end Go.Eng
/-! code and machines: when they are right,on both sides -/
namespace Go.Eng
noncomputable section
open Go.Proofs Go.Proofs.Tryz
set_option maxHeartbeats 4000000

structure In where
 op : Int
 n : Int
 i : Int
 s : ByteArray
structure Df where
 name : ByteArray
 at' : Int
 args : Int
structure Cd where
 pool : List Nd
 list : List In
 defs : List Df
abbrev eIn (x : In) : D := .agg [iN x.op,iN x.n,iN x.i,.str x.s]
abbrev eDf (x : Df) : D := .agg [.str x.name,iN x.at',iN x.args]
abbrev eCd (c : Cd) : D := .agg [.rs (5,0) (c.pool.map eN),.rs (4,0) (c.list.map eIn),.rs (3,0) (c.defs.map eDf)]
abbrev oCd (c : Cd) : D := .agg [.os (5,0) (c.pool.map eN),.os (4,0) (c.list.map eIn),.os (3,0) (c.defs.map eDf)]
structure FitsC (c : Cd) : Prop where
 pool : Ac c.pool
 plen : c.pool.length < 4611686018427387904
 list : ∀ x ∈ c.list,x.s.size < 4611686018427387904
 llen : c.list.length < 4611686018427387904
 defs : ∀ x ∈ c.defs,x.name.size < 4611686018427387904
 dlen : c.defs.length < 4611686018427387904
section
variable {R : Type}
theorem Xu (x : In) (K : Int -> Int -> Int -> ByteArray -> Option R) : Vt (eIn x) (fun n4 n7 n10 s13 => (K n4 n7 n10 s13)) = K x.op x.n x.i x.s := rfl
end
def Cg (c : Cd) (s : ByteArray) : Int := ya (fun d : Df => kc d.name s) c.defs
theorem Je {l : List Df} (hl : l.length < 4611686018427387904) (s : ByteArray) : ∀ (k i : Nat),i + k = l.length -> Am (l.map eDf) s (ni (l.map eDf).length) (i : Int) = some (iN (dQ (fun d : Df => kc d.name s) l i),[])
 | 0,i,hi => by
  rw [Ct,w8 (by omega)]
  simp (disch := first | omega | (simp only [lnA,lnC,lnN,lnM,yO,wY]; omega)) only [↓xJ,yI,lnM,wY]
 | k + 1,i,hi => by
  obtain ⟨x,hx⟩ := xx (l := l) (i := i) (by omega)
  have ih := Je hl s k (i + 1) (by omega)
  have hd : V 179 [eDf x,.bp [.str s]] = some (.bool (kc x.name s),[]) := by rw [VN]
  have hw : w6 ((i : Int) + 1) = ((i + 1 : Nat) : Int) := yM (by omega)
  rw [Ct]
  cases h : kc x.name s with
  | true => rw [w9 hx h]; rw [h] at hd; simp (disch := first | omega | (simp only [lnA,lnC,lnN,lnM,yO,wY]; omega)) only [↓wZ,xi,↓yk,↓xP,↓yo,↓yb,↓ye,↓xI,↓yi,↓xu,↓xX,yJ,Bool.and_true,lnM,wY,↓xW hx,hd]
  | false =>
   rw [h] at hd
   rw [wJ hx h,<- ih,lnM]; simp (disch := first | omega | (simp only [lnA,lnC,lnN,lnM,yO,wY]; omega)) only [↓wZ,xi,↓yk,↓xJ,↓xP,↓yo,↓yb,↓ye,↓xI,↓yi,↓xu,↓xX,yJ,Bool.and_true,wY,↓xW hx,hd,hw]
theorem QQ {c : Cd} (hf : FitsC c) (s : ByteArray) : V 125 [eCd c,.str s] = some (iN (Cg c s),[]) := by
 have h := Je hf.dlen s c.defs.length 0 (Nat.zero_add _)
 rw [wK,Int.natCast_zero] at h
 have h2 : V 178 [.rs (3,0) (c.defs.map eDf),.fn 179 [.bp [.str s]]] = some (iN (Cg c s),[]) := by
  rw [Kt]; exact h
 rw [Ri]
 simp (disch := first | omega | (simp only [lnA,lnC,lnN,lnM,yO,wY]; omega)) only [↓wZ,xi,↓yo,↓ye,h2]
theorem Jl {l : List Df} (hl : l.length < 4611686018427387904) (s : ByteArray) (p q : List D) : ∀ (k i : Nat),i + k = l.length -> Cz s (i : Int) p q (l.map eDf) = some (iN (dQ (fun d : Df => kc d.name s) l i),[])
 | 0,i,hi => by
  rw [FJ,w8 (by omega)]
  simp (disch := first | omega | (simp only [lnA,lnC,lnN,lnM,yO,wY]; omega)) only [↓xJ,yI,lnM,wY]
 | k + 1,i,hi => by
  obtain ⟨x,hx⟩ := xx (l := l) (i := i) (by omega)
  have ih := Jl hl s p q k (i + 1) (by omega)
  have hw : w6 ((i : Int) + 1) = ((i + 1 : Nat) : Int) := yM (by omega)
  rw [FJ]
  cases h : kc x.name s with
  | true => rw [w9 hx h]; simp (disch := first | omega | (simp only [lnA,lnC,lnN,lnM,yO,wY]; omega)) only [↓yk,↓xP,↓yi,↓xu,↓xz,xz,↓xX,yJ,Bool.and_true,lnM,wY,↓xW hx,h]
  | false => rw [wJ hx h,<- ih]; simp (disch := first | omega | (simp only [lnA,lnC,lnN,lnM,yO,wY]; omega)) only [↓yk,↓xJ,↓xP,↓yi,↓xu,↓xz,xz,↓xX,yJ,Bool.and_true,lnM,wY,↓xW hx,h,hw]
theorem DA {c : Cd} (hf : FitsC c) (s : ByteArray) : V 129 [eCd c,.str s] = some (iN (Cg c s),[]) := by
 have h := Jl hf.dlen s (c.pool.map eN) (c.list.map eIn) c.defs.length 0 (Nat.zero_add _)
 rw [wK,Int.natCast_zero] at h
 rw [Rm]
 exact h

def Gz (c : Cd) (x : In) (k : Int) : Bool :=
 if x.op = 1 then wi x.n 0 ((c.pool.length : Int) - 1) && (x.i == 0 && nz x.s)
 else if x.op = 2 then wi x.n 0 20 && (wi x.i 0 3 && nz x.s)
 else if x.op = 3 then x.n == 0 && (x.i == 0 && GI x.s)
 else if x.op = 4 \/ x.op = 5 then wi x.n (k + 1) (c.list.length : Int) && (x.i == 0 && nz x.s)
 else if x.op = 6 then wi x.n (k + 1) ((c.list.length : Int) - 1) && (wi x.i 0 4 && nz x.s)
 else if x.op = 7 then x.n == 0 && (wi x.i 0 4 && nz x.s)
 else if x.op = 8 \/ x.op = 9 then x.n == 0 && (x.i == 0 && nz x.s)
 else false
theorem Xo (n k h : Int) : wi n (k + 1) h = (decide (n > k) && decide (n <= h)) := by
 unfold wi
 congr 1
theorem XG (n k h : Int) : wi n (k + 1) (h - 1) = (decide (n > k) && decide (n < h)) := by
 unfold wi
 congr 1
 exact decide_eq_decide.2 (by omega)
theorem NF {c : Cd} (hf : FitsC c) {k : Nat} {x : In} (hx : c.list[k]? = some x) : V 123 [eCd c,iN (k : Int)] = some (.bool (Gz c x k),[]) := by
 have hk := aQ hx
 have hl := hf.llen
 have hp := hf.plen
 have hs := hf.list x (List.mem_of_getElem? hx)
 rw [NU]
 unfold Gz
 have hnm := FG hs
 have hnode := Bv hp x.n
 by_cases h1 : x.op = 1
 ·rw [if_pos h1]; simp (disch := first | omega | (simp only [lnA,lnC,lnN,lnM,yO,wY]; omega)) only [↓wZ,xi,↓yk,↓xP,↓yo,↓yb,↓ye,↓xI,↓yi,↓xu,↓xX,yJ,yF,Bool.and_true,lnM,wY,↓xW hx,hnode]; simp only [y5]; rfl
 rw [if_neg h1]
 by_cases h2 : x.op = 2
 ·rw [if_pos h2]; simp (disch := first | omega | (simp only [lnA,lnC,lnN,lnM,yO,wY]; omega)) only [↓wZ,xi,↓yk,↓xJ,↓xP,↓yo,↓yb,↓ye,↓xI,↓yi,↓xu,↓xX,yJ,yF,yE,Bool.and_true,lnM,wY,↓xW hx,zb]; simp only [y5]; rfl
 rw [if_neg h2]
 by_cases h3 : x.op = 3
 ·rw [if_pos h3]; simp (disch := first | omega | (simp only [lnA,lnC,lnN,lnM,yO,wY]; omega)) only [↓wZ,xi,↓yk,↓xJ,↓xP,↓yo,↓yb,↓ye,↓xI,↓yi,↓xu,↓xX,yJ,yF,yE,Bool.and_true,lnM,wY,↓xW hx,hnm]; simp only [y5]
 rw [if_neg h3]
 by_cases h4 : x.op = 4
 ·rw [if_pos (.inl h4)]; simp (disch := first | omega | (simp only [lnA,lnC,lnN,lnM,yO,wY]; omega)) only [↓wZ,xi,↓yk,↓xJ,↓xP,↓yo,↓yb,↓ye,↓xI,↓yi,↓xu,↓xX,yJ,yF,yE,Bool.and_true,lnM,wS,wY,↓xW hx,zb]; simp only [y5]; rfl
 by_cases h5 : x.op = 5
 ·rw [if_pos (.inr h5)]; simp (disch := first | omega | (simp only [lnA,lnC,lnN,lnM,yO,wY]; omega)) only [↓wZ,xi,↓yk,↓xJ,↓xP,↓yo,↓yb,↓ye,↓xI,↓yi,↓xu,↓xX,yJ,yF,yE,Bool.and_true,lnM,wS,wY,↓xW hx,zb]; simp only [y5]; rfl
 rw [if_neg (by omega)]
 by_cases h6 : x.op = 6
 ·rw [if_pos h6]; simp (disch := first | omega | (simp only [lnA,lnC,lnN,lnM,yO,wY]; omega)) only [↓wZ,xi,↓yk,↓xJ,↓xP,↓yo,↓yb,↓ye,↓xI,↓yi,↓xu,↓xX,yJ,yF,yE,Bool.and_true,lnM,wS,wY,↓xW hx,zb]; simp only [y5]; rfl
 rw [if_neg h6]
 by_cases h7 : x.op = 7
 ·rw [if_pos h7]; simp (disch := first | omega | (simp only [lnA,lnC,lnN,lnM,yO,wY]; omega)) only [↓wZ,xi,↓yk,↓xJ,↓xP,↓yo,↓yb,↓ye,↓xI,↓yi,↓xu,↓xX,yJ,yF,yE,Bool.and_true,lnM,wY,↓xW hx,zb]; simp only [y5]; rfl
 rw [if_neg h7]
 by_cases h8 : x.op = 8
 ·rw [if_pos (.inl h8)]; simp (disch := first | omega | (simp only [lnA,lnC,lnN,lnM,yO,wY]; omega)) only [↓yk,↓xJ,↓xP,↓yo,↓yb,↓ye,↓yi,↓xu,↓xX,yJ,yF,yE,Bool.and_true,lnM,wY,↓xW hx]; simp only [y5]; rfl
 by_cases h9 : x.op = 9
 ·rw [if_pos (.inr h9)]; simp (disch := first | omega | (simp only [lnA,lnC,lnN,lnM,yO,wY]; omega)) only [↓yk,↓xJ,↓xP,↓yo,↓yb,↓ye,↓yi,↓xu,↓xX,yJ,yF,yE,Bool.and_true,lnM,wY,↓xW hx]; simp only [y5]; rfl
 rw [if_neg (by omega)]
 simp (disch := first | omega | (simp only [lnA,lnC,lnN,lnM,yO,wY]; omega)) only [↓xJ,↓xP,↓yo,↓yb,↓ye,↓yi,↓xu,↓xX,yJ,yE,Bool.and_true,lnM,wY,↓xW hx]
theorem Vv {c : Cd} (hf : FitsC c) {k : Nat} {x : In} (hx : c.list[k]? = some x) : V 127 [eCd c,iN (k : Int)] = some (.bool (Gz c x k),[]) := by
 have hk := aQ hx
 have hl := hf.llen
 have hp := hf.plen
 have hs := hf.list x (List.mem_of_getElem? hx)
 have hself : kc x.s x.s = true := by rw [Cm]; simp
 rw [Og]
 unfold Gz
 have hnm := CN hs
 have hnode := Fm hp x.n
 by_cases h1 : x.op = 1
 ·rw [if_pos h1]; simp (disch := first | omega | (simp only [lnA,lnC,lnN,lnM,yO,wY]; omega)) only [↓wZ,xi,↓yk,↓xP,↓yo,↓yb,↓ye,↓xI,↓yi,↓xu,↓xX,yJ,yF,Bool.true_and,Bool.and_true,lnM,wY,↓xW hx,hnode]; simp only [y5]
  show some (D.bool (_ && nz x.s && _),_) = _
  cases wi x.n 0 ((c.pool.length : Int) - 1) <;> cases x.i == 0 <;> cases nz x.s <;> rfl
 rw [if_neg h1]
 by_cases h2 : x.op = 2
 ·rw [if_pos h2]; simp (disch := first | omega | (simp only [lnA,lnC,lnN,lnM,yO,wY]; omega)) only [↓wZ,xi,↓yk,↓xJ,↓xP,↓yo,↓yb,↓ye,↓xI,↓yi,↓xu,↓xX,yJ,yF,yE,Bool.and_true,lnM,wY,↓xW hx,zU]; simp only [y5]
  show some (D.bool (nz x.s && _),_) = _
  cases wi x.n 0 20 <;> cases wi x.i 0 3 <;> cases nz x.s <;> rfl
 rw [if_neg h2]
 by_cases h3 : x.op = 3
 ·rw [if_pos h3]; simp (disch := first | omega | (simp only [lnA,lnC,lnN,lnM,yO,wY]; omega)) only [↓wZ,xi,↓yk,↓xJ,↓xP,↓yo,↓yb,↓ye,↓xI,↓yi,↓xu,↓xX,yJ,yF,yE,Bool.true_and,Bool.and_true,lnM,wY,↓xW hx,hnm,hself]; simp only [y5]
  cases x.n == 0 <;> cases x.i == 0 <;> cases GI x.s <;> rfl
 rw [if_neg h3]
 by_cases h4 : x.op = 4
 ·rw [if_pos (.inl h4),Xo]; simp (disch := first | omega | (simp only [lnA,lnC,lnN,lnM,yO,wY]; omega)) only [↓yk,↓xJ,↓xP,↓yo,↓yb,↓ye,↓yi,↓xu,↓xX,yJ,yF,yE,Bool.true_and,Bool.and_true,lnM,wY,↓xW hx]; simp only [y5]
  show some (D.bool (_ && nz x.s && _),_) = _
  cases decide (x.n > (k : Int)) <;> cases decide (x.n <= (c.list.length : Int)) <;> cases x.i == 0 <;> cases nz x.s <;> rfl
 by_cases h5 : x.op = 5
 ·rw [if_pos (.inr h5),Xo]; simp (disch := first | omega | (simp only [lnA,lnC,lnN,lnM,yO,wY]; omega)) only [↓yk,↓xJ,↓xP,↓yo,↓yb,↓ye,↓yi,↓xu,↓xX,yJ,yF,yE,Bool.true_and,Bool.and_true,lnM,wY,↓xW hx]; simp only [y5]
  show some (D.bool (_ && nz x.s && _),_) = _
  cases decide (x.n > (k : Int)) <;> cases decide (x.n <= (c.list.length : Int)) <;> cases x.i == 0 <;> cases nz x.s <;> rfl
 rw [if_neg (by omega)]
 by_cases h6 : x.op = 6
 ·rw [if_pos h6,XG]; simp (disch := first | omega | (simp only [lnA,lnC,lnN,lnM,yO,wY]; omega)) only [↓wZ,xi,↓yk,↓xJ,↓xP,↓yo,↓yb,↓ye,↓xI,↓yi,↓xu,↓xX,yJ,yF,yE,Bool.and_true,lnM,wY,↓xW hx,zU]; simp only [y5]
  show some (D.bool (nz x.s && _),_) = _
  cases decide (x.n > (k : Int)) <;> cases decide (x.n < (c.list.length : Int)) <;> cases wi x.i 0 4 <;> cases nz x.s <;> rfl
 rw [if_neg h6]
 by_cases h7 : x.op = 7
 ·rw [if_pos h7]; simp (disch := first | omega | (simp only [lnA,lnC,lnN,lnM,yO,wY]; omega)) only [↓wZ,xi,↓yk,↓xJ,↓xP,↓yo,↓yb,↓ye,↓xI,↓yi,↓xu,↓xX,yJ,yF,yE,Bool.true_and,Bool.and_true,lnM,wY,↓xW hx,zU]; simp only [y5]
  show some (D.bool (_ && nz x.s && _),_) = _
  cases x.n == 0 <;> cases wi x.i 0 4 <;> cases nz x.s <;> rfl
 rw [if_neg h7]
 by_cases h8 : x.op = 8
 ·rw [if_pos (.inl h8)]; simp (disch := first | omega | (simp only [lnA,lnC,lnN,lnM,yO,wY]; omega)) only [↓yk,↓xJ,↓xP,↓yo,↓yb,↓ye,↓yi,↓xu,↓xX,yJ,yF,yE,Bool.true_and,Bool.and_true,lnM,wY,↓xW hx]; rfl
 by_cases h9 : x.op = 9
 ·rw [if_pos (.inr h9)]; simp (disch := first | omega | (simp only [lnA,lnC,lnN,lnM,yO,wY]; omega)) only [↓yk,↓xJ,↓xP,↓yo,↓yb,↓ye,↓yi,↓xu,↓xX,yJ,yF,yE,Bool.true_and,Bool.and_true,lnM,wY,↓xW hx]; rfl
 rw [if_neg (by omega)]
 simp (disch := first | omega | (simp only [lnA,lnC,lnN,lnM,yO,wY]; omega)) only [↓xJ,↓xP,↓yo,↓yb,↓ye,↓yi,↓xu,↓xX,yJ,yE,Bool.and_true,lnM,wY,↓xW hx]

def Da (c : Cd) : Nat -> Nat -> Bool
 | _,0 => true
 | i,k + 1 => (match c.list[i]? with | some x => Gz c x i | none => true) && Da c (i + 1) k
def TP (c : Cd) (d : Df) (i : Int) : Bool := GI d.name && (Cg c d.name == i && (wi d.at' 0 ((c.list.length : Int) - 1) && wi d.args 0 4))
def Bq (c : Cd) : Nat -> Nat -> Bool
 | _,0 => true
 | i,k + 1 => (match c.defs[i]? with | some d => TP c d i | none => true) && Bq c (i + 1) k
def zw (c : Cd) : Bool := yR c.pool && (decide (c.list.length <= 400) && (decide (c.defs.length <= 20) && (Da c 0 c.list.length && Bq c 0 c.defs.length)))
theorem GT {c : Cd} (hf : FitsC c) : ∀ (k i : Nat),i + k = c.defs.length -> Bw (c.defs.map eDf) (ni (c.defs.map eDf).length) (i : Int) (c.pool.map eN) (c.list.map eIn) (c.defs.map eDf) = some (.bool (Bq c i k),[])
 | 0,i,hi => by
  have hd := hf.dlen
  rw [DE]
  simp (disch := first | omega | (simp only [lnA,lnC,lnN,lnM,yO,wY]; omega)) only [↓xJ,yI,lnM,wY]
  rfl
 | k + 1,i,hi => by
  have hd := hf.dlen
  have hll := hf.llen
  obtain ⟨x,hx⟩ := xx (l := c.defs) (i := i) (by omega)
  have ih := GT hf k (i + 1) (by omega)
  rw [lnM] at ih
  have hw : w6 ((i : Int) + 1) = ((i + 1 : Nat) : Int) := yM (by omega)
  have hdf := QQ hf x.name
  have hnm := FG (hf.defs x (List.mem_of_getElem? hx))
  rw [DE]
  simp only [Bq,hx,TP]
  cases e1 : GI x.name with
  | false => rw [e1] at hnm; simp (disch := first | omega | (simp only [lnA,lnC,lnN,lnM,yO,wY]; omega)) only [↓wZ,xi,↓yk,↓xP,↓yo,↓yb,↓ye,↓xI,↓yi,↓xu,↓xX,yJ,Bool.and_true,Bool.false_and,Bool.not_false,lnM,wY,↓xW hx,hnm]
  | true =>
   rw [e1] at hnm
   by_cases e2 : Cg c x.name = (i : Int)
   ·rw [e2] at hdf
    simp (disch := first | omega | (simp only [lnA,lnC,lnN,lnM,yO,wY]; omega)) only [↓wZ,xi,↓yk,↓xJ,↓xP,↓yo,↓yb,↓ye,↓xI,↓yi,↓xu,↓xX,yJ,yF,yG,Bool.true_and,Bool.and_true,Bool.not_true,lnM,wS,wY,↓xW hx,hnm,hdf,e2,zb,hw,ih]
    cases wi x.at' 0 ((c.list.length : Int) - 1) <;> cases wi x.args 0 4 <;> rfl
   ·simp (disch := first | omega | (simp only [lnA,lnC,lnN,lnM,yO,wY]; omega)) only [↓wZ,xi,↓yk,↓xJ,↓xP,↓yo,↓yb,↓ye,↓xI,↓yi,↓xu,↓xX,yJ,yE,yH,Bool.and_true,Bool.false_and,Bool.and_false,Bool.not_true,lnM,wY,↓xW hx,hnm,hdf]
theorem Ik {c : Cd} (hf : FitsC c) : ∀ (k i : Nat),i + k = c.defs.length -> BV (i : Int) (c.pool.map eN) (c.list.map eIn) (c.defs.map eDf) = some (.bool (Bq c i k),[])
 | 0,i,hi => by
  have hd := hf.dlen
  rw [Ez]
  simp (disch := first | omega | (simp only [lnA,lnC,lnN,lnM,yO,wY]; omega)) only [↓xJ,yI,lnM,wY]
  rfl
 | k + 1,i,hi => by
  have hd := hf.dlen
  have hll := hf.llen
  obtain ⟨x,hx⟩ := xx (l := c.defs) (i := i) (by omega)
  have ih := Ik hf k (i + 1) (by omega)
  have hw : w6 ((i : Int) + 1) = ((i + 1 : Nat) : Int) := yM (by omega)
  have hdf := DA hf x.name
  have hnm := CN (hf.defs x (List.mem_of_getElem? hx))
  rw [Ez]
  simp only [Bq,hx,TP]
  cases e1 : GI x.name with
  | false => rw [e1] at hnm; simp (disch := first | omega | (simp only [lnA,lnC,lnN,lnM,yO,wY]; omega)) only [↓wZ,xi,↓yk,↓xP,↓yo,↓yb,↓ye,↓xI,↓yi,↓xu,↓xX,yJ,Bool.and_true,Bool.false_and,Bool.not_false,lnM,wY,↓xW hx,hnm]
  | true =>
   rw [e1] at hnm
   by_cases e2 : Cg c x.name = (i : Int)
   ·rw [e2] at hdf
    simp (disch := first | omega | (simp only [lnA,lnC,lnN,lnM,yO,wY]; omega)) only [↓wZ,xi,↓yk,↓xJ,↓xP,↓yo,↓yb,↓ye,↓xI,↓yi,↓xu,↓xX,yJ,yF,yG,Bool.true_and,Bool.and_true,Bool.not_true,lnM,wS,wY,↓xW hx,hnm,hdf,e2,zU,hw,ih]
    cases wi x.at' 0 ((c.list.length : Int) - 1) <;> cases wi x.args 0 4 <;> rfl
   ·simp (disch := first | omega | (simp only [lnA,lnC,lnN,lnM,yO,wY]; omega)) only [↓wZ,xi,↓yk,↓xJ,↓xP,↓yo,↓yb,↓ye,↓xI,↓yi,↓xu,↓xX,yJ,yE,yH,Bool.and_true,Bool.false_and,Bool.and_false,Bool.not_true,lnM,wY,↓xW hx,hnm,hdf]
theorem Jf {c : Cd} (hf : FitsC c) : ∀ (k i : Nat),i + k = c.list.length -> BJ (ni (c.list.map eIn).length) (i : Int) (c.pool.map eN) (c.list.map eIn) (c.defs.map eDf) = some (.bool (Da c i k && Bq c 0 c.defs.length),[])
 | 0,i,hi => by
  have hll := hf.llen
  have h := GT hf c.defs.length 0 (Nat.zero_add _)
  rw [Int.natCast_zero,lnM] at h
  rw [Ej]
  simp (disch := first | omega | (simp only [lnA,lnC,lnN,lnM,yO,wY]; omega)) only [↓xJ,yI,lnM,wY,h]
  rfl
 | k + 1,i,hi => by
  have hll := hf.llen
  obtain ⟨x,hx⟩ := xx (l := c.list) (i := i) (by omega)
  have ih := Jf hf k (i + 1) (by omega)
  rw [lnM] at ih
  have hw : w6 ((i : Int) + 1) = ((i + 1 : Nat) : Int) := yM (by omega)
  have hi := NF hf hx
  rw [Ej]
  simp only [Da,hx]
  cases e1 : Gz c x i with
  | false => rw [e1] at hi; simp (disch := first | omega | (simp only [lnA,lnC,lnN,lnM,yO,wY]; omega)) only [↓wZ,xi,↓yk,↓yo,↓xI,yJ,Bool.false_and,Bool.not_false,lnM,wY,hi]
  | true => rw [e1] at hi; simp (disch := first | omega | (simp only [lnA,lnC,lnN,lnM,yO,wY]; omega)) only [↓wZ,xi,↓yk,↓xJ,↓yo,↓xI,yJ,Bool.true_and,Bool.not_true,lnM,wY,hi,hw,ih]
theorem Jm {c : Cd} (hf : FitsC c) : ∀ (k i : Nat),i + k = c.list.length -> BU (i : Int) (c.pool.map eN) (c.list.map eIn) (c.defs.map eDf) = some (.bool (Da c i k && Bq c 0 c.defs.length),[])
 | 0,i,hi => by
  have hll := hf.llen
  have h := Ik hf c.defs.length 0 (Nat.zero_add _)
  rw [Int.natCast_zero] at h
  rw [Ew]
  simp (disch := first | omega | (simp only [lnA,lnC,lnN,lnM,yO,wY]; omega)) only [↓xJ,yI,lnM,wY,h]
  rfl
 | k + 1,i,hi => by
  have hll := hf.llen
  obtain ⟨x,hx⟩ := xx (l := c.list) (i := i) (by omega)
  have ih := Jm hf k (i + 1) (by omega)
  have hw : w6 ((i : Int) + 1) = ((i + 1 : Nat) : Int) := yM (by omega)
  have hi := Vv hf hx
  rw [Ew]
  simp only [Da,hx]
  cases e1 : Gz c x i with
  | false => rw [e1] at hi; simp (disch := first | omega | (simp only [lnA,lnC,lnN,lnM,yO,wY]; omega)) only [↓wZ,xi,↓yk,↓yo,↓xI,yJ,Bool.false_and,Bool.not_false,lnM,wY,hi]
  | true => rw [e1] at hi; simp (disch := first | omega | (simp only [lnA,lnC,lnN,lnM,yO,wY]; omega)) only [↓wZ,xi,↓yk,↓xJ,↓yo,↓xI,yJ,Bool.true_and,Bool.not_true,lnM,wY,hi,hw,ih]
theorem OC {c : Cd} (hf : FitsC c) : V 54 [eCd c] = some (.bool (zw c),[]) := by
 have hp := zO hf.pool hf.plen
 have h := Jf hf c.list.length 0 (Nat.zero_add _)
 rw [Int.natCast_zero,lnM] at h
 rw [PG]
 unfold zw
 cases e1 : yR c.pool with
 | false => rw [e1] at hp; simp (disch := first | omega | (simp only [lnA,lnC,lnN,lnM,yO,wY]; omega)) only [↓wZ,xi,↓yk,↓yo,↓xI,Bool.false_and,Bool.not_false,hp]
 | true =>
  rw [e1] at hp
  by_cases e2 : c.list.length <= 400
  ·by_cases e3 : c.defs.length <= 20
   ·simp (disch := first | omega | (simp only [lnA,lnC,lnN,lnM,yO,wY]; omega)) only [↓wZ,xi,↓xJ,↓yo,↓xI,yJ,yI,Bool.true_and,Bool.not_true,lnM,wY,hp,h]
   ·simp (disch := first | omega | (simp only [lnA,lnC,lnN,lnM,yO,wY]; omega)) only [↓wZ,xi,↓yk,↓xJ,↓yo,↓xI,yJ,yI,Bool.false_and,Bool.and_false,Bool.not_true,lnM,wY,hp]
  ·simp (disch := first | omega | (simp only [lnA,lnC,lnN,lnM,yO,wY]; omega)) only [↓wZ,xi,↓yk,↓xJ,↓yo,↓xI,yJ,yI,Bool.false_and,Bool.and_false,Bool.not_true,lnM,wY,hp]
theorem CM {c : Cd} (hf : FitsC c) : V 59 [eCd c] = some (.bool (zw c),[]) := by
 have hp := z8 hf.pool hf.plen
 have h := Jm hf c.list.length 0 (Nat.zero_add _)
 rw [Int.natCast_zero] at h
 rw [PR]
 unfold zw
 cases e1 : yR c.pool with
 | false => rw [e1] at hp; simp (disch := first | omega | (simp only [lnA,lnC,lnN,lnM,yO,wY]; omega)) only [↓wZ,xi,↓yk,↓yo,↓xI,Bool.false_and,Bool.not_false,hp]
 | true =>
  rw [e1] at hp
  by_cases e2 : c.list.length <= 400
  ·by_cases e3 : c.defs.length <= 20
   ·simp (disch := first | omega | (simp only [lnA,lnC,lnN,lnM,yO,wY]; omega)) only [↓wZ,xi,↓xJ,↓yo,↓xI,yJ,yI,Bool.true_and,Bool.not_true,lnM,wY,hp,h]
   ·simp (disch := first | omega | (simp only [lnA,lnC,lnN,lnM,yO,wY]; omega)) only [↓wZ,xi,↓yk,↓xJ,↓yo,↓xI,yJ,yI,Bool.false_and,Bool.and_false,Bool.not_true,lnM,wY,hp]
  ·simp (disch := first | omega | (simp only [lnA,lnC,lnN,lnM,yO,wY]; omega)) only [↓wZ,xi,↓yk,↓xJ,↓yo,↓xI,yJ,yI,Bool.false_and,Bool.and_false,Bool.not_true,lnM,wY,hp]

structure Mc where
 pool : List Nd
 at' : Int
 s : Int
 e : Int
 d : Int
 state : Int
 ask : Int
 arg : Int
abbrev eMc (m : Mc) : D := .agg [.rs (5,0) (m.pool.map eN),iN m.at',iN m.s,iN m.e,iN m.d,iN m.state,iN m.ask,iN m.arg]
abbrev oMc (m : Mc) : D := .agg [.os (5,0) (m.pool.map eN),iN m.at',iN m.s,iN m.e,iN m.d,iN m.state,iN m.ask,iN m.arg]
def JR (p : List Nd) (v : Int) : Bool := wi v 0 ((p.length : Int) - 1)
def IZ (c : Cd) (m : Mc) : Bool :=
 if m.state = 0 then wi m.at' 0 ((c.list.length : Int) - 1) && (m.ask == 0 && m.arg == 0)
 else if m.state = 1 then wi m.at' 0 ((c.list.length : Int) - 1) && (wi m.ask 13 19 && ((m.ask != 18) && JR m.pool m.arg))
 else if m.state = 2 then m.at' == 0 && (m.ask == 0 && JR m.pool m.arg)
 else if m.state = 3 then m.at' == 0 && (wi m.ask 1 7 && m.arg == 0)
 else false
def Db (c : Cd) (m : Mc) : Bool := zw c && (yR m.pool && (JR m.pool m.s && (JR m.pool m.e && (JR m.pool m.d && IZ c m))))
theorem Po {c : Cd} (hl : c.list.length < 4611686018427387904) (n : Int) : V 57 [eCd c,iN n] = some (.bool (wi n 0 ((c.list.length : Int) - 1)),[]) := by
 rw [NV]
 simp (disch := first | omega | (simp only [lnA,lnC,lnN,lnM,yO,wY]; omega)) only [↓wZ,xi,↓yo,↓xI,lnM,wS,wY,zb]
theorem Gk {c : Cd} (hf : FitsC c) {m : Mc} (hm : Ac m.pool) (hl : m.pool.length < 4611686018427387904) : V 14 [eCd c,eMc m] = some (.bool (Db c m),[]) := by
 have hc := OC hf
 have hp := zO hm hl
 have h1 := Bv hl m.s
 have h2 := Bv hl m.e
 have h3 := Bv hl m.d
 have h4 := Bv hl m.arg
 have h5 := Po hf.llen m.at'
 rw [Lr]
 unfold Db JR
 cases e1 : zw c with
 | false => rw [e1] at hc; simp (disch := first | omega | (simp only [lnA,lnC,lnN,lnM,yO,wY]; omega)) only [↓wZ,xi,↓yk,↓yo,↓xI,Bool.false_and,Bool.not_false,hc]
 | true =>
 rw [e1] at hc
 cases e2 : yR m.pool with
 | false => rw [e2] at hp; simp (disch := first | omega | (simp only [lnA,lnC,lnN,lnM,yO,wY]; omega)) only [↓wZ,xi,↓yk,↓xJ,↓yo,↓xI,Bool.false_and,Bool.and_false,Bool.not_true,Bool.not_false,hc,hp]
 | true =>
 rw [e2] at hp
 cases e3 : wi m.s 0 ((m.pool.length : Int) - 1) with
 | false => rw [e3] at h1; simp (disch := first | omega | (simp only [lnA,lnC,lnN,lnM,yO,wY]; omega)) only [↓wZ,xi,↓yk,↓xJ,↓yo,↓xI,Bool.false_and,Bool.and_false,Bool.not_true,Bool.not_false,hc,hp,h1]
 | true =>
 rw [e3] at h1
 cases e4 : wi m.e 0 ((m.pool.length : Int) - 1) with
 | false => rw [e4] at h2; simp (disch := first | omega | (simp only [lnA,lnC,lnN,lnM,yO,wY]; omega)) only [↓wZ,xi,↓yk,↓xJ,↓yo,↓xI,Bool.false_and,Bool.and_false,Bool.not_true,Bool.not_false,hc,hp,h1,h2]
 | true =>
 rw [e4] at h2
 cases e5 : wi m.d 0 ((m.pool.length : Int) - 1) with
 | false => rw [e5] at h3; simp (disch := first | omega | (simp only [lnA,lnC,lnN,lnM,yO,wY]; omega)) only [↓wZ,xi,↓yk,↓xJ,↓yo,↓xI,Bool.false_and,Bool.and_false,Bool.not_true,Bool.not_false,hc,hp,h1,h2,h3]
 | true =>
 rw [e5] at h3
 unfold IZ JR
 by_cases s0 : m.state = 0
 ·rw [if_pos s0]; simp (disch := first | omega | (simp only [lnA,lnC,lnN,lnM,yO,wY]; omega)) only [↓wZ,xi,↓yk,↓xJ,↓yo,↓xI,yF,Bool.true_and,Bool.not_true,hc,hp,h1,h2,h3,h5]; simp only [y5]
 rw [if_neg s0]
 by_cases s1 : m.state = 1
 ·rw [if_pos s1]; simp (disch := first | omega | (simp only [lnA,lnC,lnN,lnM,yO,wY]; omega)) only [↓wZ,xi,↓yk,↓xJ,↓yo,↓xI,yF,yE,Bool.true_and,Bool.not_true,hc,hp,h1,h2,h3,h4,h5,zb]; simp only [y5]
 rw [if_neg s1]
 by_cases s2 : m.state = 2
 ·rw [if_pos s2]; simp (disch := first | omega | (simp only [lnA,lnC,lnN,lnM,yO,wY]; omega)) only [↓wZ,xi,↓yk,↓xJ,↓yo,↓xI,yF,yE,Bool.true_and,Bool.not_true,hc,hp,h1,h2,h3,h4]; simp only [y5]
 rw [if_neg s2]
 by_cases s3 : m.state = 3
 ·rw [if_pos s3]; simp (disch := first | omega | (simp only [lnA,lnC,lnN,lnM,yO,wY]; omega)) only [↓wZ,xi,↓yk,↓xJ,↓yo,↓xI,yF,yE,Bool.true_and,Bool.not_true,hc,hp,h1,h2,h3,zb]; simp only [y5]
 rw [if_neg s3]
 simp (disch := first | omega | (simp only [lnA,lnC,lnN,lnM,yO,wY]; omega)) only [↓wZ,xi,↓xJ,↓yo,↓xI,yE,Bool.and_false,Bool.not_true,hc,hp,h1,h2,h3]
theorem Cy {c : Cd} (hf : FitsC c) {m : Mc} (hm : Ac m.pool) (hl : m.pool.length < 4611686018427387904) : V 15 [eCd c,eMc m] = some (.bool (Db c m),[]) := by
 have hll := hf.llen
 have hc := CM hf
 have hp := z8 hm hl
 have h1 := Fm hl m.s
 have h2 := Fm hl m.e
 have h3 := Fm hl m.d
 have h4 := Fm hl m.arg
 rw [Lv]
 unfold Db JR
 cases e1 : zw c with
 | false => rw [e1] at hc; simp (disch := first | omega | (simp only [lnA,lnC,lnN,lnM,yO,wY]; omega)) only [↓wZ,xi,↓yk,↓yo,↓xI,Bool.false_and,Bool.not_false,hc]
 | true =>
 rw [e1] at hc
 cases e2 : yR m.pool with
 | false => rw [e2] at hp; simp (disch := first | omega | (simp only [lnA,lnC,lnN,lnM,yO,wY]; omega)) only [↓wZ,xi,↓yk,↓xJ,↓yo,↓xI,Bool.false_and,Bool.and_false,Bool.not_true,Bool.not_false,hc,hp]
 | true =>
 rw [e2] at hp
 cases e3 : wi m.s 0 ((m.pool.length : Int) - 1) with
 | false => rw [e3] at h1; simp (disch := first | omega | (simp only [lnA,lnC,lnN,lnM,yO,wY]; omega)) only [↓wZ,xi,↓yk,↓xJ,↓yo,↓xI,Bool.false_and,Bool.and_false,Bool.not_true,Bool.not_false,hc,hp,h1]
 | true =>
 rw [e3] at h1
 cases e4 : wi m.e 0 ((m.pool.length : Int) - 1) with
 | false => rw [e4] at h2; simp (disch := first | omega | (simp only [lnA,lnC,lnN,lnM,yO,wY]; omega)) only [↓wZ,xi,↓yk,↓xJ,↓yo,↓xI,Bool.false_and,Bool.and_false,Bool.not_true,Bool.not_false,hc,hp,h1,h2]
 | true =>
 rw [e4] at h2
 cases e5 : wi m.d 0 ((m.pool.length : Int) - 1) with
 | false => rw [e5] at h3; simp (disch := first | omega | (simp only [lnA,lnC,lnN,lnM,yO,wY]; omega)) only [↓wZ,xi,↓yk,↓xJ,↓yo,↓xI,Bool.false_and,Bool.and_false,Bool.not_true,Bool.not_false,hc,hp,h1,h2,h3]
 | true =>
 rw [e5] at h3
 unfold IZ JR
 by_cases s0 : m.state = 0
 ·rw [if_pos s0]; simp (disch := first | omega | (simp only [lnA,lnC,lnN,lnM,yO,wY]; omega)) only [↓wZ,xi,↓yk,↓xJ,↓yo,↓xI,yF,Bool.true_and,Bool.not_true,lnM,wS,wY,hc,hp,h1,h2,h3,zU]; simp only [y5]
 rw [if_neg s0]
 by_cases s1 : m.state = 1
 ·rw [if_pos s1]; simp (disch := first | omega | (simp only [lnA,lnC,lnN,lnM,yO,wY]; omega)) only [↓wZ,xi,↓yk,↓xJ,↓yo,↓xI,yF,yE,Bool.true_and,Bool.not_true,lnM,wS,wY,hc,hp,h1,h2,h3,h4,zU]; simp only [y5]
 rw [if_neg s1]
 by_cases s2 : m.state = 2
 ·rw [if_pos s2]; simp (disch := first | omega | (simp only [lnA,lnC,lnN,lnM,yO,wY]; omega)) only [↓wZ,xi,↓yk,↓xJ,↓yo,↓xI,yF,yE,Bool.true_and,Bool.not_true,lnM,wS,wY,hc,hp,h1,h2,h3,h4,zU]; simp only [y5]
 rw [if_neg s2]
 by_cases s3 : m.state = 3
 ·rw [if_pos s3]; simp (disch := first | omega | (simp only [lnA,lnC,lnN,lnM,yO,wY]; omega)) only [↓wZ,xi,↓yk,↓xJ,↓yo,↓xI,yF,yE,Bool.true_and,Bool.not_true,lnM,wS,wY,hc,hp,h1,h2,h3,zU]; simp only [y5]
 rw [if_neg s3]
 simp (disch := first | omega | (simp only [lnA,lnC,lnN,lnM,yO,wY]; omega)) only [↓wZ,xi,↓xJ,↓yo,↓xI,yE,Bool.and_false,Bool.not_true,lnM,wS,wY,hc,hp,h1,h2,h3,zU]
end
end Go.Eng
/-! numbers and texts as bytes,on both sides -/
namespace Go.Eng
open Go.Proofs Go.Proofs.Tryz

end Go.Eng
/-! how great a value is,the program's side -/
namespace Go.Eng
open Go.Proofs Go.Proofs.Tryz

end Go.Eng
/-! what is moved is as it was: the plain side -/
namespace Go.Eng

noncomputable def y2 (p : List Nd) : Prop := ∀ (j : Nat) (x : Nd),p[j]? = some x -> okN x j = true
theorem Pg {p : List Nd} (h : y2 p) : ∀ (k i : Nat),FA p i k = true
 | 0,i => rfl
 | k + 1,i => by
  simp only [FA,Pg h k (i + 1),Bool.and_true]
  split
  ·exact h _ _ ‹_›
  ·rfl
theorem okPool_iff {p : List Nd} : yR p = true ↔ y2 p /\ p.length <= 3000 := by
 constructor
 ·intro h; exact ⟨fun j x hx => zp h hx,zh h⟩
 ·rintro ⟨h,hl⟩
  simp only [yR,Pg h,Bool.true_and,decide_eq_true_eq]; omega
noncomputable def LP (q q' : List Nd) (m : List Bool) (to : List Int) : Prop := ∀ (i : Nat) (x : Nd),q[i]? = some x -> m[i]? = some true -> ∃ j : Nat,to[i]? = some (j : Int) /\ q'[j]? = some (y0 to x)
theorem MZ {pre r : List Int} {x : Nd} {i : Nat} (ho : okN x i = true) (hp : i <= pre.length) : y0 (pre ++ r) x = y0 pre x := by
 have g : ∀ n : Int,0 <= n -> n < i -> (pre ++ r).getD n.toNat 0 = pre.getD n.toNat 0 := by
  intro n h0 h1
  simp only [List.getD_eq_getElem?_getD]
  rw [List.getElem?_append_left (by omega)]
 unfold y0
 split
 ·rename_i h5
  have := zx ho h5
  rw [g _ (by omega) (by omega),g _ (by omega) (by omega)]
 ·split
  ·rename_i h6
   have := Au ho h6
   rw [g _ (by omega) (by omega)]
  ·rfl
theorem Vc {pre : List Int} {x : Nd} {i h : Nat} (ho : okN x i = true) (h5 : x.kind = 5 -> ∃ a b : Nat,pre[x.a.toNat]? = some (a : Int) /\ pre[x.b.toNat]? = some (b : Int) /\ a < h /\ b < h)
  (h6 : x.kind = 6 \/ x.kind = 7 -> ∃ a : Nat,pre[x.a.toNat]? = some (a : Int) /\ a < h) : okN (y0 pre x) h = true := by
 by_cases k5 : x.kind = 5
 ·obtain ⟨a,b,ha,hb,h1,h2⟩ := h5 k5
  simp only [y0,k5,if_true,List.getD_eq_getElem?_getD,ha,hb,Option.getD_some]
  simp [okN,k5] at ho ⊢
  exact ⟨ho.1,ho.2.1,wi_iff.2 ⟨by omega,by omega⟩,wi_iff.2 ⟨by omega,by omega⟩⟩
 ·by_cases k6 : x.kind = 6 \/ x.kind = 7
  ·obtain ⟨a,ha,h1⟩ := h6 k6
   simp only [y0,k5,k6,if_true,if_false,List.getD_eq_getElem?_getD,ha,Option.getD_some]
   rcases k6 with k6 | k6
   ·simp [okN,k6] at ho ⊢; exact ⟨ho.1,ho.2.1,wi_iff.2 ⟨by omega,by omega⟩,ho.2.2.2⟩
   ·simp [okN,k6] at ho ⊢; exact ⟨ho.1,ho.2.1,wi_iff.2 ⟨by omega,by omega⟩,ho.2.2.2⟩
  ·have k6' : ¬ x.kind = 6 := fun h => k6 (.inl h)
   have k7' : ¬ x.kind = 7 := fun h => k6 (.inr h)
   simp only [y0,k5,k6,if_false]
   simp only [okN,k5,k6',k7',if_false] at ho ⊢
   exact ho
theorem MW {q : List Nd} (hq : y2 q) {m : List Bool} (hm : m.length = q.length) (hc : LN q m) (d : Int) : ∀ (k : Nat) (pre : List Int) (acc : List Nd),pre.length + k = q.length -> y2 acc ->
  (∀ (i : Nat) (x : Nd),i < pre.length -> q[i]? = some x -> m[i]? = some true -> ∃ j : Nat,pre[i]? = some (j : Int) /\ acc[j]? = some (y0 pre x)) ->
  y2 (AC d q m k pre acc).2 /\ LP q (AC d q m k pre acc).2 m (AC d q m k pre acc).1
 | 0,pre,acc,hk,ha,hi => by
  simp only [AC]
  exact ⟨ha,fun i x hx hmi => hi i x (by have := aQ hx; omega) hx hmi⟩
 | k + 1,pre,acc,hk,ha,hi => by
  obtain ⟨x,hx⟩ := xx (l := q) (i := pre.length) (by omega)
  obtain ⟨b,hb⟩ := xx (l := m) (i := pre.length) (by omega)
  simp only [AC,hx,hb]
  have hox := hq _ _ hx
  have old : ∀ (u : Int) (acc' : List Nd),(∀ (j : Nat) (y : Nd),acc[j]? = some y -> acc'[j]? = some y) -> ∀ (i : Nat) (y : Nd),i < pre.length -> q[i]? = some y -> m[i]? = some true -> ∃ j : Nat,(pre ++ [u])[i]? = some (j : Int) /\ acc'[j]? = some (y0 (pre ++ [u]) y) := by
   intro u acc' hacc i y hil hy hmi
   obtain ⟨j,h1,h2⟩ := hi i y hil hy hmi
   refine ⟨j,by rw [List.getElem?_append_left hil]; exact h1,?_⟩
   rw [MZ (hq _ _ hy) (by omega)]
   exact hacc _ _ h2
  cases b with
  | false =>
   refine MW hq hm hc d k (pre ++ [d]) acc (by simp; omega) ha ?_
   intro i y hil hy hmi
   by_cases e : i = pre.length
   ·subst e; rw [hb] at hmi; cases hmi
   ·exact old d acc (fun _ _ h => h) i y (by simp at hil; omega) hy hmi
  | true =>
   have hcx := hc _ _ hx hb
   have kid : ∀ n : Int,On m n -> 0 <= n -> n < pre.length -> ∃ a : Nat,pre[n.toNat]? = some (a : Int) /\ a < acc.length := by
    intro n hn h0 h1
    obtain ⟨y,hy⟩ := xx (l := q) (i := n.toNat) (by omega)
    obtain ⟨j,h2,h3⟩ := hi n.toNat y (by omega) hy hn
    exact ⟨j,h2,aQ h3⟩
   have hok : okN (y0 pre x) acc.length = true := Vc hox
    (fun h5 => by
     have h := zx hox h5
     obtain ⟨a,ha1,ha2⟩ := kid x.a (hcx.1 h5).1 h.1 h.2.1
     obtain ⟨b,hb1,hb2⟩ := kid x.b (hcx.1 h5).2 h.2.2.1 h.2.2.2
     exact ⟨a,b,ha1,hb1,ha2,hb2⟩)
    (fun h6 => by
     have h := Au hox h6
     exact kid x.a (hcx.2 h6) h.1 h.2)
   have ha' : y2 (acc ++ [y0 pre x]) := by
    intro j y hy
    by_cases e : j < acc.length
    ·rw [List.getElem?_append_left e] at hy; exact ha j y hy
    ·have hl := aQ hy
     have : j = acc.length := by simp at hl; omega
     subst this
     simp at hy; subst hy; exact hok
   refine MW hq hm hc d k (pre ++ [(acc.length : Int)]) (acc ++ [y0 pre x]) (by simp; omega) ha' ?_
   intro i y hil hy hmi
   by_cases e : i = pre.length
   ·subst e; rw [hx] at hy; cases hy
    refine ⟨acc.length,by simp,?_⟩
    rw [MZ hox (Nat.le_refl _)]; simp
   ·exact old _ _ (fun j z h => by rw [List.getElem?_append_left (aQ h)]; exact h) i y (by simp at hil; omega) hy hmi
theorem MY (d : Int) (q : List Nd) (m : List Bool) : ∀ (k : Nat) (pre : List Int) (acc : List Nd),∃ r,(AC d q m k pre acc).2 = acc ++ r
 | 0,pre,acc => ⟨[],by simp [AC]⟩
 | k + 1,pre,acc => by
  simp only [AC]
  split
  ·obtain ⟨r,h⟩ := MY d q m k (pre ++ [(acc.length : Int)]) (acc ++ [y0 pre ‹Nd›])
   exact ⟨_,by rw [h,List.append_assoc]⟩
  ·exact MY d q m k _ acc
theorem MR {q acc : List Nd} (hq : yR q = true) (ha : y2 acc) (rs : List Int) (d : Int) : y2 (DW d q rs acc).2 /\ LP q (DW d q rs acc).2 (Dk q rs) (DW d q rs acc).1 :=
 MW (okPool_iff.1 hq).1 (CJ q rs) (FC hq rs) d q.length [] acc (Nat.zero_add _) ha (fun i x h => absurd h (by simp))

theorem UC (to : List Int) (x : Nd) : (y0 to x).kind = x.kind /\ (y0 to x).n = x.n /\ (y0 to x).s = x.s := by
 unfold y0
 split
 ·exact ⟨rfl,rfl,rfl⟩
 ·split <;> exact ⟨rfl,rfl,rfl⟩
theorem WV (to : List Int) (x : Nd) : Ax (y0 to x) = Ax x := by
 obtain ⟨h1,h2,h3⟩ := UC to x
 unfold Ax; rw [h1,h2,h3]
theorem Gn {q q' : List Nd} (hq : y2 q) (hq' : y2 q') {m : List Bool} (hc : LN q m) {to : List Int} (hmv : LP q q' m to) : ∀ (g g' : Nat) (c : Bool) (v v' : Nat) (out : List UInt8),
  m[v]? = some true -> to[v]? = some (v' : Int) -> v < q.length -> 2 * v + (if c then 2 else 1) <= g -> 2 * v' + (if c then 2 else 1) <= g' -> wr q g c v out = wr q' g' c v' out
 | 0,g',c,v,v',out,hm,ht,hv,hg,hg' => by split at hg <;> omega
 | g + 1,0,c,v,v',out,hm,ht,hv,hg,hg' => by split at hg' <;> omega
 | g + 1,g' + 1,c,v,v',out,hm,ht,hv,hg,hg' => by
  obtain ⟨x,hx⟩ := xx hv
  obtain ⟨j,h1,h2⟩ := hmv v x hx hm
  rw [ht] at h1
  have hj : v' = j := by injection h1 with h1; exact Int.natCast_inj.1 h1
  subst hj
  obtain ⟨k1,k2,k3⟩ := UC to x
  have kids : x.kind = 5 -> ∃ a' b' : Nat,to[x.a.toNat]? = some (a' : Int) /\ to[x.b.toNat]? = some (b' : Int) /\ (y0 to x).a.toNat = a' /\ (y0 to x).b.toNat = b' /\ m[x.a.toNat]? = some true /\ m[x.b.toNat]? = some true /\ x.a.toNat < v /\ x.b.toNat < v /\ a' < v' /\ b' < v' := by
   intro h5
   have ho := zx (hq v x hx) h5
   have hcx := hc v x hx hm
   obtain ⟨y,hy⟩ := xx (l := q) (i := x.a.toNat) (by omega)
   obtain ⟨z,hz⟩ := xx (l := q) (i := x.b.toNat) (by omega)
   obtain ⟨a',ha1,ha2⟩ := hmv _ y hy (hcx.1 h5).1
   obtain ⟨b',hb1,hb2⟩ := hmv _ z hz (hcx.1 h5).2
   have e : y0 to x = ⟨x.kind,x.n,x.s,a',b'⟩ := by
    simp only [y0,h5,if_true,List.getD_eq_getElem?_getD,ha1,hb1,Option.getD_some]
   have ho' := zx (hq' v' _ h2) (by rw [k1]; exact h5)
   rw [e] at ho'
   simp only at ho'
   refine ⟨a',b',ha1,hb1,by rw [e]; simp,by rw [e]; simp,(hcx.1 h5).1,(hcx.1 h5).2,by omega,by omega,by omega,by omega⟩
  cases c with
  | false =>
   simp only [Bool.false_eq_true,if_false] at hg hg'
   simp only [wr,hx,h2,k1,WV]
   split
   ·rfl
   ·split
    ·rename_i h5
     obtain ⟨a',b',ta,tb,ea,eb,ma,mb,la,lb,la',lb'⟩ := kids h5
     rw [ea,eb,Gn hq hq' hc hmv g g' false x.a.toNat a' _ ma ta (by omega) (by simp; omega) (by simp; omega),
      Gn hq hq' hc hmv g g' true x.b.toNat b' _ mb tb (by omega) (by simp; omega) (by simp; omega)]
    ·rfl
  | true =>
   simp only [if_true] at hg hg'
   simp only [wr,hx,h2,k1]
   split
   ·rename_i h5
    obtain ⟨a',b',ta,tb,ea,eb,ma,mb,la,lb,la',lb'⟩ := kids h5.1
    rw [ea,eb,Gn hq hq' hc hmv g g' false x.a.toNat a' _ ma ta (by omega) (by simp; omega) (by simp; omega),
     Gn hq hq' hc hmv g g' true x.b.toNat b' _ mb tb (by omega) (by simp; omega) (by simp; omega)]
   ·split
    ·rfl
    ·rw [Gn hq hq' hc hmv g g' false v v' _ hm ht hv (by simp; omega) (by simp; omega)]
theorem SW {q q' : List Nd} (hq : yR q = true) (hq' : yR q' = true) {m : List Bool} (hc : LN q m) {to : List Int} (hmv : LP q q' m to) {v : Int} (h0 : 0 <= v) (h1 : v < q.length) (hm : On m v) : JA q' (to.getD v.toNat 0) = JA q v := by
 obtain ⟨x,hx⟩ := xx (l := q) (i := v.toNat) (by omega)
 obtain ⟨j,h2,h3⟩ := hmv _ x hx hm
 have hj := aQ h3
 have e : to.getD v.toNat 0 = (j : Int) := by rw [List.getD_eq_getElem?_getD,h2]; rfl
 have hw := Gn (okPool_iff.1 hq).1 (okPool_iff.1 hq').1 hc hmv (2 * v.toNat + 1) (2 * j + 1) false v.toNat j [] hm h2 (by omega) (by simp) (by simp)
 have w1 : wi v 0 ((q.length : Int) - 1) = true := wi_iff.2 ⟨h0,by omega⟩
 have w2 : wi (j : Int) 0 ((q'.length : Int) - 1) = true := wi_iff.2 ⟨by omega,by omega⟩
 unfold JA
 rw [e,if_pos (And.intro hq' w2),if_pos (And.intro hq w1),Int.toNat_natCast,hw]
end Go.Eng
/-! what is kept is all reached,and as great as it was: the plain side -/
namespace Go.Eng

inductive Rch (q : List Nd) (rs : List Int) : Nat -> Prop
 | root {r : Int} : r ∈ rs -> Rch q rs r.toNat
 | a {i : Nat} {x : Nd} : Rch q rs i -> q[i]? = some x -> (x.kind = 5 \/ x.kind = 6 \/ x.kind = 7) -> Rch q rs x.a.toNat
 | b {i : Nat} {x : Nd} : Rch q rs i -> q[i]? = some x -> x.kind = 5 -> Rch q rs x.b.toNat
noncomputable def ids (n : Nat) : List Int := (List.range n).map fun k : Nat => (k : Int)
end Go.Eng
/-! nodes as bytes,on both sides -/
namespace Go.Eng
open Go.Proofs Go.Proofs.Tryz
set_option maxHeartbeats 4000000

structure NdOk (x : Nd) (i : Nat) : Prop where
 k1 : 1 <= x.kind
 k9 : x.kind <= 9
 n3 : -1000000000 <= x.n
 n9 : x.n <= 1000000000
 n0 : x.kind ≠ 3 -> 0 <= x.n
 a0 : 0 <= x.a
 a1 : x.a <= i
 b0 : 0 <= x.b
 b1 : x.b <= i
 s4 : x.s.size <= 12
end Go.Eng
/-! tidying,and machines as bytes,on both sides -/
namespace Go.Eng
noncomputable section
open Go.Proofs Go.Proofs.Tryz
set_option maxHeartbeats 4000000

theorem Uh {p : List Nd} (hl : p.length <= 4294967296) : V 131 [eP p] = some (oP p,[]) := by
 have h : V 181 [.rs (5,0) (p.map eN)] = some (.os (5,0) (p.map eN),[]) := by
  rw [BI,List.nil_append,yu (decide_eq_true (by rw [pE,lnM]; simp only [ni]; omega)),yA]
  exact xg _ _
 rw [Mi]
 simp (disch := first | omega | (simp only [lnA,lnC,lnN,lnM,yO,wY]; omega)) only [↓wZ,xi,↓yo,↓yg,h]
theorem NG {p : List Nd} (hl : p.length <= 4294967296) : V 147 [eP p] = some (oP p,[]) := by
 rw [JM,List.nil_append]
 simp (disch := first | omega | (simp only [lnA,lnC,lnN,lnM,yO,wY]; omega)) only [↓xP,↓yA,yJ,lnM,pE,wY]
theorem Jn {m : Mc} (hl : m.pool.length <= 4294967296) : V 63 [eMc m] = some (oMc m,[]) := by
 rw [JL]
 simp (disch := first | omega | (simp only [lnA,lnC,lnN,lnM,yO,wY]; omega)) only [↓wZ,xi,↓yo,↓yb,↓yg,↓xu,Uh hl]
theorem Ke {m : Mc} (hl : m.pool.length <= 4294967296) : V 85 [eMc m] = some (oMc m,[]) := by
 rw [Qo]
 simp (disch := first | omega | (simp only [lnA,lnC,lnN,lnM,yO,wY]; omega)) only [↓wZ,xi,↓yo,↓yb,↓yg,↓xu,NG hl]
def holds (m : Mc) : Bool := decide (m.state = 1 \/ m.state = 2)
def Xx (m : Mc) : List Int := if holds m = true then [m.s,m.e,m.d,m.arg] else [m.s,m.e,m.d]
def tf (m : Mc) (r : Int) : Int := (DW (-1) m.pool (Xx m) []).1.getD r.toNat 0
end
end Go.Eng
/-! words of a text,on both sides -/
namespace Go.Eng
noncomputable section
open Go.Proofs Go.Proofs.Tryz
set_option maxHeartbeats 4000000

def dU (x : UInt8) : Bool := decide (48 <= x.toNat) && decide (x.toNat <= 57)
def GG (x : UInt8) : Bool := nmB (x.toNat : Int) || (dU x || (x.toNat : Int) == 35)
theorem dU_iff {x : UInt8} : dU x = true ↔ 48 <= x.toNat /\ x.toNat <= 57 := by simp [dU]
theorem Xt (x : UInt8) : br (decide ((x.toNat : Int) >= 48)) (some (D.bool (decide ((x.toNat : Int) <= 57)),([] : List D))) (some (D.bool false,[])) = some (.bool (dU x),[]) := by
 unfold dU
 by_cases h1 : 48 <= x.toNat
 ·by_cases h2 : x.toNat <= 57
  ·rw [xK (decide_eq_true (by omega)),decide_eq_true (by omega),decide_eq_true h1,decide_eq_true h2]; rfl
  ·rw [xK (decide_eq_true (by omega)),decide_eq_false (by omega),decide_eq_true h1,decide_eq_false h2]; rfl
 ·rw [xb (decide_eq_false (by omega)),decide_eq_false h1]; rfl
theorem Pp (x : UInt8) : V 226 [.int .u8 (x.toNat : Int)] = some (.bool (dU x),[]) := (Od _).trans (Xt x)
theorem GC (x : UInt8) : V 211 [.int .u8 (x.toNat : Int)] = some (.bool (GG x),[]) := by
 rw [KF,GF (Kc _),J0 (Pp x),VG,VG]; rfl

def z5 (acc : Nat) (l : List UInt8) : Nat := l.foldl (fun n x => 10 * n + (x.toNat - 48)) acc
theorem UO : ∀ (l : List UInt8) (acc k : Nat),l.all dU = true -> acc < 10 ^ k -> z5 acc l < 10 ^ (k + l.length)
 | [],acc,k,_,h => h
 | x :: l,acc,k,hl,h => by
  rw [List.all_cons,Bool.and_eq_true] at hl
  have hx := dU_iff.1 hl.1
  have := UO l (10 * acc + (x.toNat - 48)) (k + 1) hl.2 (by rw [Nat.pow_succ]; omega)
  rw [lnC]
  have e : k + (l.length + 1) = k + 1 + l.length := by omega
  rw [e]; exact this
abbrev noW : D := .tup [iN 0,.bool false]
theorem Nn {k : Nat} (h : k <= 10) : 10 ^ k <= 10000000000 := by
 have : 10 ^ k <= 10 ^ 10 := Nat.pow_le_pow_right (by omega) h
 simpa using this
def AZ (l : List UInt8) : Option Nat := if l.length = 0 \/ 10 < l.length \/ (l[0]? = some 48 /\ 1 < l.length) \/ l.all dU = false then none else some (z5 0 l)
theorem Vx (l : List UInt8) (x : UInt8) (acc : Nat) : z5 acc (l ++ [x]) = 10 * z5 acc l + (x.toNat - 48) := by simp [z5]
theorem SP : ∀ (l : List UInt8) (acc : Nat),0 < acc -> 0 < z5 acc l
 | [],acc,h => h
 | x :: l,acc,h => SP l (10 * acc + (x.toNat - 48)) (by omega)
theorem Rc : ∀ (n : Nat) (l : List UInt8),l.length = n + 1 -> l.all dU = true -> (l[0]? ≠ some 48 \/ l.length = 1) -> Ef (z5 0 l) = l
 | 0,l,hn,ha,h0 => by
  match l,hn with
  | [x],_ =>
   have hx := dU_iff.1 (by simpa using ha)
   have e : z5 0 [x] = x.toNat - 48 := by simp [z5]
   rw [e,zJ (by omega)]
   congr 1
   apply UInt8.toNat_inj.1
   simp; omega
 | n + 1,l,hn,ha,h0 => by
  have hne : l ≠ [] := by intro h; rw [h] at hn; simp at hn
  obtain ⟨l',x,rfl⟩ : ∃ l' x,l = l' ++ [x] := ⟨l.dropLast,l.getLast hne,(List.dropLast_concat_getLast hne).symm⟩
  have hl' : l'.length = n + 1 := by simp at hn; omega
  have ha' : l'.all dU = true /\ dU x = true := by simpa using ha
  have hx := dU_iff.1 ha'.2
  have h48 : l'[0]? ≠ some 48 := by
   rcases h0 with h | h
   ·rwa [List.getElem?_append_left (by omega)] at h
   ·exfalso; rw [lnA,List.length_singleton] at h; omega
  have ih := Rc n l' hl' ha'.1 (.inl h48)
  rw [Vx]
  have hpos : 0 < z5 0 l' := by
   match l',hl' with
   | y :: r,_ =>
    have hy := dU_iff.1 (by simpa using (show (y :: r).all dU = true from ha'.1) : dU y = true /\ _).1
    have hy48 : y.toNat ≠ 48 := by
     intro h; apply h48; simp; exact UInt8.toNat_inj.1 h
    exact SP r (10 * 0 + (y.toNat - 48)) (by omega)
  rw [DQ (by omega)]
  have e1 : (10 * z5 0 l' + (x.toNat - 48)) / 10 = z5 0 l' := by omega
  have e2 : (10 * z5 0 l' + (x.toNat - 48)) % 10 = x.toNat - 48 := by omega
  rw [e1,e2,ih]
  congr 2
  apply UInt8.toNat_inj.1
  simp; omega
theorem UV : ∀ (n : Nat),(Ef n)[0]? ≠ some 48 \/ n = 0 := by
 intro n
 induction n using Nat.strongRecOn with
 | _ n ih =>
  by_cases h : n < 10
  ·by_cases h0 : n = 0
   ·exact .inr h0
   ·left
    rw [zJ h]
    intro e
    simp at e
    have := congrArg UInt8.toNat e
    simp at this
    omega
  ·left
   rw [DQ h,List.getElem?_append_left (VJ _)]
   rcases ih (n / 10) (by omega) with h1 | h1
   ·exact h1
   ·omega
theorem Rb {l : List UInt8} (h0 : l.length ≠ 0) (h10 : ¬ 10 < l.length) (ha : l.all dU = true) : Ef (z5 0 l) = l ↔ ¬ (l[0]? = some 48 /\ 1 < l.length) := by
 constructor
 ·rintro h ⟨h1,h2⟩
  rcases UV (z5 0 l) with h3 | h3
  ·rw [h] at h3; exact h3 h1
  ·rw [h3,zJ (by omega)] at h
   have := congrArg List.length h
   simp at this; omega
 ·intro h
  refine Rc (l.length - 1) l (by omega) ha ?_
  by_cases h1 : l[0]? = some 48
  ·exact .inr (by
           have : ¬ 1 < l.length := fun h2 => h ⟨h1,h2⟩
           omega)
  ·exact .inl h1
end
end Go.Eng
/-! the node of a word,on both sides -/
namespace Go.Eng
noncomputable section
open Go.Proofs Go.Proofs.Tryz
set_option maxHeartbeats 4000000

def QK (r : Option Nat) : Option Int := match r with | some n => if n <= 1000000000 then some (n : Int) else none | none => none
def Ve (r : Option Nat) : Option Int := match r with | some n => if 0 < n /\ n <= 1000000000 then some (-(n : Int)) else none | none => none
def TG (l : List UInt8) : Option Int := match l with
 | x :: d :: r => if x = 45 /\ dU d = true then Ve (AZ (d :: r)) else QK (AZ l)
 | _ => QK (AZ l)
def UG (r : Option Int) (l : List UInt8) : Option Nd := match r with | some n => some ⟨3,n,⟨#[]⟩,0,0⟩ | none => if GI (mk l) = true then some ⟨4,0,mk l,0,0⟩ else none
def Dr (l : List UInt8) : Option Nd := if l = [35,116] then some ⟨2,1,⟨#[]⟩,0,0⟩ else if l = [35,102] then some ⟨2,0,⟨#[]⟩,0,0⟩ else UG (TG l) l
def Um (r : Option Nd) (x : Nd) (b : Bool) : Prop := match r with | some y => x = y /\ b = true | none => b = false
theorem Pb {l : List UInt8} {n : Nat} (h : AZ l = some n) : l.length ≠ 0 /\ ¬ 10 < l.length /\ ¬ (l[0]? = some 48 /\ 1 < l.length) /\ l.all dU = true /\ n = z5 0 l /\ n < 10000000000 := by
 unfold AZ at h
 split at h
 ·cases h
 ·rename_i hn
  cases h
  have ha : l.all dU = true := by
   cases e : l.all dU with
   | true => rfl
   | false => exact absurd (.inr (.inr (.inr e))) hn
  have h10 : ¬ 10 < l.length := fun e => hn (.inr (.inl e))
  have := UO l 0 0 ha (by simp)
  rw [Nat.zero_add] at this
  have := Nn (k := l.length) (by omega)
  exact ⟨fun e => hn (.inl e),h10,fun e => hn (.inr (.inr (.inl e))),ha,rfl,by omega⟩
def tb (l : List UInt8) : Bool := match AZ l with | some n => decide (n <= 1000000000) | none => GI (mk l)
theorem VW {l : List UInt8} (h : ¬ (l[0]? = some 45 /\ 1 < l.length)) : TG l = QK (AZ l) := by
 match l with
 | [] => rfl
 | [x] => rfl
 | x :: d :: r => rw [TG,if_neg]; rintro ⟨e,_⟩; exact h ⟨by rw [e]; rfl,by simp⟩
def Lz (a r : List UInt8) (v : Nat) : Int := if r.length = a.length then (v : Int) else -(v : Int)
def My (a r : List UInt8) (v : Nat) : Bool := decide (Ch (Lz a r v) = a) && wi (Lz a r v) (-1000000000) 1000000000
theorem WY {a r : List UInt8} {v : Nat} (hv : v < 100000000000) : @Eq (Option Ret) (br (ni r.length != ni a.length)
  (jb V 202 [(iN (w6 (0 - (v : Int))))] fun x3 l4 => asS x3 fun s5 => unn l4 (br (kc s5 (mk a))
    (jb V 62 [(iN (w6 (0 - (v : Int)))),(iN (-1000000000)),(iN (1000000000))] fun x6 l7 => asB x6 fun b8 => unn l7 (some ((.tup [(iN (w6 (0 - (v : Int)))),(.bool b8)]),[])))
    (some ((.tup [(iN (w6 (0 - (v : Int)))),(.bool false)]),[]))))
  (jb V 202 [(iN (v : Int))] fun x9 l10 => asS x9 fun s11 => unn l10 (br (kc s11 (mk a))
    (jb V 62 [(iN (v : Int)),(iN (-1000000000)),(iN (1000000000))] fun x12 l13 => asB x12 fun b14 => unn l13 (some ((.tup [(iN (v : Int)),(.bool b14)]),[])))
    (some ((.tup [(iN (v : Int)),(.bool false)]),[]))))) (some (.tup [iN (Lz a r v),.bool (My a r v)],[])) := by
 unfold My Lz
 by_cases h : r.length = a.length
 ·have hd := NH (n := (v : Int)) (by omega)
  rw [xb (by simp [ni,h]),if_pos h,Fx hd,J8]
  by_cases h2 : Ch (v : Int) = a
  ·rw [decide_eq_true h2,yk,zB (zU _ _ _),Bool.true_and]
  ·rw [decide_eq_false h2,xJ,Bool.false_and]
 ·have hd := NH (n := -(v : Int)) (by omega)
  rw [xK (by simp only [ni,bne_iff_ne,ne_eq]; omega),if_neg h,show (0 : Int) - (v : Int) = -(v : Int) by omega,w64 (by omega) (by omega),Fx hd,J8]
  by_cases h2 : Ch (-(v : Int)) = a
  ·rw [decide_eq_true h2,yk,zB (zU _ _ _),Bool.true_and]
  ·rw [decide_eq_false h2,xJ,Bool.false_and]
theorem RX {a l : List UInt8} (hl : l.length <= 10) : ∀ (k i acc : Nat),i + k = l.length -> acc < 10 ^ i -> zM (mk a) (mk l) (acc : Int) (i : Int) = some (if (l.drop i).all dU = true then .tup [iN (Lz a l (z5 acc (l.drop i))),.bool (My a l (z5 acc (l.drop i)))] else noW,[])
 | 0,i,acc,hi,ha => by
  have hp := Nn (k := i) (by omega)
  have he := WY (a := a) (r := l) (v := acc) (by omega)
  rw [FP,List.drop_of_length_le (by omega),yO,yO,xb (yr (by omega)),he]
  rfl
 | k + 1,i,acc,hi,ha => by
  obtain ⟨x,hx⟩ := xx (l := l) (i := i) (by omega)
  have hp := Nn (k := i) (by omega)
  have hb := OI hx
  have hd := Pp x
  rw [FP,yO,xK (yz (by omega)),yu (yx (by omega)),hb,J0 hd,tU hx,List.all_cons]
  cases h : dU x with
  | false => rw [Bool.not_false,yk,if_neg (by simp)]
  | true =>
   have hx2 := dU_iff.1 h
   have e2 : w6 (w6 (w6 (10 * (acc : Int)) + w6 ((x.toNat : Nat) : Int)) - 48) = ((10 * acc + (x.toNat - 48) : Nat) : Int) := by
    rw [w64 (n := 10 * (acc : Int)) (by omega) (by omega),w64 (n := ((x.toNat : Nat) : Int)) (by omega) (by omega),w64 (n := 10 * (acc : Int) + _) (by omega) (by omega),w64 (by omega) (by omega)]; omega
   have ih := RX (a := a) hl k (i + 1) (10 * acc + (x.toNat - 48)) (by omega) (by rw [Nat.pow_succ]; omega)
   rw [Bool.not_true,xJ,yu (yx (by omega)),e2,yM (by omega),ih,Bool.true_and]
   rfl
theorem QL {l : List UInt8} (h0 : l.length ≠ 0) (h10 : ¬ 10 < l.length) (ha : l.all dU = true) : Lz l l (z5 0 l) = (z5 0 l : Int) /\ My l l (z5 0 l) = (QK (AZ l)).isSome /\ (∀ m,QK (AZ l) = some m -> m = (z5 0 l : Int)) := by
 have hz := Rb h0 h10 ha
 have e1 : Lz l l (z5 0 l) = (z5 0 l : Int) := by simp [Lz]
 have e2 : Ch ((z5 0 l : Nat) : Int) = Ef (z5 0 l) := by simp [Ch]
 refine ⟨e1,?_,?_⟩
 ·unfold My
  rw [e1,e2]
  by_cases h : l[0]? = some 48 /\ 1 < l.length
  ·rw [decide_eq_false (fun e => hz.1 e h),AZ,if_pos (.inr (.inr (.inl h)))]; rfl
  ·have hn : AZ l = some (z5 0 l) := by rw [AZ,if_neg (by rintro (e | e | e | e) <;> first | omega | exact h e | (rw [ha] at e; cases e))]
   rw [decide_eq_true (hz.2 h),hn]
   unfold QK wi
   by_cases h1 : z5 0 l <= 1000000000
   ·simp [h1]; omega
   ·simp [h1]; omega
 ·intro m hm
  cases hn : AZ l with
  | none => rw [hn] at hm; cases hm
  | some n =>
   have := (Pb hn).2.2.2.2.1
   rw [hn] at hm
   unfold QK at hm
   simp only at hm
   split at hm
   ·cases hm; rw [this]
   ·cases hm
theorem QA {l : List UInt8} (h0 : l.length ≠ 0) (h10 : ¬ 10 < l.length) (ha : l.all dU = true) : Lz (45 :: l) l (z5 0 l) = -(z5 0 l : Int) /\ My (45 :: l) l (z5 0 l) = (Ve (AZ l)).isSome /\ (∀ m,Ve (AZ l) = some m -> m = -(z5 0 l : Int)) := by
 have hz := Rb h0 h10 ha
 have e1 : Lz (45 :: l) l (z5 0 l) = -(z5 0 l : Int) := by simp [Lz]
 refine ⟨e1,?_,?_⟩
 ·unfold My
  rw [e1]
  by_cases h : l[0]? = some 48 /\ 1 < l.length
  ·have : Ch (-(z5 0 l : Int)) ≠ 45 :: l := by
    unfold Ch
    split
    ·intro e; rw [Int.natAbs_neg,Int.natAbs_natCast] at e; exact hz.1 (List.cons_inj_right _ |>.1 e) h
    ·intro e
     have e0 : z5 0 l = 0 := by omega
     rw [e0] at e
     have := zJ (n := 0) (by omega)
     simp [this] at e
   rw [decide_eq_false this,AZ,if_pos (.inr (.inr (.inl h)))]; rfl
  ·have hn : AZ l = some (z5 0 l) := by rw [AZ,if_neg (by rintro (e | e | e | e) <;> first | omega | exact h e | (rw [ha] at e; cases e))]
   rw [hn]
   by_cases h1 : z5 0 l = 0
   ·have : Ch (-(z5 0 l : Int)) ≠ 45 :: l := by
     intro e
     rw [h1] at e
     have := zJ (n := 0) (by omega)
     simp [Ch,this] at e
    rw [decide_eq_false this,h1]; rfl
   ·have : Ch (-(z5 0 l : Int)) = 45 :: l := by
     unfold Ch
     rw [if_pos (by omega),Int.natAbs_neg,Int.natAbs_natCast,hz.2 h]
    rw [decide_eq_true this]
    unfold Ve wi
    by_cases h2 : z5 0 l <= 1000000000
    ·have : 0 < z5 0 l := by omega
     simp [h2,this]; omega
    ·simp [h2]; omega
 ·intro m hm
  cases hn : AZ l with
  | none => rw [hn] at hm; cases hm
  | some n =>
   have := (Pb hn).2.2.2.2.1
   rw [hn] at hm
   unfold Ve at hm
   simp only at hm
   split at hm
   ·cases hm; rw [this]
   ·cases hm
theorem RY {a r : List UInt8} {F : Option Nat -> Option Int} (hF : F none = none)
  (hfin : r.length ≠ 0 -> ¬ 10 < r.length -> r.all dU = true -> My a r (z5 0 r) = (F (AZ r)).isSome /\ (∀ m,F (AZ r) = some m -> m = Lz a r (z5 0 r))) :
  ∃ n b,br (decide (ni r.length > 10)) (some (noW,[])) (br (ni r.length == 0) (some (noW,[])) (zM (mk a) (mk r) 0 0)) = some (.tup [iN n,.bool b],[]) /\ b = (F (AZ r)).isSome /\ (∀ m,F (AZ r) = some m -> m = n) := by
 by_cases h10 : 10 < r.length
 ·have hn : AZ r = none := by rw [AZ,if_pos (.inr (.inl h10))]
  rw [xK (decide_eq_true (by simp only [ni]; omega)),hn,hF]
  exact ⟨0,false,rfl,rfl,fun m h => by cases h⟩
 ·rw [xb (decide_eq_false (by simp only [ni]; omega))]
  by_cases h0 : r.length = 0
  ·have hn : AZ r = none := by rw [AZ,if_pos (.inl h0)]
   rw [xK (by simp [ni,h0]),hn,hF]
   exact ⟨0,false,rfl,rfl,fun m h => by cases h⟩
  ·rw [xb (by simp only [ni,beq_eq_false_iff_ne,ne_eq]; omega)]
   have hl := RX (a := a) (l := r) (by omega) r.length 0 0 (by omega) (by simp)
   rw [Int.natCast_zero,List.drop_zero] at hl
   rw [hl]
   cases ha : r.all dU with
   | false =>
    have hn : AZ r = none := by rw [AZ,if_pos (.inr (.inr (.inr ha)))]
    rw [if_neg (by simp),hn,hF]
    exact ⟨0,false,rfl,rfl,fun m h => by cases h⟩
   | true =>
    rw [if_pos rfl]
    obtain ⟨e1,e2⟩ := hfin h0 h10 ha
    exact ⟨_,_,rfl,e1,e2⟩
theorem Xa (l : List UInt8) : ∃ n b,V 227 [.str (mk l)] = some (.tup [iN n,.bool b],[]) /\ b = (TG l).isSome /\ (∀ m,TG l = some m -> m = n) := by
 have hpos : ∃ n b,br (decide (ni l.length > 10)) (some (noW,[])) (br (ni l.length == 0) (some (noW,[])) (zM (mk l) (mk l) 0 0)) = some (.tup [iN n,.bool b],[]) /\ b = (QK (AZ l)).isSome /\ (∀ m,QK (AZ l) = some m -> m = n) :=
  RY rfl (fun h0 h10 ha => ⟨(QL h0 h10 ha).2.1,fun m hm => ((QL h0 h10 ha).2.2 m hm).trans (QL h0 h10 ha).1.symm⟩)
 rw [Rx,yO]
 by_cases hn : l[0]? = some 45 /\ 1 < l.length
 ·obtain ⟨hx,hl⟩ := hn
  match l,hx,hl with
  | x :: d :: r,hx,hl =>
   have hx : x = 45 := by simpa using hx
   subst hx
   have hb0 : bt (mk (45 :: d :: r)) 0 = 45 := OI (i := 0) (x := 45) rfl
   have e : ByteArray.extract (mk (45 :: d :: r)) (Int.toNat 1) (45 :: d :: r).length = mk (d :: r) := by
    rw [DT]; congr 1; simp
   rw [xK (decide_eq_true (by simp only [ni]; omega)),yu (by simp only [ni,Bool.and_eq_true,decide_eq_true_eq]; omega),hb0,xK (by decide),yu (by unfold cW; simp; omega),e,yO]
   obtain ⟨n,b,h1,h2,h3⟩ := RY (a := 45 :: d :: r) (r := d :: r) (F := Ve) rfl (fun h0 h10 ha => ⟨(QA h0 h10 ha).2.1,fun m hm => ((QA h0 h10 ha).2.2 m hm).trans (QA h0 h10 ha).1.symm⟩)
   refine ⟨n,b,h1,?_⟩
   rw [TG]
   by_cases hd : dU d = true
   ·rw [if_pos ⟨rfl,hd⟩]; exact ⟨h2,h3⟩
   ·rw [if_neg (fun h => hd h.2)]
    have hf : ∀ c : UInt8,dU c = false -> ∀ q,AZ (c :: q) = none := by
     intro c hc q
     rw [AZ,if_pos (.inr (.inr (.inr (by rw [List.all_cons,hc]; rfl))))]
    rw [hf 45 rfl] 
    rw [hf d (by simpa using hd)] at h2 h3
    exact ⟨h2,h3⟩
 ·rw [VW hn]
  by_cases hl : 1 < l.length
  ·obtain ⟨x,hx⟩ := xx (l := l) (i := 0) (by omega)
   have hbt : bt (mk l) 0 = (x.toNat : Int) := OI hx
   have hne : x.toNat ≠ 45 := by
    intro h; apply hn; rw [hx]; exact ⟨by congr 1; exact UInt8.toNat_inj.1 h,hl⟩
   rw [xK (decide_eq_true (by simp only [ni]; omega)),yu (by simp only [ni,Bool.and_eq_true,decide_eq_true_eq]; omega),hbt,xb (by simp only [beq_eq_false_iff_ne,ne_eq]; omega)]
   exact hpos
  ·rw [xb (decide_eq_false (by simp only [ni]; omega))]
   exact hpos
theorem SK {l : List UInt8} (hb : l.length < 4611686018427387904) : ∃ x b,V 212 [.str (mk l)] = some (.tup [eN x,.bool b],[]) /\ Um (Dr l) x b := by
 have e1 : kc (mk l) ⟨#[35,116]⟩ = decide (l = [35,116]) := J8 l _
 have e2 : kc (mk l) ⟨#[35,102]⟩ = decide (l = [35,102]) := J8 l _
 obtain ⟨n,b,h3,h4,h5⟩ := Xa l
 have hnm := CN (s := mk l) (by rw [yO]; exact hb)
 rw [Qe,e1,e2,TM h3]
 unfold Dr
 by_cases h1 : l = [35,116]
 ·rw [xK (decide_eq_true h1),if_pos h1]; exact ⟨⟨2,1,⟨#[]⟩,0,0⟩,true,rfl,rfl,rfl⟩
 rw [xb (decide_eq_false h1),if_neg h1]
 by_cases h2 : l = [35,102]
 ·rw [xK (decide_eq_true h2),if_pos h2]; exact ⟨⟨2,0,⟨#[]⟩,0,0⟩,true,rfl,rfl,rfl⟩
 rw [xb (decide_eq_false h2),if_neg h2]
 cases hf : TG l with
 | some m =>
  rw [hf] at h4 h5
  have := h5 m rfl
  rw [h4,<- this]
  exact ⟨⟨3,m,⟨#[]⟩,0,0⟩,true,rfl,rfl,rfl⟩
 | none =>
  rw [hf] at h4
  rw [h4,show (none : Option Int).isSome = false from rfl,xJ,Lg hnm]
  refine ⟨⟨4,0,mk l,0,0⟩,GI (mk l),rfl,?_⟩
  cases e : GI (mk l) with
  | true => simp [UG,e,Um]
  | false => simp [UG,e,Um]
end
end Go.Eng
/-! sizes told: printed by mkz.py -/
namespace Go.Eng
open Go.Proofs Go.Proofs.Tryz
set_option maxHeartbeats 4000000
set_option maxRecDepth 100000

theorem sz3 : TypeInfo.size (Tables.types (Program.toTables Tryz.prog))[3] = 1 := by kernel_rfl
theorem fl3 : qU Tryz.prog (3) = true := by kernel_rfl

theorem zi (p0 : ByteArray) (p1 : Nat) (p2 : Int) (p3 : List D) (p4 : List D) (p5 : List D) (p6 : List D) : y1 p0 p1 p2 p3 p4 p5 p6 =
 br (decide (p2 < ni (ByteArray.size p0)))
  (
  grd (decide (0 <= p2) && decide (p2 < ni (ByteArray.size p0))) (br (bt p0 p2 == 32)
  (y1 p0 p1 (w6 (p2 + 1)) p3 p4 p5 p6)
  (
   br (bt p0 p2 == 40)
   (grd (decide
 (ni
   (List.length
    (part p5 (some (0,p1)) ++
     [D.agg
       [iN p2,
        D.os
         (1,0)
         []]])) <=
  LIM)) (nam (part p5 (some (0,p1)) ++
 [D.agg
   [iN p2,
    D.os
     (1,0)
     []]]) fun a =>
   y4 p0 (w6 (p2 + 1)) p3 p4 a p6))
   (
   br (bt p0 p2 == 41)
   (
    br (w6 (ni p1 - 1) == 0)
    (
    jb V 147 [(.agg [(.rs (5,0) p3)])] fun a b =>
    asAgg a fun c => unc c fun d e => jl (5,0) d fun f => unn e (unn b (some ((.tup [(.agg [(.os (5,0) f)]),(.os (1,0) p4),(iN (5)),(iN p2)]),[]))))
    (
    grd (decide (0 <= w6 (ni p1 - 1)) && decide (w6 (ni p1 - 1) < ni p1) && decide (0 + p1 <= List.length p5)) (cT p5 (0 + Int.toNat (w6 (ni p1 - 1))) fun a =>
    asAgg a fun b => cT b 1 fun c =>
     jl (1,0) c fun d => asAgg a fun e => jb V 210 [(.op [(.os (5,0) p6)]),(.rs (1,0) d)] fun f g =>
       asI .i64 f fun h => unc g fun i j => nC i fun k => unc k fun l m => jl (5,0) l fun n => unn m (unn j (grd (gW p1 (List.length (List.set p5 (0 + Int.toNat (w6 (ni p1 - 1))) (D.agg (List.take 1 e ++ [D.dead] ++ List.drop 2 e))) - 0) none (some (w6 (ni p1 - 1)))) (grd (decide (0 <= w6 (w6 (ni p1 - 1) - 1)) && decide (w6 (w6 (ni p1 - 1) - 1) < ni (Int.toNat (w6 (ni p1 - 1)))) && decide (0 + Int.toNat (w6 (ni p1 - 1)) <= List.length (List.set p5 (0 + Int.toNat (w6 (ni p1 - 1))) (D.agg (List.take 1 e ++ [D.dead] ++ List.drop 2 e))))) (cT (List.set p5 (0 + Int.toNat (w6 (ni p1 - 1))) (D.agg (List.take 1 e ++ [D.dead] ++ List.drop 2 e))) (0 + Int.toNat (w6 (w6 (ni p1 - 1) - 1))) fun o =>
          asAgg o fun p => cT p 1 fun q =>
           jl (1,0) q fun r => asAgg o fun s => grd (decide (ni (List.length (r ++ [iN h])) <= LIM)) (nam (r ++ [iN h]) fun t =>
            grd (decide (0 <= w6 (w6 (ni p1 - 1) - 1)) && decide (w6 (w6 (ni p1 - 1) - 1) < ni (Int.toNat (w6 (ni p1 - 1)))) && decide (0 + Int.toNat (w6 (ni p1 - 1)) <= List.length (List.set (List.set p5 (0 + Int.toNat (w6 (ni p1 - 1))) (D.agg (List.take 1 e ++ [D.dead] ++ List.drop 2 e))) (0 + Int.toNat (w6 (w6 (ni p1 - 1) - 1))) (D.agg (List.take 1 s ++ [D.dead] ++ List.drop 2 s))))) (cT (List.set (List.set p5 (0 + Int.toNat (w6 (ni p1 - 1))) (D.agg (List.take 1 e ++ [D.dead] ++ List.drop 2 e))) (0 + Int.toNat (w6 (w6 (ni p1 - 1) - 1))) (D.agg (List.take 1 s ++ [D.dead] ++ List.drop 2 s))) (0 + Int.toNat (w6 (w6 (ni p1 - 1) - 1))) fun u =>
             asAgg u fun v => nam (List.set (List.set (List.set p5 (0 + Int.toNat (w6 (ni p1 - 1))) (D.agg (List.take 1 e ++ [D.dead] ++ List.drop 2 e))) (0 + Int.toNat (w6 (w6 (ni p1 - 1) - 1))) (D.agg (List.take 1 s ++ [D.dead] ++ List.drop 2 s))) (0 + Int.toNat (w6 (w6 (ni p1 - 1) - 1)))
 (D.agg
  (List.take 1 v ++
    [D.os
      (1,0)
      t] ++
   List.drop 2 v))) fun w =>
              y1 p0 (Int.toNat (w6 (ni p1 - 1))) (w6 (p2 + 1)) p3 p4 w n)))))))))
   (
    jb V 211 [(.int .u8 (bt p0 p2))] fun a b =>
    asB a fun c => unn b (br c
     (zH p0 p1 p2 (w6 (ni p1 - 1)) p2 p3 p4 p5 p6)
     (
     jb V 147 [(.agg [(.rs (5,0) p3)])] fun d e =>
     asAgg d fun f => unc f fun g h => jl (5,0) g fun i => unn h (unn e (some ((.tup [(.agg [(.os (5,0) i)]),(.os (1,0) p4),(iN (2)),(iN p2)]),[]))))))))))
  (
  br (decide (ni p1 > 1))
  (
   jb V 147 [(.agg [(.rs (5,0) p3)])] fun a b =>
   asAgg a fun c => unc c fun d e => jl (5,0) d fun f => unn e (unn b (grd (decide (0 <= w6 (ni p1 - 1)) && decide (w6 (ni p1 - 1) < ni p1) && decide (0 + p1 <= List.length p5)) (cT p5 (0 + Int.toNat (w6 (ni p1 - 1))) fun g =>
     asAgg g fun h => cT h 0 fun i =>
      asI .i64 i fun j => some ((.tup [(.agg [(.os (5,0) f)]),(.os (1,0) p4),(iN (4)),(iN j)]),[])))))
  (
   jb V 60 [(.agg [(.rs (5,0) p6)])] fun a b =>
   asB a fun c => unn b (br (!c)
    (
    jb V 147 [(.agg [(.rs (5,0) p3)])] fun d e =>
    asAgg d fun f => unc f fun g h => jl (5,0) g fun i => unn h (unn e (some ((.tup [(.agg [(.os (5,0) i)]),(.os (1,0) p4),(iN (6)),(iN (0))]),[]))))
    (
    grd (decide (0 <= 0) && decide (0 < ni p1) && decide (0 + p1 <= List.length p5)) (cT p5 0 fun d =>
    asAgg d fun e => cT e 1 fun f =>
     jl (1,0) f fun g => asAgg d fun _ => grd (decide (ni (List.length ([] ++ g)) <= LIM)) (nam ([] ++ g) fun h =>
       some ((.tup [(.agg [(.os (5,0) p6)]),(.os (1,0) h),(iN (0)),(iN (ni (ByteArray.size p0)))]),[]))))))) := by
 have h := JD p0 p1 p2 p3 p4 p5 p6
 simp only [sz3,fl3] at h
 exact h
theorem zq (p0 : ByteArray) (p1 : Int) (p2 : List D) (p3 : List D) (p4 : List D) (p5 : List D) : y4 p0 p1 p2 p3 p4 p5 =
 br (decide (p1 < ni (ByteArray.size p0)))
  (
  grd (decide (0 <= p1) && decide (p1 < ni (ByteArray.size p0))) (br (bt p0 p1 == 32)
  (y4 p0 (w6 (p1 + 1)) p2 p3 p4 p5)
  (
   br (bt p0 p1 == 40)
   (grd (decide
 (ni
   (List.length
    (p4 ++
     [D.agg
       [iN p1,
        D.os
         (1,0)
         []]])) <=
  LIM)) (nam (p4 ++
 [D.agg
   [iN p1,
    D.os
     (1,0)
     []]]) fun a =>
   y4 p0 (w6 (p1 + 1)) p2 p3 a p5))
   (
   br (bt p0 p1 == 41)
   (
    br (w6 (ni p4.length - 1) == 0)
    (
    jb V 147 [(.agg [(.rs (5,0) p2)])] fun a b =>
    asAgg a fun c => unc c fun d e => jl (5,0) d fun f => unn e (unn b (some ((.tup [(.agg [(.os (5,0) f)]),(.os (1,0) p3),(iN (5)),(iN p1)]),[]))))
    (
    grd (decide (0 <= w6 (ni p4.length - 1)) && decide (w6 (ni p4.length - 1) < ni p4.length)) (cT p4 (Int.toNat (w6 (ni p4.length - 1))) fun a =>
    asAgg a fun b => cT b 1 fun c =>
     jl (1,0) c fun d => asAgg a fun e => jb V 210 [(.op [(.os (5,0) p5)]),(.rs (1,0) d)] fun f g =>
       asI .i64 f fun h => unc g fun i j => nC i fun k => unc k fun l m => jl (5,0) l fun n => unn m (unn j (grd (cW (List.length (List.set p4 (Int.toNat (w6 (ni p4.length - 1))) (D.agg (List.take 1 e ++ [D.dead] ++ List.drop 2 e)))) none (some (w6 (ni p4.length - 1)))) (grd (decide (0 <= w6 (w6 (ni p4.length - 1) - 1)) && decide (w6 (w6 (ni p4.length - 1) - 1) < ni (Int.toNat (w6 (ni p4.length - 1)))) && decide (0 + Int.toNat (w6 (ni p4.length - 1)) <= List.length (List.set p4 (Int.toNat (w6 (ni p4.length - 1))) (D.agg (List.take 1 e ++ [D.dead] ++ List.drop 2 e))))) (cT (List.set p4 (Int.toNat (w6 (ni p4.length - 1))) (D.agg (List.take 1 e ++ [D.dead] ++ List.drop 2 e))) (0 + Int.toNat (w6 (w6 (ni p4.length - 1) - 1))) fun o =>
          asAgg o fun p => cT p 1 fun q =>
           jl (1,0) q fun r => asAgg o fun s => grd (decide (ni (List.length (r ++ [iN h])) <= LIM)) (nam (r ++ [iN h]) fun t =>
            grd (decide (0 <= w6 (w6 (ni p4.length - 1) - 1)) && decide (w6 (w6 (ni p4.length - 1) - 1) < ni (Int.toNat (w6 (ni p4.length - 1)))) && decide (0 + Int.toNat (w6 (ni p4.length - 1)) <= List.length (List.set (List.set p4 (Int.toNat (w6 (ni p4.length - 1))) (D.agg (List.take 1 e ++ [D.dead] ++ List.drop 2 e))) (0 + Int.toNat (w6 (w6 (ni p4.length - 1) - 1))) (D.agg (List.take 1 s ++ [D.dead] ++ List.drop 2 s))))) (cT (List.set (List.set p4 (Int.toNat (w6 (ni p4.length - 1))) (D.agg (List.take 1 e ++ [D.dead] ++ List.drop 2 e))) (0 + Int.toNat (w6 (w6 (ni p4.length - 1) - 1))) (D.agg (List.take 1 s ++ [D.dead] ++ List.drop 2 s))) (0 + Int.toNat (w6 (w6 (ni p4.length - 1) - 1))) fun u =>
             asAgg u fun v => nam (List.set (List.set (List.set p4 (Int.toNat (w6 (ni p4.length - 1))) (D.agg (List.take 1 e ++ [D.dead] ++ List.drop 2 e))) (0 + Int.toNat (w6 (w6 (ni p4.length - 1) - 1))) (D.agg (List.take 1 s ++ [D.dead] ++ List.drop 2 s))) (0 + Int.toNat (w6 (w6 (ni p4.length - 1) - 1)))
 (D.agg
  (List.take 1 v ++
    [D.os
      (1,0)
      t] ++
   List.drop 2 v))) fun w =>
              y1 p0 (Int.toNat (w6 (ni p4.length - 1))) (w6 (p1 + 1)) p2 p3 w n)))))))))
   (
    jb V 211 [(.int .u8 (bt p0 p1))] fun a b =>
    asB a fun c => unn b (br c
     (z6 p0 p1 (w6 (ni p4.length - 1)) p1 p2 p3 p4 p5)
     (
     jb V 147 [(.agg [(.rs (5,0) p2)])] fun d e =>
     asAgg d fun f => unc f fun g h => jl (5,0) g fun i => unn h (unn e (some ((.tup [(.agg [(.os (5,0) i)]),(.os (1,0) p3),(iN (2)),(iN p1)]),[]))))))))))
  (
  br (decide (ni p4.length > 1))
  (
   jb V 147 [(.agg [(.rs (5,0) p2)])] fun a b =>
   asAgg a fun c => unc c fun d e => jl (5,0) d fun f => unn e (unn b (grd (decide (0 <= w6 (ni p4.length - 1)) && decide (w6 (ni p4.length - 1) < ni p4.length)) (cT p4 (Int.toNat (w6 (ni p4.length - 1))) fun g =>
     asAgg g fun h => cT h 0 fun i =>
      asI .i64 i fun j => some ((.tup [(.agg [(.os (5,0) f)]),(.os (1,0) p3),(iN (4)),(iN j)]),[])))))
  (
   jb V 60 [(.agg [(.rs (5,0) p5)])] fun a b =>
   asB a fun c => unn b (br (!c)
    (
    jb V 147 [(.agg [(.rs (5,0) p2)])] fun d e =>
    asAgg d fun f => unc f fun g h => jl (5,0) g fun i => unn h (unn e (some ((.tup [(.agg [(.os (5,0) i)]),(.os (1,0) p3),(iN (6)),(iN (0))]),[]))))
    (
    grd (decide (0 <= 0) && decide (0 < ni p4.length)) (cT p4 0 fun d =>
    asAgg d fun e => cT e 1 fun f =>
     jl (1,0) f fun g => asAgg d fun _ => grd (decide (ni (List.length ([] ++ g)) <= LIM)) (nam ([] ++ g) fun h =>
       some ((.tup [(.agg [(.os (5,0) p5)]),(.os (1,0) h),(iN (0)),(iN (ni (ByteArray.size p0)))]),[]))))))) := by
 have h := Lp p0 p1 p2 p3 p4 p5
 simp only [sz3,fl3] at h
 exact h
theorem Fq (p0 : ByteArray) (p1 : Int) (p2 : Int) (p3 : Int) (p4 : List D) (p5 : List D) (p6 : List D) (p7 : List D) : z6 p0 p1 p2 p3 p4 p5 p6 p7 =
 br (decide (p1 < ni (ByteArray.size p0)))
  (
  grd (decide (0 <= p1) && decide (p1 < ni (ByteArray.size p0))) (jb V 211 [(.int .u8 (bt p0 p1))] fun a b =>
  asB a fun c => unn b (br c
   (z6 p0 (w6 (p1 + 1)) p2 p3 p4 p5 p6 p7)
   (
    grd (cW (ByteArray.size p0) (some p3) (some p1)) (jb V 212 [(.str (ByteArray.extract p0 p3.toNat p1.toNat))] fun d e =>
    iV d fun f => unc f fun g h => tk6 g fun i j k l m => (unc h fun n o => asB n fun p => unn o (unn e (br (!p)
            (
            jb V 147 [(.agg [(.rs (5,0) p4)])] fun q r =>
            asAgg q fun s => unc s fun t u => jl (5,0) t fun v => unn u (unn r (some ((.tup [(.agg [(.os (5,0) v)]),(.os (1,0) p5),(iN (3)),(iN p3)]),[]))))
            (
            grd (decide (0 <= p2) && decide (p2 < ni p6.length)) (cT p6 p2.toNat fun q =>
            asAgg q fun r => cT r 1 fun s =>
             jl (1,0) s fun t => asAgg q fun u => jb V 158 [(.op [(.os (5,0) p7)]),(.agg [(iN i),(iN j),(.str k),(iN l),(iN m)])] fun v w =>
               asI .i64 v fun x => unc w fun y z => nC y fun A => unc A fun B C => jl (5,0) B fun E => unn C (unn z (grd (decide (ni (List.length (t ++ [iN x])) <= LIM)) (nam (t ++ [iN x]) fun F =>
                  grd (decide (0 <= p2) && decide (p2 < ni (List.length (List.set p6 p2.toNat (D.agg (List.take 1 u ++ [D.dead] ++ List.drop 2 u)))))) (cT (List.set p6 p2.toNat (D.agg (List.take 1 u ++ [D.dead] ++ List.drop 2 u))) p2.toNat fun G =>
                  asAgg G fun H => nam (List.set (List.set p6 p2.toNat (D.agg (List.take 1 u ++ [D.dead] ++ List.drop 2 u))) p2.toNat
 (D.agg
  (List.take 1 H ++
    [D.os
      (1,0)
      F] ++
   List.drop 2 H))) fun I =>
                   y4 p0 p1 p4 p5 I E))))))))))))))
  (
  grd (cW (ByteArray.size p0) (some p3) (some p1)) (jb V 212 [(.str (ByteArray.extract p0 p3.toNat p1.toNat))] fun a b =>
  iV a fun c => unc c fun d e => tk6 d fun f g h i j => (unc e fun k l => asB k fun m => unn l (unn b (br (!m)
          (
           jb V 147 [(.agg [(.rs (5,0) p4)])] fun n o =>
           asAgg n fun p => unc p fun q r => jl (5,0) q fun s => unn r (unn o (some ((.tup [(.agg [(.os (5,0) s)]),(.os (1,0) p5),(iN (3)),(iN p3)]),[]))))
          (
           grd (decide (0 <= p2) && decide (p2 < ni p6.length)) (cT p6 p2.toNat fun n =>
           asAgg n fun o => cT o 1 fun p =>
            jl (1,0) p fun q => asAgg n fun r => jb V 158 [(.op [(.os (5,0) p7)]),(.agg [(iN f),(iN g),(.str h),(iN i),(iN j)])] fun s t =>
             asI .i64 s fun u => unc t fun v w => nC v fun x => unc x fun y z => jl (5,0) y fun A => unn z (unn w (grd (decide (ni (List.length (q ++ [iN u])) <= LIM)) (nam (q ++ [iN u]) fun B =>
                grd (decide (0 <= p2) && decide (p2 < ni (List.length (List.set p6 p2.toNat (D.agg (List.take 1 r ++ [D.dead] ++ List.drop 2 r)))))) (cT (List.set p6 p2.toNat (D.agg (List.take 1 r ++ [D.dead] ++ List.drop 2 r))) p2.toNat fun C =>
                 asAgg C fun E => nam (List.set (List.set p6 p2.toNat (D.agg (List.take 1 r ++ [D.dead] ++ List.drop 2 r))) p2.toNat
 (D.agg
  (List.take 1 E ++
    [D.os
      (1,0)
      B] ++
   List.drop 2 E))) fun F =>
                  y4 p0 p1 p4 p5 F A))))))))))) := by
 have h := Ki p0 p1 p2 p3 p4 p5 p6 p7
 simp only [sz3,fl3] at h
 exact h
theorem Dt (p0 : ByteArray) (p1 : Nat) (p2 : Int) (p3 : Int) (p4 : Int) (p5 : List D) (p6 : List D) (p7 : List D) (p8 : List D) : zH p0 p1 p2 p3 p4 p5 p6 p7 p8 =
 br (decide (p2 < ni (ByteArray.size p0)))
  (
  grd (decide (0 <= p2) && decide (p2 < ni (ByteArray.size p0))) (jb V 211 [(.int .u8 (bt p0 p2))] fun a b =>
  asB a fun c => unn b (br c
   (zH p0 p1 (w6 (p2 + 1)) p3 p4 p5 p6 p7 p8)
   (
    grd (cW (ByteArray.size p0) (some p4) (some p2)) (jb V 212 [(.str (ByteArray.extract p0 p4.toNat p2.toNat))] fun d e =>
    iV d fun f => unc f fun g h => tk6 g fun i j k l m => (unc h fun n o => asB n fun p => unn o (unn e (br (!p)
            (
            jb V 147 [(.agg [(.rs (5,0) p5)])] fun q r =>
            asAgg q fun s => unc s fun t u => jl (5,0) t fun v => unn u (unn r (some ((.tup [(.agg [(.os (5,0) v)]),(.os (1,0) p6),(iN (3)),(iN p4)]),[]))))
            (
            grd (decide (0 <= p3) && decide (p3 < ni p1) && decide (0 + p1 <= List.length p7)) (cT p7 (0 + Int.toNat p3) fun q =>
            asAgg q fun r => cT r 1 fun s =>
             jl (1,0) s fun t => asAgg q fun u => jb V 158 [(.op [(.os (5,0) p8)]),(.agg [(iN i),(iN j),(.str k),(iN l),(iN m)])] fun v w =>
               asI .i64 v fun x => unc w fun y z => nC y fun A => unc A fun B C => jl (5,0) B fun E => unn C (unn z (grd (decide (ni (List.length (t ++ [iN x])) <= LIM)) (nam (t ++ [iN x]) fun F =>
                  grd (decide (0 <= p3) && decide (p3 < ni p1) && decide (0 + p1 <= List.length (List.set p7 (0 + Int.toNat p3) (D.agg (List.take 1 u ++ [D.dead] ++ List.drop 2 u))))) (cT (List.set p7 (0 + Int.toNat p3) (D.agg (List.take 1 u ++ [D.dead] ++ List.drop 2 u))) (0 + Int.toNat p3) fun G =>
                  asAgg G fun H => nam (List.set (List.set p7 (0 + Int.toNat p3) (D.agg (List.take 1 u ++ [D.dead] ++ List.drop 2 u))) (0 + Int.toNat p3)
 (D.agg
  (List.take 1 H ++
    [D.os
      (1,0)
      F] ++
   List.drop 2 H))) fun I =>
                   y1 p0 p1 p2 p5 p6 I E))))))))))))))
  (
  grd (cW (ByteArray.size p0) (some p4) (some p2)) (jb V 212 [(.str (ByteArray.extract p0 p4.toNat p2.toNat))] fun a b =>
  iV a fun c => unc c fun d e => tk6 d fun f g h i j => (unc e fun k l => asB k fun m => unn l (unn b (br (!m)
          (
           jb V 147 [(.agg [(.rs (5,0) p5)])] fun n o =>
           asAgg n fun p => unc p fun q r => jl (5,0) q fun s => unn r (unn o (some ((.tup [(.agg [(.os (5,0) s)]),(.os (1,0) p6),(iN (3)),(iN p4)]),[]))))
          (
           grd (decide (0 <= p3) && decide (p3 < ni p1) && decide (0 + p1 <= List.length p7)) (cT p7 (0 + Int.toNat p3) fun n =>
           asAgg n fun o => cT o 1 fun p =>
            jl (1,0) p fun q => asAgg n fun r => jb V 158 [(.op [(.os (5,0) p8)]),(.agg [(iN f),(iN g),(.str h),(iN i),(iN j)])] fun s t =>
             asI .i64 s fun u => unc t fun v w => nC v fun x => unc x fun y z => jl (5,0) y fun A => unn z (unn w (grd (decide (ni (List.length (q ++ [iN u])) <= LIM)) (nam (q ++ [iN u]) fun B =>
                grd (decide (0 <= p3) && decide (p3 < ni p1) && decide (0 + p1 <= List.length (List.set p7 (0 + Int.toNat p3) (D.agg (List.take 1 r ++ [D.dead] ++ List.drop 2 r))))) (cT (List.set p7 (0 + Int.toNat p3) (D.agg (List.take 1 r ++ [D.dead] ++ List.drop 2 r))) (0 + Int.toNat p3) fun C =>
                 asAgg C fun E => nam (List.set (List.set p7 (0 + Int.toNat p3) (D.agg (List.take 1 r ++ [D.dead] ++ List.drop 2 r))) (0 + Int.toNat p3)
 (D.agg
  (List.take 1 E ++
    [D.os
      (1,0)
      B] ++
   List.drop 2 E))) fun F =>
                  y1 p0 p1 p2 p5 p6 F A))))))))))) := by
 have h := Jp p0 p1 p2 p3 p4 p5 p6 p7 p8
 simp only [sz3,fl3] at h
 exact h
theorem S6 (a0_0 : List D) (a1_ : ByteArray) : V 191 [.agg [.rs (5,0) a0_0],.str a1_] =
 jb V 60 [(.agg [(.rs (5,0) a0_0)])] fun a b =>
  asB a fun c => unn b (br (!c)
   (some ((.tup [(.agg [(.os (5,0) [])]),(.os (1,0) []),(iN (6)),(iN (0))]),[]))
   (
   br (decide (ni (ByteArray.size a1_) > 400))
   (
    jb V 147 [(.agg [(.rs (5,0) a0_0)])] fun d e =>
    asAgg d fun f => unc f fun g h => jl (5,0) g fun i => unn h (unn e (some ((.tup [(.agg [(.os (5,0) i)]),(.os (1,0) []),(iN (1)),(iN (0))]),[]))))
   (
    jb V 147 [(.agg [(.rs (5,0) a0_0)])] fun d e =>
    asAgg d fun f => unc f fun g h => jl (5,0) g fun i => unn h (unn e (y4 a1_ (0) a0_0 [] ([D.agg
  [iN (0),
   D.os
    (1,0)
    []]]) i))))) := by
 have h := Tp a0_0 a1_
 simp only [sz3,fl3] at h
 exact h

end Go.Eng
